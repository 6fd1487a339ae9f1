/- Of this text what the row needs. -/
import Derived.Test.YtmnoecpnoofdjaaQPenCostKshelf
import Derived.Test.YtmnoecpnoofdjaaQPenCostKbits
import Derived.Test.YtmnoecpnoofdjaaQPenCostKgeom
import Derived.Test.YtmnoecpnoofdjaaQPenCostKhuff
import Derived.Test.YtmnoecpnoofdjaaQPenCostKruns
namespace Go.Proofs.Ytmnoecpnoofdjaa.G
open Go.RowKit
set_option linter.unusedVariables false
set_option linter.unusedSimpArgs false
def pen_open.enc : (Option Addr) × Int → Value := fun r => .tuple #[.pointer r.1, .int .i64 r.2]
def pen_open.s (a0_0 : Int) (a0_1 : Int) (a0_2 : Int) (a0_3 : Sl) (a0_4 : Sl) (a0_5 : Ints 16) (a0_6 : Sl) (a0_7 : Ints 16) (a0_8 : Sl) (a0_9 : Ints 16) (a0_10 : Sl) (a0_11 : Ints 16) (a0_12 : Sl) (a0_13 : Ints 16) (a0_14 : Sl) (a0_15 : Ints 16) (a0_16 : Sl) (a0_17 : Ints 16) (a0_18 : Sl) (a0_19 : Ints 16) (a0_20 : Sl) (a0_21 : Int) (a0_22 : Int) (a1 : Bool) (H0 : Hp) (Q : ((Option Addr) × Int) → Hp → Prop) : Prop :=
  Gn [] H0 (fun (b1 : Nat) (H2 : Hp) => geom_Parts.s a0_0 a0_1 a0_2 a0_3 a0_4 H2 (fun x3 H4 => Pv [b1] H2 H4 ∧ (if (x3 != 0) = true then (Q (none, x3) H4) else (Gn [] H4 (fun (b6 : Nat) (H7 : Hp) => Bk H7 b6 70 (c70 a0_0 a0_1 a0_2 a0_3 a0_4 a0_5 a0_6 a0_7 a0_8 a0_9 a0_10 a0_11 a0_12 a0_13 a0_14 a0_15 a0_16 a0_17 a0_18 a0_19 a0_20 a0_21 a0_22 ⟨none, 0, 0⟩ ⟨none, 0, 0⟩) → (Bk H7 b1 32 (c32 a0_0 a0_1 a0_2 a0_3 a0_4 a0_5 a0_6 a0_7 a0_8 a0_9 a0_10 a0_11 a0_12 a0_13 a0_14 a0_15 a0_16 a0_17 a0_18 a0_19 a0_20 a0_21 a0_22) → (Join (fun (s9 : Unit) (H10 : Hp) => ∃ x11 : Int, ∃ x12 : Int, ∃ x13 : Int, ∃ x14 : Sl, ldA H10 (⟨b1, 0, none⟩ : Addr) (c24 x11 x12 x13 x14) ∧ (ldL H10 (⟨b1, 4, none⟩ : Addr) (fun x16 => geom_Units.s x11 x12 x13 x14 x16 H10 (fun x18 H19 => Join (fun (s21 : Bool) (H22 : Hp) => if s21 = true then (Q (none, 3) H22) else (Q ((some (⟨b6, 0, none⟩ : Addr)), 0) H22)) (fun (J20 : Bool → Hp → Prop) => ldI .i64 H19 (⟨b1, 141, none⟩ : Addr) (fun x23 => if decide (x23 < 0) = true then (J20 (true) H19) else (ldI .i64 H19 (⟨b1, 142, none⟩ : Addr) (fun x25 => if decide (x25 < 0) = true then (J20 (true) H19) else (ldI .i64 H19 (⟨b1, 142, none⟩ : Addr) (fun x27 => if decide ((IntKind.wrap .i64 (x18.1 * x18.2)) < x27) = true then (J20 (true) H19) else (ldI .i64 H19 (⟨b1, 141, none⟩ : Addr) (fun x29 => ldI .i64 H19 (⟨b1, 142, none⟩ : Addr) (fun x31 => J20 ((decide ((IntKind.wrap .i64 ((IntKind.wrap .i64 (x18.1 * x18.2)) - x31)) < x29))) H19))))))))))))) (fun (J8 : Unit → Hp → Prop) => ldL H7 (⟨b1, 4, none⟩ : Addr) (fun x33 => ∃ k35, Fix (fun (rec40 : Int → Hp → Prop) (s37 : Int) (H38 : Hp) => if decide (s37 < (x33.n : Int)) = true then (Join (fun (s42 : Unit) (H43 : Hp) => rec40 ((IntKind.wrap .i64 (s37 + 1))) H43) (fun (J41 : Unit → Hp → Prop) => 0 ≤ s37 ∧ s37 < (x33.n : Int) ∧ someA x33.a (fun p46 => ∃ x48 : Int, ∃ x49 : Int, ∃ x50 : Int, ldA H38 (p46.add (Int.toNat s37 * 3)) (c76 x48 x49 x50) ∧ (Gn [] H38 (fun (b52 : Nat) (H54 : Hp) => if (!a1) = true then (J8 () H54) else (0 ≤ x49 ∧ x49 < (4 : Int) ∧ (∃ x57 : Ints 16, ∃ x58 : Sl, ldA H54 ((⟨b1, 5, none⟩ : Addr).add (Int.toNat x49 * 17)) (c29 x57 x58) ∧ (huff_New.s x57 x58 H54 (fun x60 H61 => Pv [b52] H54 H61 ∧ (if (x60.2 != 0) = true then (Q (none, x60.2) H61) else (0 ≤ x50 ∧ x50 < (4 : Int) ∧ (∃ x65 : Ints 16, ∃ x66 : Sl, ldA H61 ((⟨b1, 73, none⟩ : Addr).add (Int.toNat x50 * 17)) (c29 x65 x66) ∧ (huff_New.s x65 x66 H61 (fun x68 H69 => if (x68.2 != 0) = true then (Q (none, x68.2) H69) else (ldL H69 (⟨b6, 143, none⟩ : Addr) (fun x71 => ldL H69 (⟨b6, 144, none⟩ : Addr) (fun x73 => (nw H69 67 [.pointer x60.1] (fun p75 H76 => cellAt H76 (⟨b6, 144, none⟩ : Addr) = some (.slice x73.a x73.n x73.c) ∧ cellAt H76 (⟨b6, 143, none⟩ : Addr) = some (.slice x71.a x71.n x71.c) ∧ ((apS H76 x71 67 1 8 z67.cells 1 [.pointer x60.1] (fun l82 H83 => cellAt H83 (⟨b6, 144, none⟩ : Addr) = some (.slice x73.a x73.n x73.c) ∧ (nw H83 67 [.pointer x68.1] (fun p85 H86 => cellAt H86 (⟨b6, 144, none⟩ : Addr) = some (.slice x73.a x73.n x73.c) ∧ (apS H86 x73 67 1 8 z67.cells 1 [.pointer x68.1] (fun l91 H92 => st H92 (⟨b6, 143, none⟩ : Addr) (.slice l82.a l82.n l82.c) (fun H93 => st H93 (⟨b6, 144, none⟩ : Addr) (.slice l91.a l91.n l91.c) (fun H94 => J41 () H94)))))))) ∧ (nw H76 67 [.pointer x68.1] (fun p95 H96 => cellAt H96 (⟨b6, 144, none⟩ : Addr) = some (.slice x73.a x73.n x73.c) ∧ cellAt H96 (⟨b6, 143, none⟩ : Addr) = some (.slice x71.a x71.n x71.c) ∧ (∃ y104 : List Value, y104.length = 1 * 1 ∧ rdS H96 (some p75) y104 ∧ apS H96 x71 67 1 8 z67.cells 1 y104 (fun l102 H103 => cellAt H103 (⟨b6, 144, none⟩ : Addr) = some (.slice x73.a x73.n x73.c) ∧ (∃ y111 : List Value, y111.length = 1 * 1 ∧ rdS H103 (some p95) y111 ∧ apS H103 x73 67 1 8 z67.cells 1 y111 (fun l109 H110 => st H110 (⟨b6, 143, none⟩ : Addr) (.slice l102.a l102.n l102.c) (fun H114 => st H114 (⟨b6, 144, none⟩ : Addr) (.slice l109.a l109.n l109.c) (fun H115 => J41 () H115))))))))))) ∧ (nw H69 67 [.pointer x68.1] (fun p116 H117 => cellAt H117 (⟨b6, 144, none⟩ : Addr) = some (.slice x73.a x73.n x73.c) ∧ cellAt H117 (⟨b6, 143, none⟩ : Addr) = some (.slice x71.a x71.n x71.c) ∧ (nw H117 67 [.pointer x60.1] (fun p122 H123 => cellAt H123 (⟨b6, 144, none⟩ : Addr) = some (.slice x73.a x73.n x73.c) ∧ cellAt H123 (⟨b6, 143, none⟩ : Addr) = some (.slice x71.a x71.n x71.c) ∧ (apS H123 x71 67 1 8 z67.cells 1 [.pointer x60.1] (fun l129 H130 => cellAt H130 (⟨b6, 144, none⟩ : Addr) = some (.slice x73.a x73.n x73.c) ∧ (∃ y135 : List Value, y135.length = 1 * 1 ∧ rdS H130 (some p116) y135 ∧ apS H130 x73 67 1 8 z67.cells 1 y135 (fun l133 H134 => st H134 (⟨b6, 143, none⟩ : Addr) (.slice l129.a l129.n l129.c) (fun H138 => st H138 (⟨b6, 144, none⟩ : Addr) (.slice l133.a l133.n l133.c) (fun H139 => J41 () H139))))))))))))))))))))))))))) else (J8 () H38)) k35 (0) H7)))))))))
set_option maxRecDepth 20000 in
set_option maxHeartbeats 4000000 in
theorem pen_open.calls (a0_0 : Int) (a0_1 : Int) (a0_2 : Int) (a0_3 : Sl) (a0_4 : Sl) (a0_5 : Ints 16) (a0_6 : Sl) (a0_7 : Ints 16) (a0_8 : Sl) (a0_9 : Ints 16) (a0_10 : Sl) (a0_11 : Ints 16) (a0_12 : Sl) (a0_13 : Ints 16) (a0_14 : Sl) (a0_15 : Ints 16) (a0_16 : Sl) (a0_17 : Ints 16) (a0_18 : Sl) (a0_19 : Ints 16) (a0_20 : Sl) (a0_21 : Int) (a0_22 : Int) (a1 : Bool) (w0 : World) (Q : ((Option Addr) × Int) → Hp → Prop) (h : pen_open.s a0_0 a0_1 a0_2 a0_3 a0_4 a0_5 a0_6 a0_7 a0_8 a0_9 a0_10 a0_11 a0_12 a0_13 a0_14 a0_15 a0_16 a0_17 a0_18 a0_19 a0_20 a0_21 a0_22 a1 w0.heap Q) :
    Ca Try.prog 14 #[.agg (c32 a0_0 a0_1 a0_2 a0_3 a0_4 a0_5 a0_6 a0_7 a0_8 a0_9 a0_10 a0_11 a0_12 a0_13 a0_14 a0_15 a0_16 a0_17 a0_18 a0_19 a0_20 a0_21 a0_22).toArray, .bool a1] w0 (Rt pen_open.enc Q w0) := by
  refine ca_start (c := _) Try.func14 rfl Try.ntmps14 rfl ?_
  have so : Sm w0 w0 := Sm.refl w0
  unfold pen_open.s at h
  refine wc_prune [(0, .agg (c32 a0_0 a0_1 a0_2 a0_3 a0_4 a0_5 a0_6 a0_7 a0_8 a0_9 a0_10 a0_11 a0_12 a0_13 a0_14 a0_15 a0_16 a0_17 a0_18 a0_19 a0_20 a0_21 a0_22).toArray), (1, .bool a1)] ⟨rfl, rfl, trivial⟩ (fun f1 => ?_)
  refine wc_seq ?_
  refine wc_region ?_
  refine wl_newT (T := 32) (cs := (c32 a0_0 a0_1 a0_2 a0_3 a0_4 a0_5 a0_6 a0_7 a0_8 a0_9 a0_10 a0_11 a0_12 a0_13 a0_14 a0_15 a0_16 a0_17 a0_18 a0_19 a0_20 a0_21 a0_22)) (ef_box rfl rfl) rfl so ?_; intro b1 w2 hb_b1 t_b1 k_b1 so
  have g_b1 := Nat.le_of_eq hb_b1.symm
  have hc := k_b1.ch (F := [])
  refine wl_val (at_assign rfl) rfl ?_
  refine wl_val (at_assign rfl) rfl ?_
  refine wl_nil ?_
  refine wk_prune [(1, .bool a1), (2, .pointer (some (⟨b1, 0, none⟩ : Addr)))] ⟨rfl, rfl, trivial⟩ (fun f1 => ?_)
  refine wk_then ?_
  refine wc_seq ?_
  refine wc_seq ?_
  refine wc_region ?_
  refine wl_val (at_fieldAddr Try.underlying32 rfl rfl sz24 (by decide) rfl) rfl ?_
  refine wl_val (at_loadA (cs := (c24 a0_0 a0_1 a0_2 a0_3)) Try.underlying24 rfl (by rw [len24]; exact sz24) rfl (ldA_sub (pre := []) (sub := (c24 a0_0 a0_1 a0_2 a0_3)) (post := ([.slice a0_4.a a0_4.n a0_4.c] ++ (ints .u8 a0_5.1) ++ [.slice a0_6.a a0_6.n a0_6.c] ++ (ints .u8 a0_7.1) ++ [.slice a0_8.a a0_8.n a0_8.c] ++ (ints .u8 a0_9.1) ++ [.slice a0_10.a a0_10.n a0_10.c] ++ (ints .u8 a0_11.1) ++ [.slice a0_12.a a0_12.n a0_12.c] ++ (ints .u8 a0_13.1) ++ [.slice a0_14.a a0_14.n a0_14.c] ++ (ints .u8 a0_15.1) ++ [.slice a0_16.a a0_16.n a0_16.c] ++ (ints .u8 a0_17.1) ++ [.slice a0_18.a a0_18.n a0_18.c] ++ (ints .u8 a0_19.1) ++ [.slice a0_20.a a0_20.n a0_20.c, .int .i64 a0_21, .int .i64 a0_22])) (by first | exact t_b1 | (have q := t_b1; simp only [List.append_assoc, List.cons_append, List.nil_append, List.append_nil] at q ⊢; exact q)) (by first | rfl | simp [ints_len, bools_len]))) rfl ?_
  refine wl_val (at_fieldAddr Try.underlying32 rfl rfl sz25 (by decide) rfl) rfl ?_
  refine wl_val (at_load (v := .slice a0_4.a a0_4.n a0_4.c) Try.underlying25 rfl rfl ((t_b1.cell 4).trans (by first | rfl | simp [List.getElem?_append, ints_len, bools_len]))) rfl ?_
  replace h := h b1 _ hc g_b1 t_b1.lt; clear hc
  refine wl_callF (geom_Parts.calls _ _ _ _ _ _ _ h) enter34 rfl trivial so ?_; intro x3 w4 h so
  obtain ⟨q5, h⟩ := h
  replace t_b1 := pv_bk q5 t_b1 (by simp)
  refine wl_val (at_assign rfl) rfl ?_
  refine wl_nil ?_
  refine wk_prune [(1, .bool a1), (2, .pointer (some (⟨b1, 0, none⟩ : Addr))), (6, .int .i64 x3)] ⟨rfl, rfl, rfl, trivial⟩ (fun f1 => ?_)
  refine wk_then ?_
  refine wc_seq ?_
  refine wc_region ?_
  refine wl_val (at_move rfl) rfl ?_
  refine wl_val (at_neq rfl rfl) rfl ?_
  refine wl_nil ?_
  refine wk_prune [(1, .bool a1), (2, .pointer (some (⟨b1, 0, none⟩ : Addr))), (6, .int .i64 x3), (22, .bool (x3 != 0))] ⟨rfl, rfl, rfl, rfl, trivial⟩ (fun f1 => ?_)
  refine wk_then ?_
  refine wc_cond rfl h (fun h => ?_) (fun h => ?_)
  · refine wc_seq ?_
    refine wc_region ?_
    refine wl_val (at_move rfl) rfl ?_
    refine wl_val (at_assign rfl) rfl ?_
    refine wl_val (at_assign rfl) rfl ?_
    refine wl_nil ?_
    refine wk_prune [(4, .pointer none), (5, .int .i64 x3)] ⟨rfl, rfl, trivial⟩ (fun f1 => ?_)
    refine wk_then ?_
    refine wc_ret ?_
    refine wk_thenR ?_
    exact wk_ret2 (x := (none, x3)) rfl (by decide) (by decide) rfl so h
  · refine wc_skip ?_
    refine wk_prune [(1, .bool a1), (2, .pointer (some (⟨b1, 0, none⟩ : Addr)))] ⟨rfl, rfl, trivial⟩ (fun f1 => ?_)
    refine wk_then ?_
    refine wc_seq ?_
    refine wc_region ?_
    refine wl_val (at_loadA (cs := (c32 a0_0 a0_1 a0_2 a0_3 a0_4 a0_5 a0_6 a0_7 a0_8 a0_9 a0_10 a0_11 a0_12 a0_13 a0_14 a0_15 a0_16 a0_17 a0_18 a0_19 a0_20 a0_21 a0_22)) Try.underlying32 rfl (by rw [len32]; exact sz32) rfl (ldA_full t_b1)) rfl ?_
    refine wl_val (at_build (cs := (c70 a0_0 a0_1 a0_2 a0_3 a0_4 a0_5 a0_6 a0_7 a0_8 a0_9 a0_10 a0_11 a0_12 a0_13 a0_14 a0_15 a0_16 a0_17 a0_18 a0_19 a0_20 a0_21 a0_22 ⟨none, 0, 0⟩ ⟨none, 0, 0⟩)) (ps := [(0, .agg (c32 a0_0 a0_1 a0_2 a0_3 a0_4 a0_5 a0_6 a0_7 a0_8 a0_9 a0_10 a0_11 a0_12 a0_13 a0_14 a0_15 a0_16 a0_17 a0_18 a0_19 a0_20 a0_21 a0_22).toArray)]) rfl (build_struct (szs := [143, 1, 1]) (vs := [.agg (c32 0 0 0 ⟨none, 0, 0⟩ ⟨none, 0, 0⟩ (zInts 16) ⟨none, 0, 0⟩ (zInts 16) ⟨none, 0, 0⟩ (zInts 16) ⟨none, 0, 0⟩ (zInts 16) ⟨none, 0, 0⟩ (zInts 16) ⟨none, 0, 0⟩ (zInts 16) ⟨none, 0, 0⟩ (zInts 16) ⟨none, 0, 0⟩ (zInts 16) ⟨none, 0, 0⟩ 0 0).toArray, .slice none 0 0, .slice none 0 0]) (cs := (c70 a0_0 a0_1 a0_2 a0_3 a0_4 a0_5 a0_6 a0_7 a0_8 a0_9 a0_10 a0_11 a0_12 a0_13 a0_14 a0_15 a0_16 a0_17 a0_18 a0_19 a0_20 a0_21 a0_22 ⟨none, 0, 0⟩ ⟨none, 0, 0⟩)) zero70 (by first | rfl | simp [z70, c70, c32, len32, Value.cells, ints_len, bools_len, List.flatMap]) Try.underlying70 (by kernel_rfl) (by simp [z70, c70, c32, len32, Value.cells, ints_len, bools_len]) (by simp [z70, c70, c32, len32, Value.cells, ints_len, bools_len]) (by first | rfl | simp [z70, c70, c32, len32, Value.cells, ints_len, bools_len, List.set, List.flatMap, mkI, mkB, ints, bools]))) rfl ?_
    refine wl_newT (T := 70) (cs := (c70 a0_0 a0_1 a0_2 a0_3 a0_4 a0_5 a0_6 a0_7 a0_8 a0_9 a0_10 a0_11 a0_12 a0_13 a0_14 a0_15 a0_16 a0_17 a0_18 a0_19 a0_20 a0_21 a0_22 ⟨none, 0, 0⟩ ⟨none, 0, 0⟩)) (ef_box rfl rfl) rfl so ?_; intro b6 w7 hb_b6 t_b6 k_b6 so
    have g_b6 := Nat.le_of_eq hb_b6.symm
    have hc := k_b6.ch (F := [])
    have n_b1_b6 : b1 ≠ b6 := fun e => by have := t_b1.lt; omega
    replace t_b1 := t_b1.keep k_b6
    refine wl_val (at_assign rfl) rfl ?_
    refine wl_nil ?_
    refine wk_prune [(1, .bool a1), (2, .pointer (some (⟨b1, 0, none⟩ : Addr))), (7, .pointer (some (⟨b6, 0, none⟩ : Addr)))] ⟨rfl, rfl, rfl, trivial⟩ (fun f1 => ?_)
    refine wk_then ?_
    replace h := h b6 _ hc g_b6 t_b6.lt; clear hc
    replace h := h t_b6
    replace h := h t_b1
    refine wc_seq ?_
    refine wc_join (w0 := w0) (fun (s9 : Unit) => [(2, .pointer (some (⟨b1, 0, none⟩ : Addr))), (7, .pointer (some (⟨b6, 0, none⟩ : Addr)))]) h ?_ ?_
    · rintro s9 w10 f1 h so; refine wk_then ?_
      refine wc_seq ?_
      refine wc_region ?_
      refine wl_val (at_fieldAddr Try.underlying32 rfl rfl sz24 (by decide) rfl) rfl ?_
      obtain ⟨x11, x12, x13, x14, q15, h⟩ := h
      refine wl_val (at_loadA (cs := (c24 x11 x12 x13 x14)) Try.underlying24 rfl (by rw [len24]; exact sz24) rfl q15) rfl ?_
      refine wl_val (at_fieldAddr Try.underlying32 rfl rfl sz25 (by decide) rfl) rfl ?_
      obtain ⟨x16, q17, h⟩ := h
      refine wl_val (at_load Try.underlying25 rfl rfl q17) rfl ?_
      refine wl_callF (geom_Units.calls _ _ _ _ _ _ _ h) enter35 rfl trivial so ?_; intro x18 w19 h so
      refine wl_val (at_move rfl) rfl ?_
      refine wl_val (at_extract rfl rfl) rfl ?_
      refine wl_val (at_extract rfl rfl) rfl ?_
      refine wl_val (at_assign rfl) rfl ?_
      refine wl_val (at_assign rfl) rfl ?_
      refine wl_nil ?_
      refine wk_prune [(2, .pointer (some (⟨b1, 0, none⟩ : Addr))), (7, .pointer (some (⟨b6, 0, none⟩ : Addr))), (13, .int .i64 x18.1), (14, .int .i64 x18.2)] ⟨rfl, rfl, rfl, rfl, trivial⟩ (fun f1 => ?_)
      refine wk_then ?_
      refine wc_seq ?_
      refine wc_seq ?_
      refine wc_region ?_
      refine wl_val (at_move rfl) rfl ?_
      refine wl_val (at_move rfl) rfl ?_
      refine wl_val (at_mul rfl rfl) rfl ?_
      refine wl_val (at_assign rfl) rfl ?_
      refine wl_nil ?_
      refine wk_prune [(2, .pointer (some (⟨b1, 0, none⟩ : Addr))), (7, .pointer (some (⟨b6, 0, none⟩ : Addr))), (15, .int .i64 (IntKind.wrap .i64 (x18.1 * x18.2)))] ⟨rfl, rfl, rfl, trivial⟩ (fun f1 => ?_)
      refine wk_then ?_
      refine wc_seq ?_
      refine wc_join (w0 := w0) (fun (s21 : Bool) => [(7, .pointer (some (⟨b6, 0, none⟩ : Addr))), (114, .bool s21)]) h ?_ ?_
      · rintro s21 w22 f1 h so; refine wk_then ?_
        refine wc_cond rfl h (fun h => ?_) (fun h => ?_)
        · refine wc_seq ?_
          refine wc_region ?_
          refine wl_val (at_assign rfl) rfl ?_
          refine wl_val (at_assign rfl) rfl ?_
          refine wl_nil ?_
          refine wk_prune [(4, .pointer none), (5, .int .i64 3)] ⟨rfl, rfl, trivial⟩ (fun f1 => ?_)
          refine wk_then ?_
          refine wc_ret ?_
          refine wk_thenR ?_
          exact wk_ret2 (x := (none, 3)) rfl (by decide) (by decide) rfl so h
        · refine wc_skip ?_
          refine wk_prune [(7, .pointer (some (⟨b6, 0, none⟩ : Addr)))] ⟨rfl, trivial⟩ (fun f1 => ?_)
          refine wk_then ?_
          refine wc_seq ?_
          refine wc_region ?_
          refine wl_val (at_move rfl) rfl ?_
          refine wl_val (at_assign rfl) rfl ?_
          refine wl_val (at_assign rfl) rfl ?_
          refine wl_nil ?_
          refine wk_prune [(4, .pointer (some (⟨b6, 0, none⟩ : Addr))), (5, .int .i64 0)] ⟨rfl, rfl, trivial⟩ (fun f1 => ?_)
          refine wk_then ?_
          refine wc_ret ?_
          exact wk_ret2 (x := ((some (⟨b6, 0, none⟩ : Addr)), 0)) rfl (by decide) (by decide) rfl so h
      · intro J20 h hJ20
        refine wc_region ?_
        refine wl_val (at_fieldAddr Try.underlying32 rfl rfl sz3 (by decide) rfl) rfl ?_
        obtain ⟨x23, q24, h⟩ := h
        refine wl_val (at_load Try.underlying3 rfl rfl q24) rfl ?_
        refine wl_val (at_lss rfl rfl) rfl ?_
        refine wl_val (at_move rfl) rfl ?_
        refine bif_ h (fun hb h => ?_) (fun hb h => ?_)
        · refine wl_set (t := 95) (v := .bool true) (congrArg Value.bool hb) ?_; clear hb
          refine wl_off (t := 95) rfl (by decide) rfl ?_
          refine wl_off (t := 95) rfl (by decide) rfl ?_
          refine wl_off (t := 95) rfl (by decide) rfl ?_
          refine wl_val (at_pick_t rfl rfl) rfl ?_
          refine wl_val (at_move rfl) rfl ?_
          refine wl_off (t := 100) rfl (by decide) rfl ?_
          refine wl_off (t := 100) rfl (by decide) rfl ?_
          refine wl_off (t := 100) rfl (by decide) rfl ?_
          refine wl_off (t := 100) rfl (by decide) rfl ?_
          refine wl_val (at_pick_t rfl rfl) rfl ?_
          refine wl_val (at_move rfl) rfl ?_
          refine wl_off (t := 106) rfl (by decide) rfl ?_
          refine wl_off (t := 106) rfl (by decide) rfl ?_
          refine wl_off (t := 106) rfl (by decide) rfl ?_
          refine wl_off (t := 106) rfl (by decide) rfl ?_
          refine wl_off (t := 106) rfl (by decide) rfl ?_
          refine wl_off (t := 106) rfl (by decide) rfl ?_
          refine wl_off (t := 106) rfl (by decide) rfl ?_
          refine wl_val (at_pick_t rfl rfl) rfl ?_
          refine wl_nil ?_
          exact wk_prune [(7, .pointer (some (⟨b6, 0, none⟩ : Addr))), (114, .bool true)] ⟨rfl, rfl, trivial⟩ (fun f1 => hJ20 (true) _ f1 h so)
        · refine wl_set (t := 95) (v := .bool false) (congrArg Value.bool hb) ?_; clear hb
          refine wl_on (t := 95) rfl (by decide) rfl ?_
          refine wl_val (at_fieldAddr Try.underlying32 rfl rfl sz3 (by decide) rfl) rfl ?_
          refine wl_on (t := 95) rfl (by decide) rfl ?_
          obtain ⟨x25, q26, h⟩ := h
          refine wl_val (at_load Try.underlying3 rfl rfl q26) rfl ?_
          refine wl_on (t := 95) rfl (by decide) rfl ?_
          refine wl_val (at_lss rfl rfl) rfl ?_
          refine wl_val (at_pick_f rfl rfl) rfl ?_
          refine wl_val (at_move rfl) rfl ?_
          refine bif_ h (fun hb h => ?_) (fun hb h => ?_)
          · refine wl_set (t := 100) (v := .bool true) (congrArg Value.bool hb) ?_; clear hb
            refine wl_off (t := 100) rfl (by decide) rfl ?_
            refine wl_off (t := 100) rfl (by decide) rfl ?_
            refine wl_off (t := 100) rfl (by decide) rfl ?_
            refine wl_off (t := 100) rfl (by decide) rfl ?_
            refine wl_val (at_pick_t rfl rfl) rfl ?_
            refine wl_val (at_move rfl) rfl ?_
            refine wl_off (t := 106) rfl (by decide) rfl ?_
            refine wl_off (t := 106) rfl (by decide) rfl ?_
            refine wl_off (t := 106) rfl (by decide) rfl ?_
            refine wl_off (t := 106) rfl (by decide) rfl ?_
            refine wl_off (t := 106) rfl (by decide) rfl ?_
            refine wl_off (t := 106) rfl (by decide) rfl ?_
            refine wl_off (t := 106) rfl (by decide) rfl ?_
            refine wl_val (at_pick_t rfl rfl) rfl ?_
            refine wl_nil ?_
            exact wk_prune [(7, .pointer (some (⟨b6, 0, none⟩ : Addr))), (114, .bool true)] ⟨rfl, rfl, trivial⟩ (fun f1 => hJ20 (true) _ f1 h so)
          · refine wl_set (t := 100) (v := .bool false) (congrArg Value.bool hb) ?_; clear hb
            refine wl_on (t := 100) rfl (by decide) rfl ?_
            refine wl_val (at_fieldAddr Try.underlying32 rfl rfl sz3 (by decide) rfl) rfl ?_
            refine wl_on (t := 100) rfl (by decide) rfl ?_
            obtain ⟨x27, q28, h⟩ := h
            refine wl_val (at_load Try.underlying3 rfl rfl q28) rfl ?_
            refine wl_on (t := 100) rfl (by decide) rfl ?_
            refine wl_val (at_move rfl) rfl ?_
            refine wl_on (t := 100) rfl (by decide) rfl ?_
            refine wl_val (at_gtr rfl rfl) rfl ?_
            refine wl_val (at_pick_f rfl rfl) rfl ?_
            refine wl_val (at_move rfl) rfl ?_
            refine bif_ h (fun hb h => ?_) (fun hb h => ?_)
            · refine wl_set (t := 106) (v := .bool true) (congrArg Value.bool hb) ?_; clear hb
              refine wl_off (t := 106) rfl (by decide) rfl ?_
              refine wl_off (t := 106) rfl (by decide) rfl ?_
              refine wl_off (t := 106) rfl (by decide) rfl ?_
              refine wl_off (t := 106) rfl (by decide) rfl ?_
              refine wl_off (t := 106) rfl (by decide) rfl ?_
              refine wl_off (t := 106) rfl (by decide) rfl ?_
              refine wl_off (t := 106) rfl (by decide) rfl ?_
              refine wl_val (at_pick_t rfl rfl) rfl ?_
              refine wl_nil ?_
              exact wk_prune [(7, .pointer (some (⟨b6, 0, none⟩ : Addr))), (114, .bool true)] ⟨rfl, rfl, trivial⟩ (fun f1 => hJ20 (true) _ f1 h so)
            · refine wl_set (t := 106) (v := .bool false) (congrArg Value.bool hb) ?_; clear hb
              refine wl_on (t := 106) rfl (by decide) rfl ?_
              refine wl_val (at_fieldAddr Try.underlying32 rfl rfl sz3 (by decide) rfl) rfl ?_
              refine wl_on (t := 106) rfl (by decide) rfl ?_
              obtain ⟨x29, q30, h⟩ := h
              refine wl_val (at_load Try.underlying3 rfl rfl q30) rfl ?_
              refine wl_on (t := 106) rfl (by decide) rfl ?_
              refine wl_val (at_move rfl) rfl ?_
              refine wl_on (t := 106) rfl (by decide) rfl ?_
              refine wl_val (at_fieldAddr Try.underlying32 rfl rfl sz3 (by decide) rfl) rfl ?_
              refine wl_on (t := 106) rfl (by decide) rfl ?_
              obtain ⟨x31, q32, h⟩ := h
              refine wl_val (at_load Try.underlying3 rfl rfl q32) rfl ?_
              refine wl_on (t := 106) rfl (by decide) rfl ?_
              refine wl_val (at_sub rfl rfl) rfl ?_
              refine wl_on (t := 106) rfl (by decide) rfl ?_
              refine wl_val (at_gtr rfl rfl) rfl ?_
              refine wl_val (at_pick_f rfl rfl) rfl ?_
              refine wl_nil ?_
              exact wk_prune [(7, .pointer (some (⟨b6, 0, none⟩ : Addr))), (114, .bool (decide ((IntKind.wrap .i64 ((IntKind.wrap .i64 (x18.1 * x18.2)) - x31)) < x29)))] ⟨rfl, rfl, trivial⟩ (fun f1 => hJ20 ((decide ((IntKind.wrap .i64 ((IntKind.wrap .i64 (x18.1 * x18.2)) - x31)) < x29))) _ f1 h so)
    · intro J8 h hJ8
      refine wc_seq ?_
      refine wc_region ?_
      refine wl_val (at_fieldAddr Try.underlying32 rfl rfl sz25 (by decide) rfl) rfl ?_
      obtain ⟨x33, q34, h⟩ := h
      refine wl_val (at_load Try.underlying25 rfl rfl q34) rfl ?_
      refine wl_val (at_lenL Try.underlying25 rfl) rfl ?_
      refine wl_val (at_move rfl) rfl ?_
      refine wl_nil ?_
      refine wk_prune [(1, .bool a1), (2, .pointer (some (⟨b1, 0, none⟩ : Addr))), (7, .pointer (some (⟨b6, 0, none⟩ : Addr))), (28, .slice x33.a x33.n x33.c), (29, .int .i64 (x33.n : Int)), (30, .int .i64 0)] ⟨rfl, rfl, rfl, rfl, rfl, rfl, trivial⟩ (fun f1 => ?_)
      refine wk_then ?_
      refine wc_block ?_
      obtain ⟨k35, h⟩ := h
      refine wc_loop (fun k a w => ∃ (s37 : Int) (f1 : Nat → Value), a = ac 116 (en f1 [(1, .bool a1), (2, .pointer (some (⟨b1, 0, none⟩ : Addr))), (7, .pointer (some (⟨b6, 0, none⟩ : Addr))), (28, .slice x33.a x33.n x33.c), (29, .int .i64 (x33.n : Int)), (30, .int .i64 s37)]) [] ∧ Sm w0 w ∧ Fix _ k s37 w.heap) k35 ⟨(0), _, ac_again ⟨rfl, rfl, rfl, rfl, rfl, rfl, trivial⟩, so, h⟩ ?_
      rintro k36 a39 w38 ⟨s37, f1, rfl, so, h⟩
      rcases k36 with _ | k36
      · exact h.elim
      replace h := Fix.un h; refine wc_in ?_
      refine wc_seq ?_
      refine wc_region ?_
      refine wl_val (at_lss rfl rfl) rfl ?_
      refine wl_nil ?_
      refine wk_prune [(1, .bool a1), (2, .pointer (some (⟨b1, 0, none⟩ : Addr))), (7, .pointer (some (⟨b6, 0, none⟩ : Addr))), (28, .slice x33.a x33.n x33.c), (29, .int .i64 (x33.n : Int)), (30, .int .i64 s37), (31, .bool (decide (s37 < (x33.n : Int))))] ⟨rfl, rfl, rfl, rfl, rfl, rfl, rfl, trivial⟩ (fun f1 => ?_)
      refine wk_then ?_
      refine wc_seq ?_
      refine wc_cond rfl h (fun h => ?_) (fun h => ?_)
      · refine wc_skip ?_
        refine wk_prune [(1, .bool a1), (2, .pointer (some (⟨b1, 0, none⟩ : Addr))), (7, .pointer (some (⟨b6, 0, none⟩ : Addr))), (28, .slice x33.a x33.n x33.c), (29, .int .i64 (x33.n : Int)), (30, .int .i64 s37)] ⟨rfl, rfl, rfl, rfl, rfl, rfl, trivial⟩ (fun f1 => ?_)
        refine wk_then ?_
        refine wc_seq ?_
        refine wc_join (w0 := w0) (fun (s42 : Unit) => [(1, .bool a1), (2, .pointer (some (⟨b1, 0, none⟩ : Addr))), (7, .pointer (some (⟨b6, 0, none⟩ : Addr))), (28, .slice x33.a x33.n x33.c), (29, .int .i64 (x33.n : Int)), (30, .int .i64 s37)]) h ?_ ?_
        · rintro s42 w43 f1 h so; refine wk_then ?_
          refine wc_region ?_
          refine wl_val (at_add rfl rfl) rfl ?_
          refine wl_val (at_move rfl) rfl ?_
          refine wl_nil ?_
          exact wk_again ⟨((IntKind.wrap .i64 (s37 + 1))), _, ac_again ⟨rfl, rfl, rfl, rfl, rfl, rfl, trivial⟩, so, h⟩
        · intro J41 h hJ41
          refine wc_block ?_
          refine wc_seq ?_
          refine wc_region ?_
          obtain ⟨q44, q45, p46, q47, h⟩ := h
          refine wl_val (at_ixAddrL Try.underlying25 sz76 (sl_some q47) rfl q44 q45) rfl ?_
          obtain ⟨x48, x49, x50, q51, h⟩ := h
          refine wl_val (at_loadA (cs := (c76 x48 x49 x50)) Try.underlying76 rfl (by rw [len76]; exact sz76) rfl q51) rfl ?_
          refine wl_newT (T := 76) (cs := (c76 0 0 0)) (ef_alloc zero76 rfl) rfl so ?_; intro b52 w53 hb_b52 t_b52 k_b52 so
          have g_b52 := Nat.le_of_eq hb_b52.symm
          have hc := k_b52.ch (F := [])
          refine wl_stWT (vs := (c76 x48 x49 x50)) t_b52 (by first | (rw [len76, len76]) | (rw [len76]) | rfl) rfl so (fun q => ef_storeA (p := (⟨b52, 0, none⟩ : Addr)) (cs := (c76 x48 x49 x50)) (by rw [len76]; exact sz76) rfl rfl (one76 _ _ _) q) ?_; intro w54 t_b52 s_w54 so
          replace hc := ch_same hc s_w54 (.inr g_b52)
          refine wl_nil ?_
          refine wk_prune [(1, .bool a1), (2, .pointer (some (⟨b1, 0, none⟩ : Addr))), (7, .pointer (some (⟨b6, 0, none⟩ : Addr))), (9, .pointer (some (⟨b52, 0, none⟩ : Addr))), (28, .slice x33.a x33.n x33.c), (29, .int .i64 (x33.n : Int)), (30, .int .i64 s37)] ⟨rfl, rfl, rfl, rfl, rfl, rfl, rfl, trivial⟩ (fun f1 => ?_)
          refine wk_then ?_
          refine wc_seq ?_
          refine wc_seq ?_
          refine wc_region ?_
          refine wl_val (at_move rfl) rfl ?_
          refine wl_val (at_not rfl) rfl ?_
          refine wl_nil ?_
          refine wk_prune [(1, .bool a1), (2, .pointer (some (⟨b1, 0, none⟩ : Addr))), (7, .pointer (some (⟨b6, 0, none⟩ : Addr))), (9, .pointer (some (⟨b52, 0, none⟩ : Addr))), (28, .slice x33.a x33.n x33.c), (29, .int .i64 (x33.n : Int)), (30, .int .i64 s37), (35, .bool (!a1))] ⟨rfl, rfl, rfl, rfl, rfl, rfl, rfl, rfl, trivial⟩ (fun f1 => ?_)
          refine wk_then ?_
          replace h := h b52 _ hc g_b52 t_b52.lt; clear hc
          refine wc_cond rfl h (fun h => ?_) (fun h => ?_)
          · refine wc_exit ?_
            refine wk_thenE ?_
            refine wk_blkO (by decide) ?_
            refine wk_thenE ?_
            refine wk_thenE ?_
            refine wk_blkE ?_
            exact wk_prune [(2, .pointer (some (⟨b1, 0, none⟩ : Addr))), (7, .pointer (some (⟨b6, 0, none⟩ : Addr)))] ⟨rfl, rfl, trivial⟩ (fun f1 => hJ8 () _ f1 h so)
          · refine wc_skip ?_
            refine wk_prune [(1, .bool a1), (2, .pointer (some (⟨b1, 0, none⟩ : Addr))), (7, .pointer (some (⟨b6, 0, none⟩ : Addr))), (9, .pointer (some (⟨b52, 0, none⟩ : Addr))), (28, .slice x33.a x33.n x33.c), (29, .int .i64 (x33.n : Int)), (30, .int .i64 s37)] ⟨rfl, rfl, rfl, rfl, rfl, rfl, rfl, trivial⟩ (fun f1 => ?_)
            refine wk_then ?_
            refine wc_seq ?_
            refine wc_region ?_
            refine wl_val (at_fieldAddr Try.underlying76 rfl rfl sz5 (by decide) rfl) rfl ?_
            refine wl_val (at_load (v := .int .u8 x49) Try.underlying5 rfl rfl ((t_b52.cell 1).trans (by first | rfl | simp [List.getElem?_append, ints_len, bools_len]))) rfl ?_
            refine wl_val (at_fieldAddr Try.underlying32 rfl rfl sz30 (by decide) rfl) rfl ?_
            obtain ⟨q55, q56, h⟩ := h
            refine wl_val (at_ixAddrA Try.underlying30 sz29 rfl rfl q55 q56) rfl ?_
            obtain ⟨x57, x58, q59, h⟩ := h
            refine wl_val (at_loadA (cs := (c29 x57 x58)) Try.underlying29 rfl (by rw [len29]; exact sz29) rfl q59) rfl ?_
            refine wl_callF (huff_New.calls _ _ _ _ h) enter23 rfl trivial so ?_; intro x60 w61 h so
            obtain ⟨q62, h⟩ := h
            replace t_b52 := pv_bk q62 t_b52 (by simp)
            refine wl_val (at_move rfl) rfl ?_
            refine wl_val (at_extract rfl rfl) rfl ?_
            refine wl_val (at_extract rfl rfl) rfl ?_
            refine wl_val (at_assign rfl) rfl ?_
            refine wl_val (at_assign rfl) rfl ?_
            refine wl_nil ?_
            refine wk_prune [(1, .bool a1), (2, .pointer (some (⟨b1, 0, none⟩ : Addr))), (7, .pointer (some (⟨b6, 0, none⟩ : Addr))), (9, .pointer (some (⟨b52, 0, none⟩ : Addr))), (10, .pointer x60.1), (11, .int .i64 x60.2), (28, .slice x33.a x33.n x33.c), (29, .int .i64 (x33.n : Int)), (30, .int .i64 s37)] ⟨rfl, rfl, rfl, rfl, rfl, rfl, rfl, rfl, rfl, trivial⟩ (fun f1 => ?_)
            refine wk_then ?_
            refine wc_seq ?_
            refine wc_seq ?_
            refine wc_region ?_
            refine wl_val (at_move rfl) rfl ?_
            refine wl_val (at_neq rfl rfl) rfl ?_
            refine wl_nil ?_
            refine wk_prune [(1, .bool a1), (2, .pointer (some (⟨b1, 0, none⟩ : Addr))), (7, .pointer (some (⟨b6, 0, none⟩ : Addr))), (9, .pointer (some (⟨b52, 0, none⟩ : Addr))), (10, .pointer x60.1), (11, .int .i64 x60.2), (28, .slice x33.a x33.n x33.c), (29, .int .i64 (x33.n : Int)), (30, .int .i64 s37), (46, .bool (x60.2 != 0))] ⟨rfl, rfl, rfl, rfl, rfl, rfl, rfl, rfl, rfl, rfl, trivial⟩ (fun f1 => ?_)
            refine wk_then ?_
            refine wc_cond rfl h (fun h => ?_) (fun h => ?_)
            · refine wc_seq ?_
              refine wc_region ?_
              refine wl_val (at_move rfl) rfl ?_
              refine wl_val (at_assign rfl) rfl ?_
              refine wl_val (at_assign rfl) rfl ?_
              refine wl_nil ?_
              refine wk_prune [(4, .pointer none), (5, .int .i64 x60.2)] ⟨rfl, rfl, trivial⟩ (fun f1 => ?_)
              refine wk_then ?_
              refine wc_ret ?_
              refine wk_thenR ?_
              refine wk_blkR ?_
              refine wk_thenR ?_
              refine wk_thenR ?_
              refine wk_blkR ?_
              refine wk_thenR ?_
              exact wk_ret2 (x := (none, x60.2)) rfl (by decide) (by decide) rfl so h
            · refine wc_skip ?_
              refine wk_prune [(1, .bool a1), (2, .pointer (some (⟨b1, 0, none⟩ : Addr))), (7, .pointer (some (⟨b6, 0, none⟩ : Addr))), (9, .pointer (some (⟨b52, 0, none⟩ : Addr))), (10, .pointer x60.1), (28, .slice x33.a x33.n x33.c), (29, .int .i64 (x33.n : Int)), (30, .int .i64 s37)] ⟨rfl, rfl, rfl, rfl, rfl, rfl, rfl, rfl, trivial⟩ (fun f1 => ?_)
              refine wk_then ?_
              refine wc_seq ?_
              refine wc_region ?_
              refine wl_val (at_fieldAddr Try.underlying76 rfl rfl sz5 (by decide) rfl) rfl ?_
              refine wl_val (at_load (v := .int .u8 x50) Try.underlying5 rfl rfl ((t_b52.cell 2).trans (by first | rfl | simp [List.getElem?_append, ints_len, bools_len]))) rfl ?_
              refine wl_val (at_fieldAddr Try.underlying32 rfl rfl sz30 (by decide) rfl) rfl ?_
              obtain ⟨q63, q64, h⟩ := h
              refine wl_val (at_ixAddrA Try.underlying30 sz29 rfl rfl q63 q64) rfl ?_
              obtain ⟨x65, x66, q67, h⟩ := h
              refine wl_val (at_loadA (cs := (c29 x65 x66)) Try.underlying29 rfl (by rw [len29]; exact sz29) rfl q67) rfl ?_
              refine wl_callF (huff_New.calls _ _ _ _ h) enter23 rfl trivial so ?_; intro x68 w69 h so
              refine wl_val (at_move rfl) rfl ?_
              refine wl_val (at_extract rfl rfl) rfl ?_
              refine wl_val (at_extract rfl rfl) rfl ?_
              refine wl_val (at_assign rfl) rfl ?_
              refine wl_val (at_assign rfl) rfl ?_
              refine wl_nil ?_
              refine wk_prune [(1, .bool a1), (2, .pointer (some (⟨b1, 0, none⟩ : Addr))), (7, .pointer (some (⟨b6, 0, none⟩ : Addr))), (10, .pointer x60.1), (11, .int .i64 x68.2), (12, .pointer x68.1), (28, .slice x33.a x33.n x33.c), (29, .int .i64 (x33.n : Int)), (30, .int .i64 s37)] ⟨rfl, rfl, rfl, rfl, rfl, rfl, rfl, rfl, rfl, trivial⟩ (fun f1 => ?_)
              refine wk_then ?_
              refine wc_seq ?_
              refine wc_seq ?_
              refine wc_region ?_
              refine wl_val (at_move rfl) rfl ?_
              refine wl_val (at_neq rfl rfl) rfl ?_
              refine wl_nil ?_
              refine wk_prune [(1, .bool a1), (2, .pointer (some (⟨b1, 0, none⟩ : Addr))), (7, .pointer (some (⟨b6, 0, none⟩ : Addr))), (10, .pointer x60.1), (11, .int .i64 x68.2), (12, .pointer x68.1), (28, .slice x33.a x33.n x33.c), (29, .int .i64 (x33.n : Int)), (30, .int .i64 s37), (58, .bool (x68.2 != 0))] ⟨rfl, rfl, rfl, rfl, rfl, rfl, rfl, rfl, rfl, rfl, trivial⟩ (fun f1 => ?_)
              refine wk_then ?_
              refine wc_cond rfl h (fun h => ?_) (fun h => ?_)
              · refine wc_seq ?_
                refine wc_region ?_
                refine wl_val (at_move rfl) rfl ?_
                refine wl_val (at_assign rfl) rfl ?_
                refine wl_val (at_assign rfl) rfl ?_
                refine wl_nil ?_
                refine wk_prune [(4, .pointer none), (5, .int .i64 x68.2)] ⟨rfl, rfl, trivial⟩ (fun f1 => ?_)
                refine wk_then ?_
                refine wc_ret ?_
                refine wk_thenR ?_
                refine wk_blkR ?_
                refine wk_thenR ?_
                refine wk_thenR ?_
                refine wk_blkR ?_
                refine wk_thenR ?_
                exact wk_ret2 (x := (none, x68.2)) rfl (by decide) (by decide) rfl so h
              · refine wc_skip ?_
                refine wk_prune [(1, .bool a1), (2, .pointer (some (⟨b1, 0, none⟩ : Addr))), (7, .pointer (some (⟨b6, 0, none⟩ : Addr))), (10, .pointer x60.1), (12, .pointer x68.1), (28, .slice x33.a x33.n x33.c), (29, .int .i64 (x33.n : Int)), (30, .int .i64 s37)] ⟨rfl, rfl, rfl, rfl, rfl, rfl, rfl, rfl, trivial⟩ (fun f1 => ?_)
                refine wk_then ?_
                refine wc_wo [0, 0, 0, 4, 12, 28, 0, 64, 252, 0, 512, 1536, 3584, 0, 8192, 32764, 65533, 131069, 262141, 524287, 1048575, 2097151] mixed (by kernel_rfl) so ?_; intro w70 hw so; rw [← hw] at h; clear hw
                refine wo_pure (m' := 1) 0 rfl (by kernel_rfl) rfl rfl (fun H => at_move rfl) ?_
                refine wo_pure (m' := 3) 1 rfl (by kernel_rfl) rfl rfl (fun H => at_move rfl) ?_
                refine wo_pure (m' := 7) 2 rfl (by kernel_rfl) rfl rfl (fun H => at_move rfl) ?_
                refine wo_pure (m' := 15) 3 rfl (by kernel_rfl) rfl rfl (fun H => at_nilCheck rfl) ?_
                refine wo_pure (m' := 31) 4 rfl (by kernel_rfl) rfl rfl (fun H => at_fieldAddr Try.underlying70 rfl rfl sz68 (by decide) rfl) ?_
                refine wo_pure (m' := 95) 6 rfl (by kernel_rfl) rfl rfl (fun H => at_move rfl) ?_
                refine wo_pure (m' := 607) 9 rfl (by kernel_rfl) rfl rfl (fun H => at_move rfl) ?_
                refine wo_pure (m' := 1631) 10 rfl (by kernel_rfl) rfl rfl (fun H => at_nilCheck rfl) ?_
                refine wo_pure (m' := 3679) 11 rfl (by kernel_rfl) rfl rfl (fun H => at_fieldAddr Try.underlying70 rfl rfl sz68 (by decide) rfl) ?_
                refine wo_pure (m' := 11871) 13 rfl (by kernel_rfl) rfl rfl (fun H => at_move rfl) ?_
                obtain ⟨x71, q72, h⟩ := h
                refine wo_load (m' := 11903) 5 (fun H => cellAt H (⟨b6, 143, none⟩ : Addr) = some (.slice x71.a x71.n x71.c)) rfl (by kernel_rfl) rfl rfl (fun H q72 => at_load Try.underlying68 rfl rfl q72) q72 ?_
                obtain ⟨x73, q74, h⟩ := h
                refine wo_load (m' := 15999) 12 (fun H => cellAt H (⟨b6, 144, none⟩ : Addr) = some (.slice x73.a x73.n x73.c)) rfl (by kernel_rfl) rfl rfl (fun H q74 => at_load Try.underlying68 rfl rfl q74) q74 ?_
                refine wo_two (m1 := 16127) (m2 := 32383) 7 14 [false, false] [false, false] rfl rfl (by kernel_rfl) rfl rfl (by kernel_rfl) (by kernel_rfl) ?_ ?_
                · replace h := h.1; obtain ⟨i78, i78a, i78b, i78c, i78d⟩ := info67
                  refine wl_newS (ef_buildSlice (cs := [.pointer x60.1]) (ps := [(0, .pointer x60.1)]) Try.underlying68 i78a i78b rfl (by rw [i78c]; decide) (by rw [i78c]; exact fill_full (vs := [.pointer x60.1]) rfl (by simp [Value.cells]) (by simp [Value.cells]) rfl (by simp))) rfl so (ones_cons rfl ones_nil) h ?_; intro p75 w76 h r77 so
                  refine wl_nil ?_
                  obtain ⟨q79, q80, h⟩ := h
                  refine wk_tq ⟨q79, q80, trivial⟩ ?_
                  refine wo_two (m1 := 16383) (m2 := 32511) 8 14 [false, true] [false, false] rfl rfl (by kernel_rfl) rfl rfl (by kernel_rfl) (by kernel_rfl) ?_ ?_
                  · replace h := h.1; obtain ⟨i81, i81a, i81b, i81c, i81d⟩ := info67
                    refine wl_ap (fx_append (s := x71) (t := ⟨(some p75), 1, 1⟩) (m := 1) (xs := [.pointer x60.1]) Try.underlying68 Try.underlying68 i81a i81b i81c i81d rfl rfl rfl (by first | rfl | simp) r77 h) rfl so ?_; intro l82 w83 h so
                    refine wl_nil ?_
                    obtain ⟨q84, h⟩ := h
                    refine wk_tq ⟨q84, trivial⟩ ?_
                    refine wo_take (m' := 32767) 14 [false] rfl (by kernel_rfl) rfl (by kernel_rfl) ?_
                    obtain ⟨i88, i88a, i88b, i88c, i88d⟩ := info67
                    refine wl_newS (ef_buildSlice (cs := [.pointer x68.1]) (ps := [(0, .pointer x68.1)]) Try.underlying68 i88a i88b rfl (by rw [i88c]; decide) (by rw [i88c]; exact fill_full (vs := [.pointer x68.1]) rfl (by simp [Value.cells]) (by simp [Value.cells]) rfl (by simp))) rfl so (ones_cons rfl ones_nil) h ?_; intro p85 w86 h r87 so
                    refine wl_nil ?_
                    obtain ⟨q89, h⟩ := h
                    refine wk_tq ⟨q89, trivial⟩ ?_
                    refine wo_take (m' := 65535) 15 [true] rfl (by kernel_rfl) rfl (by kernel_rfl) ?_
                    obtain ⟨i90, i90a, i90b, i90c, i90d⟩ := info67
                    refine wl_ap (fx_append (s := x73) (t := ⟨(some p85), 1, 1⟩) (m := 1) (xs := [.pointer x68.1]) Try.underlying68 Try.underlying68 i90a i90b i90c i90d rfl rfl rfl (by first | rfl | simp) r87 h) rfl so ?_; intro l91 w92 h so
                    refine wl_nil ?_
                    refine wk_tq trivial ?_
                    refine wo_pure (m' := 131071) 16 rfl (by kernel_rfl) rfl rfl (fun H => at_nilCheck rfl) ?_
                    refine wo_pure (m' := 262143) 17 rfl (by kernel_rfl) rfl rfl (fun H => at_fieldAddr Try.underlying70 rfl rfl sz68 (by decide) rfl) ?_
                    refine wo_take (m' := 524287) 18 [] rfl (by kernel_rfl) rfl (by kernel_rfl) ?_
                    refine wl_st (v := .slice l82.a l82.n l82.c) h rfl so (fun q1 q2 => ef_store (sz := sz68) rfl rfl rfl q1 q2) ?_; intro w93 h so
                    refine wl_nil ?_
                    refine wk_tq trivial ?_
                    refine wo_pure (m' := 1048575) 19 rfl (by kernel_rfl) rfl rfl (fun H => at_nilCheck rfl) ?_
                    refine wo_pure (m' := 2097151) 20 rfl (by kernel_rfl) rfl rfl (fun H => at_fieldAddr Try.underlying70 rfl rfl sz68 (by decide) rfl) ?_
                    refine wo_take (m' := 4194303) 21 [] rfl (by kernel_rfl) rfl (by kernel_rfl) ?_
                    refine wl_st (v := .slice l91.a l91.n l91.c) h rfl so (fun q1 q2 => ef_store (sz := sz68) rfl rfl rfl q1 q2) ?_; intro w94 h so
                    refine wl_nil ?_
                    refine wk_tq trivial ?_
                    refine wo_done (by kernel_rfl) ?_
                    refine wk_blkN ?_
                    exact wk_prune [(1, .bool a1), (2, .pointer (some (⟨b1, 0, none⟩ : Addr))), (7, .pointer (some (⟨b6, 0, none⟩ : Addr))), (28, .slice x33.a x33.n x33.c), (29, .int .i64 (x33.n : Int)), (30, .int .i64 s37)] ⟨rfl, rfl, rfl, rfl, rfl, rfl, trivial⟩ (fun f1 => hJ41 () _ f1 h so)
                  · replace h := h.2; obtain ⟨i98, i98a, i98b, i98c, i98d⟩ := info67
                    refine wl_newS (ef_buildSlice (cs := [.pointer x68.1]) (ps := [(0, .pointer x68.1)]) Try.underlying68 i98a i98b rfl (by rw [i98c]; decide) (by rw [i98c]; exact fill_full (vs := [.pointer x68.1]) rfl (by simp [Value.cells]) (by simp [Value.cells]) rfl (by simp))) rfl so (ones_cons rfl ones_nil) h ?_; intro p95 w96 h r97 so
                    refine wl_nil ?_
                    obtain ⟨q99, q100, h⟩ := h
                    refine wk_tq ⟨q99, q100, trivial⟩ ?_
                    refine wo_take (m' := 32767) 8 [false, true] rfl (by kernel_rfl) rfl (by kernel_rfl) ?_
                    obtain ⟨i101, i101a, i101b, i101c, i101d⟩ := info67
                    obtain ⟨y104, q105, q106, h⟩ := h
                    refine wl_ap (fx_append (s := x71) (t := ⟨(some p75), 1, 1⟩) (m := 1) (xs := y104) Try.underlying68 Try.underlying68 i101a i101b i101c i101d rfl rfl rfl q105 q106 h) rfl so ?_; intro l102 w103 h so
                    refine wl_nil ?_
                    obtain ⟨q107, h⟩ := h
                    refine wk_tq ⟨q107, trivial⟩ ?_
                    refine wo_take (m' := 65535) 15 [true] rfl (by kernel_rfl) rfl (by kernel_rfl) ?_
                    obtain ⟨i108, i108a, i108b, i108c, i108d⟩ := info67
                    obtain ⟨y111, q112, q113, h⟩ := h
                    refine wl_ap (fx_append (s := x73) (t := ⟨(some p95), 1, 1⟩) (m := 1) (xs := y111) Try.underlying68 Try.underlying68 i108a i108b i108c i108d rfl rfl rfl q112 q113 h) rfl so ?_; intro l109 w110 h so
                    refine wl_nil ?_
                    refine wk_tq trivial ?_
                    refine wo_pure (m' := 131071) 16 rfl (by kernel_rfl) rfl rfl (fun H => at_nilCheck rfl) ?_
                    refine wo_pure (m' := 262143) 17 rfl (by kernel_rfl) rfl rfl (fun H => at_fieldAddr Try.underlying70 rfl rfl sz68 (by decide) rfl) ?_
                    refine wo_take (m' := 524287) 18 [] rfl (by kernel_rfl) rfl (by kernel_rfl) ?_
                    refine wl_st (v := .slice l102.a l102.n l102.c) h rfl so (fun q1 q2 => ef_store (sz := sz68) rfl rfl rfl q1 q2) ?_; intro w114 h so
                    refine wl_nil ?_
                    refine wk_tq trivial ?_
                    refine wo_pure (m' := 1048575) 19 rfl (by kernel_rfl) rfl rfl (fun H => at_nilCheck rfl) ?_
                    refine wo_pure (m' := 2097151) 20 rfl (by kernel_rfl) rfl rfl (fun H => at_fieldAddr Try.underlying70 rfl rfl sz68 (by decide) rfl) ?_
                    refine wo_take (m' := 4194303) 21 [] rfl (by kernel_rfl) rfl (by kernel_rfl) ?_
                    refine wl_st (v := .slice l109.a l109.n l109.c) h rfl so (fun q1 q2 => ef_store (sz := sz68) rfl rfl rfl q1 q2) ?_; intro w115 h so
                    refine wl_nil ?_
                    refine wk_tq trivial ?_
                    refine wo_done (by kernel_rfl) ?_
                    refine wk_blkN ?_
                    exact wk_prune [(1, .bool a1), (2, .pointer (some (⟨b1, 0, none⟩ : Addr))), (7, .pointer (some (⟨b6, 0, none⟩ : Addr))), (28, .slice x33.a x33.n x33.c), (29, .int .i64 (x33.n : Int)), (30, .int .i64 s37)] ⟨rfl, rfl, rfl, rfl, rfl, rfl, trivial⟩ (fun f1 => hJ41 () _ f1 h so)
                · replace h := h.2; obtain ⟨i119, i119a, i119b, i119c, i119d⟩ := info67
                  refine wl_newS (ef_buildSlice (cs := [.pointer x68.1]) (ps := [(0, .pointer x68.1)]) Try.underlying68 i119a i119b rfl (by rw [i119c]; decide) (by rw [i119c]; exact fill_full (vs := [.pointer x68.1]) rfl (by simp [Value.cells]) (by simp [Value.cells]) rfl (by simp))) rfl so (ones_cons rfl ones_nil) h ?_; intro p116 w117 h r118 so
                  refine wl_nil ?_
                  obtain ⟨q120, q121, h⟩ := h
                  refine wk_tq ⟨q120, q121, trivial⟩ ?_
                  refine wo_take (m' := 32511) 7 [false, false] rfl (by kernel_rfl) rfl (by kernel_rfl) ?_
                  obtain ⟨i125, i125a, i125b, i125c, i125d⟩ := info67
                  refine wl_newS (ef_buildSlice (cs := [.pointer x60.1]) (ps := [(0, .pointer x60.1)]) Try.underlying68 i125a i125b rfl (by rw [i125c]; decide) (by rw [i125c]; exact fill_full (vs := [.pointer x60.1]) rfl (by simp [Value.cells]) (by simp [Value.cells]) rfl (by simp))) rfl so (ones_cons rfl ones_nil) h ?_; intro p122 w123 h r124 so
                  refine wl_nil ?_
                  obtain ⟨q126, q127, h⟩ := h
                  refine wk_tq ⟨q126, q127, trivial⟩ ?_
                  refine wo_take (m' := 32767) 8 [false, true] rfl (by kernel_rfl) rfl (by kernel_rfl) ?_
                  obtain ⟨i128, i128a, i128b, i128c, i128d⟩ := info67
                  refine wl_ap (fx_append (s := x71) (t := ⟨(some p122), 1, 1⟩) (m := 1) (xs := [.pointer x60.1]) Try.underlying68 Try.underlying68 i128a i128b i128c i128d rfl rfl rfl (by first | rfl | simp) r124 h) rfl so ?_; intro l129 w130 h so
                  refine wl_nil ?_
                  obtain ⟨q131, h⟩ := h
                  refine wk_tq ⟨q131, trivial⟩ ?_
                  refine wo_take (m' := 65535) 15 [true] rfl (by kernel_rfl) rfl (by kernel_rfl) ?_
                  obtain ⟨i132, i132a, i132b, i132c, i132d⟩ := info67
                  obtain ⟨y135, q136, q137, h⟩ := h
                  refine wl_ap (fx_append (s := x73) (t := ⟨(some p116), 1, 1⟩) (m := 1) (xs := y135) Try.underlying68 Try.underlying68 i132a i132b i132c i132d rfl rfl rfl q136 q137 h) rfl so ?_; intro l133 w134 h so
                  refine wl_nil ?_
                  refine wk_tq trivial ?_
                  refine wo_pure (m' := 131071) 16 rfl (by kernel_rfl) rfl rfl (fun H => at_nilCheck rfl) ?_
                  refine wo_pure (m' := 262143) 17 rfl (by kernel_rfl) rfl rfl (fun H => at_fieldAddr Try.underlying70 rfl rfl sz68 (by decide) rfl) ?_
                  refine wo_take (m' := 524287) 18 [] rfl (by kernel_rfl) rfl (by kernel_rfl) ?_
                  refine wl_st (v := .slice l129.a l129.n l129.c) h rfl so (fun q1 q2 => ef_store (sz := sz68) rfl rfl rfl q1 q2) ?_; intro w138 h so
                  refine wl_nil ?_
                  refine wk_tq trivial ?_
                  refine wo_pure (m' := 1048575) 19 rfl (by kernel_rfl) rfl rfl (fun H => at_nilCheck rfl) ?_
                  refine wo_pure (m' := 2097151) 20 rfl (by kernel_rfl) rfl rfl (fun H => at_fieldAddr Try.underlying70 rfl rfl sz68 (by decide) rfl) ?_
                  refine wo_take (m' := 4194303) 21 [] rfl (by kernel_rfl) rfl (by kernel_rfl) ?_
                  refine wl_st (v := .slice l133.a l133.n l133.c) h rfl so (fun q1 q2 => ef_store (sz := sz68) rfl rfl rfl q1 q2) ?_; intro w139 h so
                  refine wl_nil ?_
                  refine wk_tq trivial ?_
                  refine wo_done (by kernel_rfl) ?_
                  refine wk_blkN ?_
                  exact wk_prune [(1, .bool a1), (2, .pointer (some (⟨b1, 0, none⟩ : Addr))), (7, .pointer (some (⟨b6, 0, none⟩ : Addr))), (28, .slice x33.a x33.n x33.c), (29, .int .i64 (x33.n : Int)), (30, .int .i64 s37)] ⟨rfl, rfl, rfl, rfl, rfl, rfl, trivial⟩ (fun f1 => hJ41 () _ f1 h so)
      · refine wc_exit ?_
        refine wk_thenE ?_
        refine wk_thenE ?_
        refine wk_blkE ?_
        exact wk_prune [(2, .pointer (some (⟨b1, 0, none⟩ : Addr))), (7, .pointer (some (⟨b6, 0, none⟩ : Addr)))] ⟨rfl, rfl, trivial⟩ (fun f1 => hJ8 () _ f1 h so)
def pen_Encode_1.enc : Int → Value := fun r => .int .i64 r
def pen_Encode_1.s (a0 : Int) (a1 : Bool) (a2_0 : Int) (a2_1 : Int) (a2_2 : Int) (a3 : Addr) (a4 : Addr) (H0 : Hp) (Q : Int → Hp → Prop) : Prop :=
  Gn [] H0 (fun (b1 : Nat) (H2 : Hp) => ldP H2 a3 (fun x3 => someA x3 (fun p5 => ldL H2 (p5.add 144) (fun x7 => 0 ≤ a0 ∧ a0 < (x7.n : Int) ∧ someA x7.a (fun p11 => ldP H2 (p11.add (Int.toNat a0 * 1)) (fun x13 => Join (fun (s16 : (Option Addr)) (H17 : Hp) => ldP H17 a4 (fun x18 => huff_Table_Write.s s16 x18 a2_0 H17 (fun x20 H21 => Pv [b1] H17 H21 ∧ (if (!x20) = true then (Q 43 H21) else (ldP H21 a4 (fun x23 => bits_Sink_Put.s x23 (IntKind.wrap .i64 a2_2) (IntKind.wrap .i64 a2_1) H21 (fun x25 H26 => Q 0 H26))))))) (fun (J15 : (Option Addr) → Hp → Prop) => if a1 = true then (ldP H2 a3 (fun x27 => someA x27 (fun p29 => ldL H2 (p29.add 143) (fun x31 => 0 ≤ a0 ∧ a0 < (x31.n : Int) ∧ someA x31.a (fun p35 => ldP H2 (p35.add (Int.toNat a0 * 1)) (fun x37 => J15 (x37) H2)))))) else (J15 (x13) H2))))))))
set_option maxRecDepth 20000 in
set_option maxHeartbeats 4000000 in
theorem pen_Encode_1.calls (a0 : Int) (a1 : Bool) (a2_0 : Int) (a2_1 : Int) (a2_2 : Int) (a3 : Addr) (a4 : Addr) (w0 : World) (Q : Int → Hp → Prop) (h : pen_Encode_1.s a0 a1 a2_0 a2_1 a2_2 a3 a4 w0.heap Q) :
    Ca Try.prog 17 #[.int .i64 a0, .bool a1, .agg (c66 a2_0 a2_1 a2_2).toArray, .pointer (some a3), .pointer (some a4)] w0 (Rt pen_Encode_1.enc Q w0) := by
  refine ca_start (c := _) Try.func17 rfl Try.ntmps17 rfl ?_
  have so : Sm w0 w0 := Sm.refl w0
  unfold pen_Encode_1.s at h
  refine wc_prune [(0, .int .i64 a0), (1, .bool a1), (2, .agg (c66 a2_0 a2_1 a2_2).toArray), (3, .pointer (some a3)), (4, .pointer (some a4))] ⟨rfl, rfl, rfl, rfl, rfl, trivial⟩ (fun f1 => ?_)
  refine wc_seq ?_
  refine wc_region ?_
  refine wl_newT (T := 66) (cs := (c66 a2_0 a2_1 a2_2)) (ef_box rfl rfl) rfl so ?_; intro b1 w2 hb_b1 t_b1 k_b1 so
  have g_b1 := Nat.le_of_eq hb_b1.symm
  have hc := k_b1.ch (F := [])
  refine wl_val (at_assign rfl) rfl ?_
  refine wl_nil ?_
  refine wk_prune [(0, .int .i64 a0), (1, .bool a1), (3, .pointer (some a3)), (4, .pointer (some a4)), (7, .pointer (some (⟨b1, 0, none⟩ : Addr)))] ⟨rfl, rfl, rfl, rfl, rfl, trivial⟩ (fun f1 => ?_)
  refine wk_then ?_
  refine wc_seq ?_
  refine wc_region ?_
  replace h := h b1 _ hc g_b1 t_b1.lt; clear hc
  obtain ⟨x3, q4, h⟩ := h
  refine wl_val (at_load Try.underlying58 rfl rfl q4) rfl ?_
  obtain ⟨p5, q6, h⟩ := h
  refine wl_val (at_nilCheck (congrArg Value.pointer q6)) rfl ?_
  refine wl_val (at_fieldAddr Try.underlying70 rfl rfl sz68 (by decide) rfl) rfl ?_
  obtain ⟨x7, q8, h⟩ := h
  refine wl_val (at_load Try.underlying68 rfl rfl q8) rfl ?_
  refine wl_val (at_move rfl) rfl ?_
  obtain ⟨q9, q10, p11, q12, h⟩ := h
  refine wl_val (at_ixAddrL Try.underlying68 sz67 (sl_some q12) rfl q9 q10) rfl ?_
  obtain ⟨x13, q14, h⟩ := h
  refine wl_val (at_load Try.underlying67 rfl rfl q14) rfl ?_
  refine wl_val (at_assign rfl) rfl ?_
  refine wl_nil ?_
  refine wk_prune [(0, .int .i64 a0), (1, .bool a1), (3, .pointer (some a3)), (4, .pointer (some a4)), (7, .pointer (some (⟨b1, 0, none⟩ : Addr))), (9, .pointer x13)] ⟨rfl, rfl, rfl, rfl, rfl, rfl, trivial⟩ (fun f1 => ?_)
  refine wk_then ?_
  refine wc_seq ?_
  refine wc_joinG (w0 := w0) (fun (H : Hp) => Bk H b1 66 (c66 a2_0 a2_1 a2_2) ∧ True) (fun (s16 : (Option Addr)) => [(4, .pointer (some a4)), (7, .pointer (some (⟨b1, 0, none⟩ : Addr))), (9, .pointer s16)]) (fun (s16 : (Option Addr)) => []) h ?_ ?_
  · rintro s16 w17 f1 h ⟨t_b1, _⟩ so; refine wk_then ?_
    refine wc_seq ?_
    refine wc_seq ?_
    refine wc_region ?_
    refine wl_val (at_move rfl) rfl ?_
    obtain ⟨x18, q19, h⟩ := h
    refine wl_val (at_load Try.underlying61 rfl rfl q19) rfl ?_
    refine wl_val (at_fieldAddr Try.underlying66 rfl rfl sz5 (by decide) rfl) rfl ?_
    refine wl_val (at_load (v := .int .u8 a2_0) Try.underlying5 rfl rfl ((t_b1.cell 0).trans (by first | rfl | simp [List.getElem?_append, ints_len, bools_len]))) rfl ?_
    refine wl_callF (huff_Table_Write.calls _ _ _ _ _ h) enter18 rfl trivial so ?_; intro x20 w21 h so
    obtain ⟨q22, h⟩ := h
    replace t_b1 := pv_bk q22 t_b1 (by simp)
    refine wl_val (at_not rfl) rfl ?_
    refine wl_nil ?_
    refine wk_prune [(4, .pointer (some a4)), (7, .pointer (some (⟨b1, 0, none⟩ : Addr))), (30, .bool (!x20))] ⟨rfl, rfl, rfl, trivial⟩ (fun f1 => ?_)
    refine wk_then ?_
    refine wc_cond rfl h (fun h => ?_) (fun h => ?_)
    · refine wc_seq ?_
      refine wc_region ?_
      refine wl_val (at_assign rfl) rfl ?_
      refine wl_nil ?_
      refine wk_prune [(8, .int .i64 43)] ⟨rfl, trivial⟩ (fun f1 => ?_)
      refine wk_then ?_
      refine wc_ret ?_
      refine wk_thenR ?_
      exact wk_ret1 (x := 43) rfl (by decide) rfl so h
    · refine wc_skip ?_
      refine wk_prune [(4, .pointer (some a4)), (7, .pointer (some (⟨b1, 0, none⟩ : Addr)))] ⟨rfl, rfl, trivial⟩ (fun f1 => ?_)
      refine wk_then ?_
      refine wc_seq ?_
      refine wc_region ?_
      obtain ⟨x23, q24, h⟩ := h
      refine wl_val (at_load Try.underlying61 rfl rfl q24) rfl ?_
      refine wl_val (at_fieldAddr Try.underlying66 rfl rfl sz64 (by decide) rfl) rfl ?_
      refine wl_val (at_load (v := .int .u16 a2_2) Try.underlying64 rfl rfl ((t_b1.cell 2).trans (by first | rfl | simp [List.getElem?_append, ints_len, bools_len]))) rfl ?_
      refine wl_val (at_conv Try.underlying64 Try.underlying3 rfl) rfl ?_
      refine wl_val (at_fieldAddr Try.underlying66 rfl rfl sz46 (by decide) rfl) rfl ?_
      refine wl_val (at_load (v := .int .i8 a2_1) Try.underlying46 rfl rfl ((t_b1.cell 1).trans (by first | rfl | simp [List.getElem?_append, ints_len, bools_len]))) rfl ?_
      refine wl_val (at_conv Try.underlying46 Try.underlying3 rfl) rfl ?_
      refine wl_callF (bits_Sink_Put.calls _ _ _ _ _ h) enter19 rfl trivial so ?_; intro x25 w26 h so
      refine wl_nil ?_
      refine wk_prune [] trivial (fun f1 => ?_)
      refine wk_then ?_
      refine wc_seq ?_
      refine wc_region ?_
      refine wl_val (at_assign rfl) rfl ?_
      refine wl_nil ?_
      refine wk_prune [(8, .int .i64 0)] ⟨rfl, trivial⟩ (fun f1 => ?_)
      refine wk_then ?_
      refine wc_ret ?_
      exact wk_ret1 (x := 0) rfl (by decide) rfl so h
  · intro J15 h hJ15
    refine wc_seq ?_
    refine wc_region ?_
    refine wl_val (at_move rfl) rfl ?_
    refine wl_nil ?_
    refine wk_prune [(0, .int .i64 a0), (3, .pointer (some a3)), (4, .pointer (some a4)), (7, .pointer (some (⟨b1, 0, none⟩ : Addr))), (9, .pointer x13), (17, .bool a1)] ⟨rfl, rfl, rfl, rfl, rfl, rfl, trivial⟩ (fun f1 => ?_)
    refine wk_then ?_
    refine wc_cond rfl h (fun h => ?_) (fun h => ?_)
    · refine wc_region ?_
      obtain ⟨x27, q28, h⟩ := h
      refine wl_val (at_load Try.underlying58 rfl rfl q28) rfl ?_
      obtain ⟨p29, q30, h⟩ := h
      refine wl_val (at_nilCheck (congrArg Value.pointer q30)) rfl ?_
      refine wl_val (at_fieldAddr Try.underlying70 rfl rfl sz68 (by decide) rfl) rfl ?_
      obtain ⟨x31, q32, h⟩ := h
      refine wl_val (at_load Try.underlying68 rfl rfl q32) rfl ?_
      refine wl_val (at_move rfl) rfl ?_
      obtain ⟨q33, q34, p35, q36, h⟩ := h
      refine wl_val (at_ixAddrL Try.underlying68 sz67 (sl_some q36) rfl q33 q34) rfl ?_
      obtain ⟨x37, q38, h⟩ := h
      refine wl_val (at_load Try.underlying67 rfl rfl q38) rfl ?_
      refine wl_val (at_assign rfl) rfl ?_
      refine wl_nil ?_
      exact wk_prune [(4, .pointer (some a4)), (7, .pointer (some (⟨b1, 0, none⟩ : Addr))), (9, .pointer x37)] ⟨rfl, rfl, rfl, trivial⟩ (fun f1 => hJ15 (x37) _ f1 h ⟨t_b1, trivial⟩ so)
    · refine wc_skip ?_
      exact wk_prune [(4, .pointer (some a4)), (7, .pointer (some (⟨b1, 0, none⟩ : Addr))), (9, .pointer x13)] ⟨rfl, rfl, rfl, trivial⟩ (fun f1 => hJ15 (x13) _ f1 h ⟨t_b1, trivial⟩ so)
def pen_Count_1.enc : Int → Value := fun r => .int .i64 r
def pen_Count_1.s (a0 : Int) (a1 : Bool) (a2_0 : Int) (a2_1 : Int) (a2_2 : Int) (a3 : Addr) (a4 : Addr) (a5 : Addr) (H0 : Hp) (Q : Int → Hp → Prop) : Prop :=
  Gn [] H0 (fun (b1 : Nat) (H2 : Hp) => Join (fun (s4 : Unit) (H5 : Hp) => Q 0 H5) (fun (J3 : Unit → Hp → Prop) => ldL H2 (a3.add 4) (fun x6 => 0 ≤ a0 ∧ a0 < (x6.n : Int) ∧ someA x6.a (fun p10 => ∃ x12 : Int, ∃ x13 : Int, ∃ x14 : Int, ldA H2 (p10.add (Int.toNat a0 * 3)) (c76 x12 x13 x14) ∧ (Gn [] H2 (fun (b16 : Nat) (H18 : Hp) => if a1 = true then (0 ≤ x13 ∧ x13 < (4 : Int) ∧ (0 ≤ x13 ∧ x13 < (4 : Int) ∧ (0 ≤ a2_0 ∧ a2_0 < (256 : Int) ∧ (ldI .i64 H18 ((a4.add (Int.toNat x13 * 256)).add (Int.toNat a2_0 * 1)) (fun x28 => 0 ≤ a2_0 ∧ a2_0 < (256 : Int) ∧ (st H18 ((a4.add (Int.toNat x13 * 256)).add (Int.toNat a2_0 * 1)) (.int .i64 (IntKind.wrap .i64 (x28 + 1))) (fun H32 => Pv [b1, b16] H18 H32 ∧ (J3 () H32)))))))) else (0 ≤ x14 ∧ x14 < (4 : Int) ∧ (0 ≤ x14 ∧ x14 < (4 : Int) ∧ (0 ≤ a2_0 ∧ a2_0 < (256 : Int) ∧ (ldI .i64 H18 ((a5.add (Int.toNat x14 * 256)).add (Int.toNat a2_0 * 1)) (fun x43 => 0 ≤ a2_0 ∧ a2_0 < (256 : Int) ∧ (st H18 ((a5.add (Int.toNat x14 * 256)).add (Int.toNat a2_0 * 1)) (.int .i64 (IntKind.wrap .i64 (x43 + 1))) (fun H47 => Pv [b1, b16] H18 H47 ∧ (J3 () H47))))))))))))))
set_option maxRecDepth 20000 in
set_option maxHeartbeats 4000000 in
theorem pen_Count_1.calls (a0 : Int) (a1 : Bool) (a2_0 : Int) (a2_1 : Int) (a2_2 : Int) (a3 : Addr) (a4 : Addr) (a5 : Addr) (w0 : World) (Q : Int → Hp → Prop) (h : pen_Count_1.s a0 a1 a2_0 a2_1 a2_2 a3 a4 a5 w0.heap Q) :
    Ca Try.prog 22 #[.int .i64 a0, .bool a1, .agg (c66 a2_0 a2_1 a2_2).toArray, .pointer (some a3), .pointer (some a4), .pointer (some a5)] w0 (Rt pen_Count_1.enc Q w0) := by
  refine ca_start (c := _) Try.func22 rfl Try.ntmps22 rfl ?_
  have so : Sm w0 w0 := Sm.refl w0
  unfold pen_Count_1.s at h
  refine wc_prune [(0, .int .i64 a0), (1, .bool a1), (2, .agg (c66 a2_0 a2_1 a2_2).toArray), (3, .pointer (some a3)), (4, .pointer (some a4)), (5, .pointer (some a5))] ⟨rfl, rfl, rfl, rfl, rfl, rfl, trivial⟩ (fun f1 => ?_)
  refine wc_seq ?_
  refine wc_region ?_
  refine wl_newT (T := 66) (cs := (c66 a2_0 a2_1 a2_2)) (ef_box rfl rfl) rfl so ?_; intro b1 w2 hb_b1 t_b1 k_b1 so
  have g_b1 := Nat.le_of_eq hb_b1.symm
  have hc := k_b1.ch (F := [])
  refine wl_val (at_assign rfl) rfl ?_
  refine wl_nil ?_
  refine wk_prune [(0, .int .i64 a0), (1, .bool a1), (3, .pointer (some a3)), (4, .pointer (some a4)), (5, .pointer (some a5)), (8, .pointer (some (⟨b1, 0, none⟩ : Addr)))] ⟨rfl, rfl, rfl, rfl, rfl, rfl, trivial⟩ (fun f1 => ?_)
  refine wk_then ?_
  replace h := h b1 _ hc g_b1 t_b1.lt; clear hc
  refine wc_seq ?_
  refine wc_join (w0 := w0) (fun (s4 : Unit) => []) h ?_ ?_
  · rintro s4 w5 f1 h so; refine wk_then ?_
    refine wc_seq ?_
    refine wc_region ?_
    refine wl_val (at_assign rfl) rfl ?_
    refine wl_nil ?_
    refine wk_prune [(9, .int .i64 0)] ⟨rfl, trivial⟩ (fun f1 => ?_)
    refine wk_then ?_
    refine wc_ret ?_
    exact wk_ret1 (x := 0) rfl (by decide) rfl so h
  · intro J3 h hJ3
    refine wc_seq ?_
    refine wc_region ?_
    refine wl_val (at_fieldAddr Try.underlying32 rfl rfl sz25 (by decide) rfl) rfl ?_
    obtain ⟨x6, q7, h⟩ := h
    refine wl_val (at_load Try.underlying25 rfl rfl q7) rfl ?_
    refine wl_val (at_move rfl) rfl ?_
    obtain ⟨q8, q9, p10, q11, h⟩ := h
    refine wl_val (at_ixAddrL Try.underlying25 sz76 (sl_some q11) rfl q8 q9) rfl ?_
    obtain ⟨x12, x13, x14, q15, h⟩ := h
    refine wl_val (at_loadA (cs := (c76 x12 x13 x14)) Try.underlying76 rfl (by rw [len76]; exact sz76) rfl q15) rfl ?_
    refine wl_newT (T := 76) (cs := (c76 0 0 0)) (ef_alloc zero76 rfl) rfl so ?_; intro b16 w17 hb_b16 t_b16 k_b16 so
    have g_b16 := Nat.le_of_eq hb_b16.symm
    have hc := k_b16.ch (F := [])
    have n_b1_b16 : b1 ≠ b16 := fun e => by have := t_b1.lt; omega
    replace t_b1 := t_b1.keep k_b16
    refine wl_stWT (vs := (c76 x12 x13 x14)) t_b16 (by first | (rw [len76, len76]) | (rw [len76]) | rfl) rfl so (fun q => ef_storeA (p := (⟨b16, 0, none⟩ : Addr)) (cs := (c76 x12 x13 x14)) (by rw [len76]; exact sz76) rfl rfl (one76 _ _ _) q) ?_; intro w18 t_b16 s_w18 so
    replace t_b1 := t_b1.same s_w18 (n_b1_b16)
    replace hc := ch_same hc s_w18 (.inr g_b16)
    refine wl_nil ?_
    refine wk_prune [(1, .bool a1), (4, .pointer (some a4)), (5, .pointer (some a5)), (8, .pointer (some (⟨b1, 0, none⟩ : Addr))), (10, .pointer (some (⟨b16, 0, none⟩ : Addr)))] ⟨rfl, rfl, rfl, rfl, rfl, trivial⟩ (fun f1 => ?_)
    refine wk_then ?_
    refine wc_seq ?_
    refine wc_region ?_
    refine wl_val (at_move rfl) rfl ?_
    refine wl_nil ?_
    refine wk_prune [(4, .pointer (some a4)), (5, .pointer (some a5)), (8, .pointer (some (⟨b1, 0, none⟩ : Addr))), (10, .pointer (some (⟨b16, 0, none⟩ : Addr))), (16, .bool a1)] ⟨rfl, rfl, rfl, rfl, rfl, trivial⟩ (fun f1 => ?_)
    refine wk_then ?_
    replace h := h b16 _ hc g_b16 t_b16.lt; clear hc
    refine wc_cond rfl h (fun h => ?_) (fun h => ?_)
    · refine wc_wo [0, 1, 0, 4, 3, 31, 63, 127, 3, 511, 1023] mixed (by kernel_rfl) so ?_; intro w19 hw so; rw [← hw] at h t_b1 t_b16; clear hw
      refine wo_pure (m' := 1) 0 rfl (by kernel_rfl) rfl rfl (fun H => at_fieldAddr Try.underlying76 rfl rfl sz5 (by decide) rfl) ?_
      refine wo_pure (m' := 5) 2 rfl (by kernel_rfl) rfl rfl (fun H => at_fieldAddr Try.underlying66 rfl rfl sz5 (by decide) rfl) ?_
      have q20 : cellAt w19.heap (⟨b16, 1, none⟩ : Addr) = some (.int .u8 x13) := (t_b16.cell 1).trans (by first | rfl | simp [List.getElem?_append, ints_len, bools_len])
      refine wo_load (m' := 7) 1 (fun H => cellAt H (⟨b16, 1, none⟩ : Addr) = some (.int .u8 x13)) rfl (by kernel_rfl) rfl rfl (fun H q20 => at_load (v := .int .u8 x13) Try.underlying5 rfl rfl (q20)) q20 ?_
      obtain ⟨q21, q22, h⟩ := h
      refine wo_pure (m' := 23) 4 rfl (by kernel_rfl) rfl rfl (fun H => at_ixAddrA Try.underlying40 sz39 rfl rfl q21 q22) ?_
      obtain ⟨q23, q24, h⟩ := h
      refine wo_pure (m' := 279) 8 rfl (by kernel_rfl) rfl rfl (fun H => at_ixAddrA Try.underlying40 sz39 rfl rfl q23 q24) ?_
      have q25 : cellAt w19.heap (⟨b1, 0, none⟩ : Addr) = some (.int .u8 a2_0) := (t_b1.cell 0).trans (by first | rfl | simp [List.getElem?_append, ints_len, bools_len])
      refine wo_load (m' := 287) 3 (fun H => cellAt H (⟨b1, 0, none⟩ : Addr) = some (.int .u8 a2_0)) rfl (by kernel_rfl) rfl rfl (fun H q25 => at_load (v := .int .u8 a2_0) Try.underlying5 rfl rfl (q25)) q25 ?_
      obtain ⟨q26, q27, h⟩ := h
      refine wo_pure (m' := 319) 5 rfl (by kernel_rfl) rfl rfl (fun H => at_ixAddrA Try.underlying39 sz3 rfl rfl q26 q27) ?_
      obtain ⟨x28, q29, h⟩ := h
      refine wo_load (m' := 383) 6 (fun H => cellAt H ((a4.add (Int.toNat x13 * 256)).add (Int.toNat a2_0 * 1)) = some (.int .i64 x28)) rfl (by kernel_rfl) rfl rfl (fun H q29 => at_load Try.underlying3 rfl rfl q29) q29 ?_
      refine wo_pure (m' := 511) 7 rfl (by kernel_rfl) rfl rfl (fun H => at_add rfl rfl) ?_
      obtain ⟨q30, q31, h⟩ := h
      refine wo_pure (m' := 1023) 9 rfl (by kernel_rfl) rfl rfl (fun H => at_ixAddrA Try.underlying39 sz3 rfl rfl q30 q31) ?_
      refine wo_take (m' := 2047) 10 [true, true, true] rfl (by kernel_rfl) rfl (by kernel_rfl) ?_
      refine wl_st (v := .int .i64 (IntKind.wrap .i64 (x28 + 1))) h rfl so (fun q1 q2 => ef_store (sz := sz3) rfl rfl rfl q1 q2) ?_; intro w32 h so
      obtain ⟨q33, h⟩ := h
      replace t_b1 := pv_bk q33 t_b1 (by simp)
      replace t_b16 := pv_bk q33 t_b16 (by simp)
      refine wl_nil ?_
      refine wk_tq trivial ?_
      refine wo_done (by kernel_rfl) ?_
      exact wk_prune [] trivial (fun f1 => hJ3 () _ f1 h so)
    · refine wc_wo [0, 1, 0, 4, 3, 31, 63, 127, 3, 511, 1023] mixed (by kernel_rfl) so ?_; intro w34 hw so; rw [← hw] at h t_b1 t_b16; clear hw
      refine wo_pure (m' := 1) 0 rfl (by kernel_rfl) rfl rfl (fun H => at_fieldAddr Try.underlying76 rfl rfl sz5 (by decide) rfl) ?_
      refine wo_pure (m' := 5) 2 rfl (by kernel_rfl) rfl rfl (fun H => at_fieldAddr Try.underlying66 rfl rfl sz5 (by decide) rfl) ?_
      have q35 : cellAt w34.heap (⟨b16, 2, none⟩ : Addr) = some (.int .u8 x14) := (t_b16.cell 2).trans (by first | rfl | simp [List.getElem?_append, ints_len, bools_len])
      refine wo_load (m' := 7) 1 (fun H => cellAt H (⟨b16, 2, none⟩ : Addr) = some (.int .u8 x14)) rfl (by kernel_rfl) rfl rfl (fun H q35 => at_load (v := .int .u8 x14) Try.underlying5 rfl rfl (q35)) q35 ?_
      obtain ⟨q36, q37, h⟩ := h
      refine wo_pure (m' := 23) 4 rfl (by kernel_rfl) rfl rfl (fun H => at_ixAddrA Try.underlying40 sz39 rfl rfl q36 q37) ?_
      obtain ⟨q38, q39, h⟩ := h
      refine wo_pure (m' := 279) 8 rfl (by kernel_rfl) rfl rfl (fun H => at_ixAddrA Try.underlying40 sz39 rfl rfl q38 q39) ?_
      have q40 : cellAt w34.heap (⟨b1, 0, none⟩ : Addr) = some (.int .u8 a2_0) := (t_b1.cell 0).trans (by first | rfl | simp [List.getElem?_append, ints_len, bools_len])
      refine wo_load (m' := 287) 3 (fun H => cellAt H (⟨b1, 0, none⟩ : Addr) = some (.int .u8 a2_0)) rfl (by kernel_rfl) rfl rfl (fun H q40 => at_load (v := .int .u8 a2_0) Try.underlying5 rfl rfl (q40)) q40 ?_
      obtain ⟨q41, q42, h⟩ := h
      refine wo_pure (m' := 319) 5 rfl (by kernel_rfl) rfl rfl (fun H => at_ixAddrA Try.underlying39 sz3 rfl rfl q41 q42) ?_
      obtain ⟨x43, q44, h⟩ := h
      refine wo_load (m' := 383) 6 (fun H => cellAt H ((a5.add (Int.toNat x14 * 256)).add (Int.toNat a2_0 * 1)) = some (.int .i64 x43)) rfl (by kernel_rfl) rfl rfl (fun H q44 => at_load Try.underlying3 rfl rfl q44) q44 ?_
      refine wo_pure (m' := 511) 7 rfl (by kernel_rfl) rfl rfl (fun H => at_add rfl rfl) ?_
      obtain ⟨q45, q46, h⟩ := h
      refine wo_pure (m' := 1023) 9 rfl (by kernel_rfl) rfl rfl (fun H => at_ixAddrA Try.underlying39 sz3 rfl rfl q45 q46) ?_
      refine wo_take (m' := 2047) 10 [true, true, true] rfl (by kernel_rfl) rfl (by kernel_rfl) ?_
      refine wl_st (v := .int .i64 (IntKind.wrap .i64 (x43 + 1))) h rfl so (fun q1 q2 => ef_store (sz := sz3) rfl rfl rfl q1 q2) ?_; intro w47 h so
      obtain ⟨q48, h⟩ := h
      replace t_b1 := pv_bk q48 t_b1 (by simp)
      replace t_b16 := pv_bk q48 t_b16 (by simp)
      refine wl_nil ?_
      refine wk_tq trivial ?_
      refine wo_done (by kernel_rfl) ?_
      exact wk_prune [] trivial (fun f1 => hJ3 () _ f1 h so)
def pen_desk_each.enc : Int → Value := fun r => .int .i64 r
def pen_desk_each.s (a0 : Option Addr) (a1 : Sl) (a2 : Value) (H0 : Hp) (Q : Int → Hp → Prop) : Prop :=
  Gn [] H0 (fun (b1 : Nat) (H2 : Hp) => a2.cells = [a2].toArray ∧ nw H2 73 [a2] (fun p3 H4 => Pv [b1] H2 H4 ∧ (Gn [] H4 (fun (b7 : Nat) (H8 : Hp) => someA a0 (fun p9 => ∃ x11 : Int, ∃ x12 : Int, ∃ x13 : Int, ∃ x14 : Sl, ∃ x15 : Sl, ∃ x16 : Ints 16, ∃ x17 : Sl, ∃ x18 : Ints 16, ∃ x19 : Sl, ∃ x20 : Ints 16, ∃ x21 : Sl, ∃ x22 : Ints 16, ∃ x23 : Sl, ∃ x24 : Ints 16, ∃ x25 : Sl, ∃ x26 : Ints 16, ∃ x27 : Sl, ∃ x28 : Ints 16, ∃ x29 : Sl, ∃ x30 : Ints 16, ∃ x31 : Sl, ∃ x32 : Int, ∃ x33 : Int, ldA H8 (p9.add 0) (c32 x11 x12 x13 x14 x15 x16 x17 x18 x19 x20 x21 x22 x23 x24 x25 x26 x27 x28 x29 x30 x31 x32 x33) ∧ (Gn [] H8 (fun (b35 : Nat) (H37 : Hp) => Gn [] H37 (fun (b38 : Nat) (H40 : Hp) => geom_Walk.s x11 x12 x13 x14 x15 x32 x33 H40 (fun x41 H42 => Pv [b1, b7, b35, b38] H40 H42 ∧ (Bk H42 b1 33 [.slice a1.a a1.n a1.c] → (Bk H42 b7 35 [.int .i64 0] → (Bk H42 b35 32 (c32 x11 x12 x13 x14 x15 x16 x17 x18 x19 x20 x21 x22 x23 x24 x25 x26 x27 x28 x29 x30 x31 x32 x33) → (Bk H42 b38 3 [.int .i64 0] → (Rg H42 (fun r44 D52 H47 => geom_Walk_1.s (.func (.yield (D52 + 1)) #[] #[]) (fun (x48 : Int × Int × Int × Int × Bool) (H50 : Hp) (K49 : Bool → Hp → Prop) => Lp H50 (D52 + 1) r44 ∧ (Lp H50 (D52 + 1) r44 ∧ Up (putL H50 (D52 + 1) (bsy r44)) (fun H53 => ldI .i64 H53 (⟨b38, 0, none⟩ : Addr) (fun x54 => st H53 (⟨b38, 0, none⟩ : Addr) (.int .i64 (IntKind.wrap .i64 (x54 + 1))) (fun H56 => Lp H56 (D52 + 1) (bsy r44) ∧ K49 true (putL H56 (D52 + 1) r44)))))) x41.1 x41.2.1 x41.2.2.1 x41.2.2.2.1 x41.2.2.2.2 H47 (fun _ H51 => Lp H51 (D52 + 1) r44 ∧ Up (putL H51 (D52 + 1) (exh r44)) (fun H58 => ldI .i64 H58 (⟨b38, 0, none⟩ : Addr) (fun x59 => ldL H58 (⟨b1, 0, none⟩ : Addr) (fun x61 => if (x59 != (x61.n : Int)) = true then (st H58 (⟨b7, 0, none⟩ : Addr) (.int .i64 252) (fun H63 => tkD (D52 :: []) H63 (fun H64 => ldI .i64 H64 (⟨b7, 0, none⟩ : Addr) (fun x66 => Q x66 H64)))) else (ldL H58 (⟨b35, 4, none⟩ : Addr) (fun x67 => 0 ≤ (x67.n : Int) ∧ (2 : Int) * (x67.n : Int) ≤ 281474976710656 ∧ (x67.n : Int) ≤ 9223372036854775807 ∧ nwA H58 55 (madeCells z55.cells (Int.toNat (x67.n : Int) * 1)) (fun p73 H74 => Gn [] H74 (fun (b75 : Nat) (H77 : Hp) => st H77 (⟨b38, 0, none⟩ : Addr) (.int .i64 0) (fun H78 => Pv [b75] H77 H78 ∧ (∃ x80 : Int, ∃ x81 : Int, ∃ x82 : Int, ∃ x83 : Sl, ldA H78 (⟨b35, 0, none⟩ : Addr) (c24 x80 x81 x82 x83) ∧ (ldL H78 (⟨b35, 4, none⟩ : Addr) (fun x85 => ldI .i64 H78 (⟨b35, 141, none⟩ : Addr) (fun x87 => ldI .i64 H78 (⟨b35, 142, none⟩ : Addr) (fun x89 => geom_Walk.s x80 x81 x82 x83 x85 x87 x89 H78 (fun x91 H92 => Pv [b75] H78 H92 ∧ (Bk H92 b75 87 [.slice (some p73) (Int.toNat (x67.n : Int)) (Int.toNat (x67.n : Int))] → (Rg H92 (fun r94 D102 H97 => geom_Walk_1.s (.func (.yield (D102 + 1)) #[] #[]) (fun (x98 : Int × Int × Int × Int × Bool) (H100 : Hp) (K99 : Bool → Hp → Prop) => Lp H100 (D102 + 1) r94 ∧ (Gn [] H100 (fun (b103 : Nat) (H105 : Hp) => Lp H105 (D102 + 1) r94 ∧ Up (putL H105 (D102 + 1) (bsy r94)) (fun H106 => Pv [b103] H105 H106 ∧ (ldL H106 (⟨b1, 0, none⟩ : Addr) (fun x108 => ldI .i64 H106 (⟨b38, 0, none⟩ : Addr) (fun x110 => 0 ≤ x110 ∧ x110 < (x108.n : Int) ∧ someA x108.a (fun p114 => ∃ x116 : Ints 64, ldA H106 (p114.add (Int.toNat x110 * 64)) (c57 x116) ∧ (Gn [] H106 (fun (b118 : Nat) (H120 : Hp) => ldI .i64 H120 (⟨b38, 0, none⟩ : Addr) (fun x121 => st H120 (⟨b38, 0, none⟩ : Addr) (.int .i64 (IntKind.wrap .i64 (x121 + 1))) (fun H123 => Pv [b103, b118] H120 H123 ∧ (ldL H123 (⟨b75, 0, none⟩ : Addr) (fun x127 => 0 ≤ x98.1 ∧ x98.1 < (x127.n : Int) ∧ someA x127.a (fun p132 => ldI .i16 H123 (p132.add (Int.toNat x98.1 * 1)) (fun x134 => runs_Symbols.s x116 x134 H123 (fun x136 H137 => Pv [b103, b118] H123 H137 ∧ (if (x136.2 != 0) = true then (st H137 (⟨b7, 0, none⟩ : Addr) (.int .i64 x136.2) (fun H139 => Lp H139 (D102 + 1) (bsy r94) ∧ K99 false (putL H139 (D102 + 1) (dn r94 .ret)))) else (ldL H137 (⟨b75, 0, none⟩ : Addr) (fun x140 => Bk H137 b118 57 (c57 x116) → (ldI .i16 H137 (⟨b118, 0, none⟩ : Addr) (fun x142 => 0 ≤ x98.1 ∧ x98.1 < (x140.n : Int) ∧ someA x140.a (fun p146 => st H137 (p146.add (Int.toNat x98.1 * 1)) (.int .i16 x142) (fun H148 => Pv [b103] H137 H148 ∧ (∃ k150, Fix (fun (rec155 : Int → Hp → Prop) (s152 : Int) (H153 : Hp) => if decide (s152 < (x136.1.n : Int)) = true then (0 ≤ s152 ∧ s152 < (x136.1.n : Int) ∧ someA x136.1.a (fun p158 => ∃ x160 : Int, ∃ x161 : Int, ∃ x162 : Int, ldA H153 (p158.add (Int.toNat s152 * 3)) (c66 x160 x161 x162) ∧ (Gn [] H153 (fun (b164 : Nat) (H166 : Hp) => ldF H166 p3 (fun x167 => (∃ p169 : Addr, ∃ p170 : Addr, x167 = .func (.func 17) #[] #[.pointer (some p169), .pointer (some p170)] ∧ (pen_Encode_1.s x98.1 (s152 == 0) x160 x161 x162 p169 p170 H166 (fun x172 H173 => Pv [b103] H166 H173 ∧ (if (x172 != 0) = true then (st H173 (⟨b7, 0, none⟩ : Addr) (.int .i64 x172) (fun H175 => Lp H175 (D102 + 1) (bsy r94) ∧ K99 false (putL H175 (D102 + 1) (dn r94 .ret)))) else (rec155 ((IntKind.wrap .i64 (s152 + 1))) H173))))) ∨ (∃ p176 : Addr, ∃ p177 : Addr, ∃ p178 : Addr, x167 = .func (.func 22) #[] #[.pointer (some p176), .pointer (some p177), .pointer (some p178)] ∧ (pen_Count_1.s x98.1 (s152 == 0) x160 x161 x162 p176 p177 p178 H166 (fun x180 H181 => Pv [b103] H166 H181 ∧ (if (x180 != 0) = true then (st H181 (⟨b7, 0, none⟩ : Addr) (.int .i64 x180) (fun H183 => Lp H183 (D102 + 1) (bsy r94) ∧ K99 false (putL H183 (D102 + 1) (dn r94 .ret)))) else (rec155 ((IntKind.wrap .i64 (s152 + 1))) H181)))))))))) else (Lp H153 (D102 + 1) (bsy r94) ∧ K99 true (putL H153 (D102 + 1) r94))) k150 (0) H148))))))))))))))))))))))))) x91.1 x91.2.1 x91.2.2.1 x91.2.2.2.1 x91.2.2.2.2 H97 (fun _ H101 => (Lp H101 (D102 + 1) r94 ∧ Up (putL H101 (D102 + 1) (exh r94)) (fun H185 => st H185 (⟨b7, 0, none⟩ : Addr) (.int .i64 0) (fun H186 => tkD (D102 :: (D52 :: [])) H186 (fun H187 => ldI .i64 H187 (⟨b7, 0, none⟩ : Addr) (fun x189 => Q x189 H187))))) ∨ (Lp H101 (D102 + 1) (dn r94 .ret) ∧ Up (putL H101 (D102 + 1) (exh (dn r94 .ret))) (fun H190 => tkD (D102 :: (D52 :: [])) H190 (fun H191 => ldI .i64 H191 (⟨b7, 0, none⟩ : Addr) (fun x193 => Q x193 H191))))))))))))))))))))))))))))))))))))))
set_option maxRecDepth 20000 in
set_option maxHeartbeats 4000000 in
theorem pen_desk_each.calls (a0 : Option Addr) (a1 : Sl) (a2 : Value) (w0 : World) (Q : Int → Hp → Prop) (h : pen_desk_each.s a0 a1 a2 w0.heap Q) :
    Ca Try.prog 16 #[.pointer a0, .slice a1.a a1.n a1.c, a2] w0 (Rt pen_desk_each.enc Q w0) := by
  refine ca_startM (c := _) Try.func16 rfl Try.ntmps16 rfl ?_
  have so : Sm w0 w0 := Sm.refl w0
  unfold pen_desk_each.s at h
  refine wc_prune [(0, .pointer a0), (1, .slice a1.a a1.n a1.c), (2, a2)] ⟨rfl, rfl, rfl, trivial⟩ (fun f1 => ?_)
  refine wc_seq ?_
  refine wc_region ?_
  refine wl_newT (T := 33) (cs := [.slice a1.a a1.n a1.c]) (ef_box rfl rfl) rfl so ?_; intro b1 w2 hb_b1 t_b1 k_b1 so
  have g_b1 := Nat.le_of_eq hb_b1.symm
  have hc := k_b1.ch (F := [])
  replace h := h b1 _ hc g_b1 t_b1.lt; clear hc
  obtain ⟨q5, h⟩ := h
  refine wl_new (ef_box rfl q5) rfl so h ?_; intro p3 w4 h so
  obtain ⟨q6, h⟩ := h
  replace t_b1 := pv_bk q6 t_b1 (by simp)
  refine wl_newT (T := 35) (cs := [.int .i64 0]) (ef_alloc zero35 rfl) rfl so ?_; intro b7 w8 hb_b7 t_b7 k_b7 so
  have g_b7 := Nat.le_of_eq hb_b7.symm
  have hc := k_b7.ch (F := [])
  have n_b1_b7 : b1 ≠ b7 := fun e => by have := t_b1.lt; omega
  replace t_b1 := t_b1.keep k_b7
  refine wl_nil ?_
  refine wk_prune [(0, .pointer a0), (4, .pointer (some (⟨b1, 0, none⟩ : Addr))), (5, .pointer (some p3)), (6, .pointer (some (⟨b7, 0, none⟩ : Addr)))] ⟨rfl, rfl, rfl, rfl, trivial⟩ (fun f1 => ?_)
  refine wk_then ?_
  refine wc_seq ?_
  refine wc_region ?_
  refine wl_val (at_move rfl) rfl ?_
  replace h := h b7 _ hc g_b7 t_b7.lt; clear hc
  obtain ⟨p9, q10, h⟩ := h
  refine wl_val (at_nilCheck (congrArg Value.pointer q10)) rfl ?_
  refine wl_val (at_fieldAddr Try.underlying70 rfl rfl sz32 (by decide) rfl) rfl ?_
  obtain ⟨x11, x12, x13, x14, x15, x16, x17, x18, x19, x20, x21, x22, x23, x24, x25, x26, x27, x28, x29, x30, x31, x32, x33, q34, h⟩ := h
  refine wl_val (at_loadA (cs := (c32 x11 x12 x13 x14 x15 x16 x17 x18 x19 x20 x21 x22 x23 x24 x25 x26 x27 x28 x29 x30 x31 x32 x33)) Try.underlying32 rfl (by rw [len32]; exact sz32) rfl q34) rfl ?_
  refine wl_newT (T := 32) (cs := (c32 0 0 0 ⟨none, 0, 0⟩ ⟨none, 0, 0⟩ (zInts 16) ⟨none, 0, 0⟩ (zInts 16) ⟨none, 0, 0⟩ (zInts 16) ⟨none, 0, 0⟩ (zInts 16) ⟨none, 0, 0⟩ (zInts 16) ⟨none, 0, 0⟩ (zInts 16) ⟨none, 0, 0⟩ (zInts 16) ⟨none, 0, 0⟩ (zInts 16) ⟨none, 0, 0⟩ 0 0)) (ef_alloc zero32 rfl) rfl so ?_; intro b35 w36 hb_b35 t_b35 k_b35 so
  have g_b35 := Nat.le_of_eq hb_b35.symm
  have hc := k_b35.ch (F := [])
  have n_b1_b35 : b1 ≠ b35 := fun e => by have := t_b1.lt; omega
  replace t_b1 := t_b1.keep k_b35
  have n_b7_b35 : b7 ≠ b35 := fun e => by have := t_b7.lt; omega
  replace t_b7 := t_b7.keep k_b35
  refine wl_stWT (vs := (c32 x11 x12 x13 x14 x15 x16 x17 x18 x19 x20 x21 x22 x23 x24 x25 x26 x27 x28 x29 x30 x31 x32 x33)) t_b35 (by first | (rw [len32, len32]) | (rw [len32]) | rfl) rfl so (fun q => ef_storeA (p := (⟨b35, 0, none⟩ : Addr)) (cs := (c32 x11 x12 x13 x14 x15 x16 x17 x18 x19 x20 x21 x22 x23 x24 x25 x26 x27 x28 x29 x30 x31 x32 x33)) (by rw [len32]; exact sz32) rfl rfl (one32 _ _ _ _ _ _ _ _ _ _ _ _ _ _ _ _ _ _ _ _ _ _ _) q) ?_; intro w37 t_b35 s_w37 so
  replace t_b1 := t_b1.same s_w37 (n_b1_b35)
  replace t_b7 := t_b7.same s_w37 (n_b7_b35)
  replace hc := ch_same hc s_w37 (.inr g_b35)
  refine wl_nil ?_
  refine wk_prune [(4, .pointer (some (⟨b1, 0, none⟩ : Addr))), (5, .pointer (some p3)), (6, .pointer (some (⟨b7, 0, none⟩ : Addr))), (7, .pointer (some (⟨b35, 0, none⟩ : Addr)))] ⟨rfl, rfl, rfl, rfl, trivial⟩ (fun f1 => ?_)
  refine wk_then ?_
  refine wc_seq ?_
  refine wc_region ?_
  replace h := h b35 _ hc g_b35 t_b35.lt; clear hc
  refine wl_newT (T := 3) (cs := [.int .i64 0]) (ef_alloc zero3 rfl) rfl so ?_; intro b38 w39 hb_b38 t_b38 k_b38 so
  have g_b38 := Nat.le_of_eq hb_b38.symm
  have hc := k_b38.ch (F := [])
  have n_b1_b38 : b1 ≠ b38 := fun e => by have := t_b1.lt; omega
  replace t_b1 := t_b1.keep k_b38
  have n_b7_b38 : b7 ≠ b38 := fun e => by have := t_b7.lt; omega
  replace t_b7 := t_b7.keep k_b38
  have n_b35_b38 : b35 ≠ b38 := fun e => by have := t_b35.lt; omega
  replace t_b35 := t_b35.keep k_b38
  refine wl_stT (v := .int .i64 0) (cs' := [.int .i64 0]) t_b38 (by first | decide | (rw [len3]; decide) | (rw [len3]; show 0 < _; decide) | simp [ints_len, bools_len]) (by first | rfl | simp [List.set_append, ints_len, bools_len]) rfl so (fun q1 q2 => ef_store (sz := sz3) rfl rfl rfl q1 q2) ?_; intro w40 t_b38 s_w40 so
  replace t_b1 := t_b1.same s_w40 (n_b1_b38)
  replace t_b7 := t_b7.same s_w40 (n_b7_b38)
  replace t_b35 := t_b35.same s_w40 (n_b35_b38)
  replace hc := ch_same hc s_w40 (.inr g_b38)
  refine wl_nil ?_
  refine wk_prune [(4, .pointer (some (⟨b1, 0, none⟩ : Addr))), (5, .pointer (some p3)), (6, .pointer (some (⟨b7, 0, none⟩ : Addr))), (7, .pointer (some (⟨b35, 0, none⟩ : Addr))), (8, .pointer (some (⟨b38, 0, none⟩ : Addr)))] ⟨rfl, rfl, rfl, rfl, rfl, trivial⟩ (fun f1 => ?_)
  refine wk_then ?_
  refine wc_seq ?_
  refine wc_seq ?_
  refine wc_region ?_
  refine wl_val (at_fieldAddr Try.underlying32 rfl rfl sz24 (by decide) rfl) rfl ?_
  refine wl_val (at_loadA (cs := (c24 x11 x12 x13 x14)) Try.underlying24 rfl (by rw [len24]; exact sz24) rfl (ldA_sub (pre := []) (sub := (c24 x11 x12 x13 x14)) (post := ([.slice x15.a x15.n x15.c] ++ (ints .u8 x16.1) ++ [.slice x17.a x17.n x17.c] ++ (ints .u8 x18.1) ++ [.slice x19.a x19.n x19.c] ++ (ints .u8 x20.1) ++ [.slice x21.a x21.n x21.c] ++ (ints .u8 x22.1) ++ [.slice x23.a x23.n x23.c] ++ (ints .u8 x24.1) ++ [.slice x25.a x25.n x25.c] ++ (ints .u8 x26.1) ++ [.slice x27.a x27.n x27.c] ++ (ints .u8 x28.1) ++ [.slice x29.a x29.n x29.c] ++ (ints .u8 x30.1) ++ [.slice x31.a x31.n x31.c, .int .i64 x32, .int .i64 x33])) (by first | exact t_b35 | (have q := t_b35; simp only [List.append_assoc, List.cons_append, List.nil_append, List.append_nil] at q ⊢; exact q)) (by first | rfl | simp [ints_len, bools_len]))) rfl ?_
  refine wl_val (at_fieldAddr Try.underlying32 rfl rfl sz25 (by decide) rfl) rfl ?_
  refine wl_val (at_load (v := .slice x15.a x15.n x15.c) Try.underlying25 rfl rfl ((t_b35.cell 4).trans (by first | rfl | simp [List.getElem?_append, ints_len, bools_len]))) rfl ?_
  refine wl_val (at_fieldAddr Try.underlying32 rfl rfl sz3 (by decide) rfl) rfl ?_
  refine wl_val (at_load (v := .int .i64 x32) Try.underlying3 rfl rfl ((t_b35.cell 141).trans (by first | rfl | simp [List.getElem?_append, ints_len, bools_len]))) rfl ?_
  refine wl_val (at_fieldAddr Try.underlying32 rfl rfl sz3 (by decide) rfl) rfl ?_
  refine wl_val (at_load (v := .int .i64 x33) Try.underlying3 rfl rfl ((t_b35.cell 142).trans (by first | rfl | simp [List.getElem?_append, ints_len, bools_len]))) rfl ?_
  replace h := h b38 _ hc g_b38 t_b38.lt; clear hc
  refine wl_callF (geom_Walk.calls _ _ _ _ _ _ _ _ _ h) enter27 rfl trivial so ?_; intro x41 w42 h so
  obtain ⟨q43, h⟩ := h
  replace t_b1 := pv_bk q43 t_b1 (by simp)
  replace t_b7 := pv_bk q43 t_b7 (by simp)
  replace t_b35 := pv_bk q43 t_b35 (by simp)
  replace t_b38 := pv_bk q43 t_b38 (by simp)
  refine wl_nil ?_
  refine wk_prune [(4, .pointer (some (⟨b1, 0, none⟩ : Addr))), (5, .pointer (some p3)), (6, .pointer (some (⟨b7, 0, none⟩ : Addr))), (7, .pointer (some (⟨b35, 0, none⟩ : Addr))), (8, .pointer (some (⟨b38, 0, none⟩ : Addr))), (29, .func (.func 42) #[] #[.pointer (some x41.1), .pointer (some x41.2.1), .pointer (some x41.2.2.1), .pointer (some x41.2.2.2.1), .pointer (some x41.2.2.2.2)])] ⟨rfl, rfl, rfl, rfl, rfl, rfl, trivial⟩ (fun f1 => ?_)
  refine wk_then ?_
  refine wc_block ?_
  replace h := h t_b1
  replace h := h t_b7
  replace h := h t_b35
  replace h := h t_b38
  refine wc_prune [(4, .pointer (some (⟨b1, 0, none⟩ : Addr))), (5, .pointer (some p3)), (6, .pointer (some (⟨b7, 0, none⟩ : Addr))), (7, .pointer (some (⟨b35, 0, none⟩ : Addr))), (8, .pointer (some (⟨b38, 0, none⟩ : Addr))), (29, .func (.func 42) #[] #[.pointer (some x41.1), .pointer (some x41.2.1), .pointer (some x41.2.2.1), .pointer (some x41.2.2.2.1), .pointer (some x41.2.2.2.2)])] ⟨rfl, rfl, rfl, rfl, rfl, rfl, trivial⟩ (fun f1 => ?_)
  refine wc_rng (caps := [.pointer (some x41.1), .pointer (some x41.2.1), .pointer (some x41.2.2.1), .pointer (some x41.2.2.2.1), .pointer (some x41.2.2.2.2)]) rfl enter42 so h ?_; intro r44 D52 w47 q45 q46 h so
  refine Ca.mono (geom_Walk_1.calls _ _ (yok (ps := [30]) q46 (fun _ => rfl) fun x48 w50 K49 h => ?_) _ _ _ _ _ w47 _ h) ?_
  · refine ⟨h.1, ?_⟩; replace h := h.2; have so := Sm.refl w50; refine wc_prune [(8, .pointer (some (⟨b38, 0, none⟩ : Addr)))] ⟨rfl, trivial⟩ (fun f1 => ?_)
    refine wc_skip ?_
    refine wk_prune [(8, .pointer (some (⟨b38, 0, none⟩ : Addr)))] ⟨rfl, trivial⟩ (fun f1 => ?_)
    refine wk_asg q45 h so ?_; intro w53 h so
    refine wc_block ?_
    refine wc_region ?_
    obtain ⟨x54, q55, h⟩ := h
    refine wl_val (at_load Try.underlying3 rfl rfl q55) rfl ?_
    refine wl_val (at_add rfl rfl) rfl ?_
    refine wl_st (v := .int .i64 (IntKind.wrap .i64 (x54 + 1))) h rfl so (fun q1 q2 => ef_store (sz := sz3) rfl rfl rfl q1 q2) ?_; intro w56 h so
    refine wl_nil ?_
    refine wk_blkN ?_
    exact wk_rdN q45 h so
  · rintro _ w51 ⟨_, rfl, h, q57⟩; replace so := so.trans q57
    skip
    · refine rp_none q45 h so ?_; intro w58 h so
      refine wk_blkN ?_
      refine wk_prune [(4, .pointer (some (⟨b1, 0, none⟩ : Addr))), (5, .pointer (some p3)), (6, .pointer (some (⟨b7, 0, none⟩ : Addr))), (7, .pointer (some (⟨b35, 0, none⟩ : Addr))), (8, .pointer (some (⟨b38, 0, none⟩ : Addr)))] ⟨rfl, rfl, rfl, rfl, rfl, trivial⟩ (fun f1 => ?_)
      refine wk_then ?_
      refine wc_seq ?_
      refine wc_seq ?_
      refine wc_region ?_
      obtain ⟨x59, q60, h⟩ := h
      refine wl_val (at_load Try.underlying3 rfl rfl q60) rfl ?_
      obtain ⟨x61, q62, h⟩ := h
      refine wl_val (at_load Try.underlying33 rfl rfl q62) rfl ?_
      refine wl_val (at_lenL Try.underlying33 rfl) rfl ?_
      refine wl_val (at_neq rfl rfl) rfl ?_
      refine wl_nil ?_
      refine wk_prune [(4, .pointer (some (⟨b1, 0, none⟩ : Addr))), (5, .pointer (some p3)), (6, .pointer (some (⟨b7, 0, none⟩ : Addr))), (7, .pointer (some (⟨b35, 0, none⟩ : Addr))), (8, .pointer (some (⟨b38, 0, none⟩ : Addr))), (36, .bool (x59 != (x61.n : Int)))] ⟨rfl, rfl, rfl, rfl, rfl, rfl, trivial⟩ (fun f1 => ?_)
      refine wk_then ?_
      refine wc_cond rfl h (fun h => ?_) (fun h => ?_)
      · refine wc_seq ?_
        refine wc_region ?_
        refine wl_st (v := .int .i64 252) h rfl so (fun q1 q2 => ef_store (sz := sz35) rfl rfl rfl q1 q2) ?_; intro w63 h so
        refine wl_nil ?_
        refine wk_prune [(6, .pointer (some (⟨b7, 0, none⟩ : Addr)))] ⟨rfl, trivial⟩ (fun f1 => ?_)
        refine wk_then ?_
        refine wc_ret ?_
        refine wk_thenR ?_
        refine wk_tk h so ?_; intro w64 h so
        obtain ⟨x66, q65, h⟩ := h
        exact wk_retR1 (x := x66) rfl ⟨by decide, _, rfl, loadVar_one Try.underlying35 rfl q65⟩ rfl so h
      · refine wc_skip ?_
        refine wk_prune [(4, .pointer (some (⟨b1, 0, none⟩ : Addr))), (5, .pointer (some p3)), (6, .pointer (some (⟨b7, 0, none⟩ : Addr))), (7, .pointer (some (⟨b35, 0, none⟩ : Addr))), (8, .pointer (some (⟨b38, 0, none⟩ : Addr)))] ⟨rfl, rfl, rfl, rfl, rfl, trivial⟩ (fun f1 => ?_)
        refine wk_then ?_
        refine wc_seq ?_
        refine wc_region ?_
        refine wl_val (at_fieldAddr Try.underlying32 rfl rfl sz25 (by decide) rfl) rfl ?_
        obtain ⟨x67, q68, h⟩ := h
        refine wl_val (at_load Try.underlying25 rfl rfl q68) rfl ?_
        refine wl_val (at_lenL Try.underlying25 rfl) rfl ?_
        obtain ⟨i69, i69a, i69b, i69c, i69d⟩ := info55; obtain ⟨q70, q71, q72, h⟩ := h
        refine wl_mk (ef_makeSlice Try.underlying87 i69a i69b i69c rfl rfl q70 (by rw [i69d]; exact q71) q72) rfl so h ?_; intro p73 w74 h so
        refine wl_newT (T := 87) (cs := [.slice none 0 0]) (ef_alloc zero87 rfl) rfl so ?_; intro b75 w76 hb_b75 t_b75 k_b75 so
        have g_b75 := Nat.le_of_eq hb_b75.symm
        have hc := k_b75.ch (F := [])
        refine wl_stT (v := .slice (some p73) (Int.toNat (x67.n : Int)) (Int.toNat (x67.n : Int))) (cs' := [.slice (some p73) (Int.toNat (x67.n : Int)) (Int.toNat (x67.n : Int))]) t_b75 (by first | decide | (rw [len87]; decide) | (rw [len87]; show 0 < _; decide) | simp [ints_len, bools_len]) (by first | rfl | simp [List.set_append, ints_len, bools_len]) rfl so (fun q1 q2 => ef_store (sz := sz87) rfl rfl rfl q1 q2) ?_; intro w77 t_b75 s_w77 so
        replace hc := ch_same hc s_w77 (.inr g_b75)
        refine wl_nil ?_
        refine wk_prune [(4, .pointer (some (⟨b1, 0, none⟩ : Addr))), (5, .pointer (some p3)), (6, .pointer (some (⟨b7, 0, none⟩ : Addr))), (7, .pointer (some (⟨b35, 0, none⟩ : Addr))), (8, .pointer (some (⟨b38, 0, none⟩ : Addr))), (9, .pointer (some (⟨b75, 0, none⟩ : Addr)))] ⟨rfl, rfl, rfl, rfl, rfl, rfl, trivial⟩ (fun f1 => ?_)
        refine wk_then ?_
        refine wc_seq ?_
        refine wc_region ?_
        replace h := h b75 _ hc g_b75 t_b75.lt; clear hc
        refine wl_st (v := .int .i64 0) h rfl so (fun q1 q2 => ef_store (sz := sz3) rfl rfl rfl q1 q2) ?_; intro w78 h so
        obtain ⟨q79, h⟩ := h
        replace t_b75 := pv_bk q79 t_b75 (by simp)
        refine wl_nil ?_
        refine wk_prune [(4, .pointer (some (⟨b1, 0, none⟩ : Addr))), (5, .pointer (some p3)), (6, .pointer (some (⟨b7, 0, none⟩ : Addr))), (7, .pointer (some (⟨b35, 0, none⟩ : Addr))), (8, .pointer (some (⟨b38, 0, none⟩ : Addr))), (9, .pointer (some (⟨b75, 0, none⟩ : Addr)))] ⟨rfl, rfl, rfl, rfl, rfl, rfl, trivial⟩ (fun f1 => ?_)
        refine wk_then ?_
        refine wc_seq ?_
        refine wc_seq ?_
        refine wc_region ?_
        refine wl_val (at_fieldAddr Try.underlying32 rfl rfl sz24 (by decide) rfl) rfl ?_
        obtain ⟨x80, x81, x82, x83, q84, h⟩ := h
        refine wl_val (at_loadA (cs := (c24 x80 x81 x82 x83)) Try.underlying24 rfl (by rw [len24]; exact sz24) rfl q84) rfl ?_
        refine wl_val (at_fieldAddr Try.underlying32 rfl rfl sz25 (by decide) rfl) rfl ?_
        obtain ⟨x85, q86, h⟩ := h
        refine wl_val (at_load Try.underlying25 rfl rfl q86) rfl ?_
        refine wl_val (at_fieldAddr Try.underlying32 rfl rfl sz3 (by decide) rfl) rfl ?_
        obtain ⟨x87, q88, h⟩ := h
        refine wl_val (at_load Try.underlying3 rfl rfl q88) rfl ?_
        refine wl_val (at_fieldAddr Try.underlying32 rfl rfl sz3 (by decide) rfl) rfl ?_
        obtain ⟨x89, q90, h⟩ := h
        refine wl_val (at_load Try.underlying3 rfl rfl q90) rfl ?_
        refine wl_callF (geom_Walk.calls _ _ _ _ _ _ _ _ _ h) enter27 rfl trivial so ?_; intro x91 w92 h so
        obtain ⟨q93, h⟩ := h
        replace t_b75 := pv_bk q93 t_b75 (by simp)
        refine wl_nil ?_
        refine wk_prune [(4, .pointer (some (⟨b1, 0, none⟩ : Addr))), (5, .pointer (some p3)), (6, .pointer (some (⟨b7, 0, none⟩ : Addr))), (8, .pointer (some (⟨b38, 0, none⟩ : Addr))), (9, .pointer (some (⟨b75, 0, none⟩ : Addr))), (49, .func (.func 42) #[] #[.pointer (some x91.1), .pointer (some x91.2.1), .pointer (some x91.2.2.1), .pointer (some x91.2.2.2.1), .pointer (some x91.2.2.2.2)])] ⟨rfl, rfl, rfl, rfl, rfl, rfl, trivial⟩ (fun f1 => ?_)
        refine wk_then ?_
        refine wc_block ?_
        replace h := h t_b75
        refine wc_prune [(4, .pointer (some (⟨b1, 0, none⟩ : Addr))), (5, .pointer (some p3)), (6, .pointer (some (⟨b7, 0, none⟩ : Addr))), (8, .pointer (some (⟨b38, 0, none⟩ : Addr))), (9, .pointer (some (⟨b75, 0, none⟩ : Addr))), (49, .func (.func 42) #[] #[.pointer (some x91.1), .pointer (some x91.2.1), .pointer (some x91.2.2.1), .pointer (some x91.2.2.2.1), .pointer (some x91.2.2.2.2)])] ⟨rfl, rfl, rfl, rfl, rfl, rfl, trivial⟩ (fun f1 => ?_)
        refine wc_rng (caps := [.pointer (some x91.1), .pointer (some x91.2.1), .pointer (some x91.2.2.1), .pointer (some x91.2.2.2.1), .pointer (some x91.2.2.2.2)]) rfl enter42 so h ?_; intro r94 D102 w97 q95 q96 h so
        refine Ca.mono (geom_Walk_1.calls _ _ (yok (ps := [50]) q96 (fun _ => rfl) fun x98 w100 K99 h => ?_) _ _ _ _ _ w97 _ h) ?_
        · refine ⟨h.1, ?_⟩; replace h := h.2; have so := Sm.refl w100; refine wc_prune [(4, .pointer (some (⟨b1, 0, none⟩ : Addr))), (5, .pointer (some p3)), (6, .pointer (some (⟨b7, 0, none⟩ : Addr))), (8, .pointer (some (⟨b38, 0, none⟩ : Addr))), (9, .pointer (some (⟨b75, 0, none⟩ : Addr))), (50, .agg (c92 x98.1 x98.2.1 x98.2.2.1 x98.2.2.2.1 x98.2.2.2.2).toArray)] ⟨rfl, rfl, rfl, rfl, rfl, rfl, trivial⟩ (fun f1 => ?_)
          refine wc_region ?_
          refine wl_newT (T := 92) (cs := (c92 0 0 0 0 false)) (ef_alloc zero92 rfl) rfl so ?_; intro b103 w104 hb_b103 t_b103 k_b103 so
          have g_b103 := Nat.le_of_eq hb_b103.symm
          have hc := k_b103.ch (F := [])
          refine wl_stWT (vs := (c92 x98.1 x98.2.1 x98.2.2.1 x98.2.2.2.1 x98.2.2.2.2)) t_b103 (by first | (rw [len92, len92]) | (rw [len92]) | rfl) rfl so (fun q => ef_storeA (p := (⟨b103, 0, none⟩ : Addr)) (cs := (c92 x98.1 x98.2.1 x98.2.2.1 x98.2.2.2.1 x98.2.2.2.2)) (by rw [len92]; exact sz92) rfl rfl (one92 _ _ _ _ _) q) ?_; intro w105 t_b103 s_w105 so
          replace hc := ch_same hc s_w105 (.inr g_b103)
          refine wl_nil ?_
          replace h := h b103 _ hc g_b103 t_b103.lt; clear hc
          refine wk_prune [(4, .pointer (some (⟨b1, 0, none⟩ : Addr))), (5, .pointer (some p3)), (6, .pointer (some (⟨b7, 0, none⟩ : Addr))), (8, .pointer (some (⟨b38, 0, none⟩ : Addr))), (9, .pointer (some (⟨b75, 0, none⟩ : Addr))), (10, .pointer (some (⟨b103, 0, none⟩ : Addr)))] ⟨rfl, rfl, rfl, rfl, rfl, rfl, trivial⟩ (fun f1 => ?_)
          refine wk_asg q95 h so ?_; intro w106 h so
          obtain ⟨q107, h⟩ := h
          replace t_b103 := pv_bk q107 t_b103 (by simp)
          refine wc_block ?_
          refine wc_seq ?_
          refine wc_region ?_
          obtain ⟨x108, q109, h⟩ := h
          refine wl_val (at_load Try.underlying33 rfl rfl q109) rfl ?_
          obtain ⟨x110, q111, h⟩ := h
          refine wl_val (at_load Try.underlying3 rfl rfl q111) rfl ?_
          obtain ⟨q112, q113, p114, q115, h⟩ := h
          refine wl_val (at_ixAddrL Try.underlying33 sz57 (sl_some q115) rfl q112 q113) rfl ?_
          obtain ⟨x116, q117, h⟩ := h
          refine wl_val (at_loadA (cs := (c57 x116)) Try.underlying57 rfl (by rw [len57]; exact sz57) rfl q117) rfl ?_
          refine wl_newT (T := 57) (cs := (c57 (zInts 64))) (ef_alloc zero57 rfl) rfl so ?_; intro b118 w119 hb_b118 t_b118 k_b118 so
          have g_b118 := Nat.le_of_eq hb_b118.symm
          have hc := k_b118.ch (F := [])
          have n_b103_b118 : b103 ≠ b118 := fun e => by have := t_b103.lt; omega
          replace t_b103 := t_b103.keep k_b118
          refine wl_stWT (vs := (c57 x116)) t_b118 (by first | (rw [len57, len57]) | (rw [len57]) | rfl) rfl so (fun q => ef_storeA (p := (⟨b118, 0, none⟩ : Addr)) (cs := (c57 x116)) (by rw [len57]; exact sz57) rfl rfl (one57 _) q) ?_; intro w120 t_b118 s_w120 so
          replace t_b103 := t_b103.same s_w120 (n_b103_b118)
          replace hc := ch_same hc s_w120 (.inr g_b118)
          refine wl_nil ?_
          refine wk_prune [(5, .pointer (some p3)), (6, .pointer (some (⟨b7, 0, none⟩ : Addr))), (8, .pointer (some (⟨b38, 0, none⟩ : Addr))), (9, .pointer (some (⟨b75, 0, none⟩ : Addr))), (10, .pointer (some (⟨b103, 0, none⟩ : Addr))), (11, .pointer (some (⟨b118, 0, none⟩ : Addr)))] ⟨rfl, rfl, rfl, rfl, rfl, rfl, trivial⟩ (fun f1 => ?_)
          refine wk_then ?_
          refine wc_seq ?_
          refine wc_region ?_
          replace h := h b118 _ hc g_b118 t_b118.lt; clear hc
          obtain ⟨x121, q122, h⟩ := h
          refine wl_val (at_load Try.underlying3 rfl rfl q122) rfl ?_
          refine wl_val (at_add rfl rfl) rfl ?_
          refine wl_st (v := .int .i64 (IntKind.wrap .i64 (x121 + 1))) h rfl so (fun q1 q2 => ef_store (sz := sz3) rfl rfl rfl q1 q2) ?_; intro w123 h so
          obtain ⟨q124, h⟩ := h
          replace t_b103 := pv_bk q124 t_b103 (by simp)
          replace t_b118 := pv_bk q124 t_b118 (by simp)
          refine wl_nil ?_
          refine wk_prune [(5, .pointer (some p3)), (6, .pointer (some (⟨b7, 0, none⟩ : Addr))), (9, .pointer (some (⟨b75, 0, none⟩ : Addr))), (10, .pointer (some (⟨b103, 0, none⟩ : Addr))), (11, .pointer (some (⟨b118, 0, none⟩ : Addr)))] ⟨rfl, rfl, rfl, rfl, rfl, trivial⟩ (fun f1 => ?_)
          refine wk_then ?_
          refine wc_seq ?_
          refine wc_wo [0, 0, 0, 4, 14, 30, 63, 127, 255, 255, 511, 2047] mixed (by kernel_rfl) so ?_; intro w125 hw so; rw [← hw] at h t_b103 t_b118; clear hw
          refine wo_pure (m' := 4) 2 rfl (by kernel_rfl) rfl rfl (fun H => at_fieldAddr Try.underlying92 rfl rfl sz3 (by decide) rfl) ?_
          have q126 : ldA w125.heap (⟨b118, 0, none⟩ : Addr) (c57 x116) := ldA_full t_b118
          refine wo_load (m' := 5) 0 (fun H => ldA H (⟨b118, 0, none⟩ : Addr) (c57 x116)) rfl (by kernel_rfl) rfl rfl (fun H q126 => at_loadA (cs := (c57 x116)) Try.underlying57 rfl (by rw [len57]; exact sz57) rfl (q126)) q126 ?_
          obtain ⟨x127, q128, h⟩ := h
          refine wo_load (m' := 7) 1 (fun H => cellAt H (⟨b75, 0, none⟩ : Addr) = some (.slice x127.a x127.n x127.c)) rfl (by kernel_rfl) rfl rfl (fun H q128 => at_load Try.underlying87 rfl rfl q128) q128 ?_
          have q129 : cellAt w125.heap (⟨b103, 0, none⟩ : Addr) = some (.int .i64 x98.1) := (t_b103.cell 0).trans (by first | rfl | simp [List.getElem?_append, ints_len, bools_len])
          refine wo_load (m' := 15) 3 (fun H => cellAt H (⟨b103, 0, none⟩ : Addr) = some (.int .i64 x98.1)) rfl (by kernel_rfl) rfl rfl (fun H q129 => at_load (v := .int .i64 x98.1) Try.underlying3 rfl rfl (q129)) q129 ?_
          obtain ⟨q130, q131, p132, q133, h⟩ := h
          refine wo_pure (m' := 31) 4 rfl (by kernel_rfl) rfl rfl (fun H => at_ixAddrL Try.underlying87 sz55 (sl_some q133) rfl q130 q131) ?_
          obtain ⟨x134, q135, h⟩ := h
          refine wo_load (m' := 63) 5 (fun H => cellAt H (p132.add (Int.toNat x98.1 * 1)) = some (.int .i16 x134)) rfl (by kernel_rfl) rfl rfl (fun H q135 => at_load Try.underlying55 rfl rfl q135) q135 ?_
          refine wo_take (m' := 127) 6 [true, true, true, true] rfl (by kernel_rfl) rfl (by kernel_rfl) ?_
          refine wl_callF (runs_Symbols.calls _ _ _ _ h) enter36 rfl trivial so ?_; intro x136 w137 h so
          obtain ⟨q138, h⟩ := h
          replace t_b103 := pv_bk q138 t_b103 (by simp)
          replace t_b118 := pv_bk q138 t_b118 (by simp)
          refine wl_nil ?_
          refine wk_tq trivial ?_
          refine wo_pure (m' := 255) 7 rfl (by kernel_rfl) rfl rfl (fun H => at_move rfl) ?_
          refine wo_pure (m' := 511) 8 rfl (by kernel_rfl) rfl rfl (fun H => at_extract rfl rfl) ?_
          refine wo_pure (m' := 1023) 9 rfl (by kernel_rfl) rfl rfl (fun H => at_extract rfl rfl) ?_
          refine wo_pure (m' := 2047) 10 rfl (by kernel_rfl) rfl rfl (fun H => at_assign rfl) ?_
          refine wo_pure (m' := 4095) 11 rfl (by kernel_rfl) rfl rfl (fun H => at_assign rfl) ?_
          refine wo_done (by kernel_rfl) ?_
          refine wk_prune [(5, .pointer (some p3)), (6, .pointer (some (⟨b7, 0, none⟩ : Addr))), (9, .pointer (some (⟨b75, 0, none⟩ : Addr))), (10, .pointer (some (⟨b103, 0, none⟩ : Addr))), (11, .pointer (some (⟨b118, 0, none⟩ : Addr))), (12, .slice x136.1.a x136.1.n x136.1.c), (13, .int .i64 x136.2)] ⟨rfl, rfl, rfl, rfl, rfl, rfl, rfl, trivial⟩ (fun f1 => ?_)
          refine wk_then ?_
          refine wc_seq ?_
          refine wc_seq ?_
          refine wc_region ?_
          refine wl_val (at_move rfl) rfl ?_
          refine wl_val (at_neq rfl rfl) rfl ?_
          refine wl_nil ?_
          refine wk_prune [(5, .pointer (some p3)), (6, .pointer (some (⟨b7, 0, none⟩ : Addr))), (9, .pointer (some (⟨b75, 0, none⟩ : Addr))), (10, .pointer (some (⟨b103, 0, none⟩ : Addr))), (11, .pointer (some (⟨b118, 0, none⟩ : Addr))), (12, .slice x136.1.a x136.1.n x136.1.c), (13, .int .i64 x136.2), (68, .bool (x136.2 != 0))] ⟨rfl, rfl, rfl, rfl, rfl, rfl, rfl, rfl, trivial⟩ (fun f1 => ?_)
          refine wk_then ?_
          refine wc_cond rfl h (fun h => ?_) (fun h => ?_)
          · refine wc_seq ?_
            refine wc_region ?_
            refine wl_val (at_move rfl) rfl ?_
            refine wl_st (v := .int .i64 x136.2) h rfl so (fun q1 q2 => ef_store (sz := sz35) rfl rfl rfl q1 q2) ?_; intro w139 h so
            refine wl_nil ?_
            refine wk_prune [(6, .pointer (some (⟨b7, 0, none⟩ : Addr)))] ⟨rfl, trivial⟩ (fun f1 => ?_)
            refine wk_then ?_
            refine wc_ret ?_
            refine wk_thenR ?_
            refine wk_blkR ?_
            exact wk_rdR h so
          · refine wc_skip ?_
            refine wk_prune [(5, .pointer (some p3)), (6, .pointer (some (⟨b7, 0, none⟩ : Addr))), (9, .pointer (some (⟨b75, 0, none⟩ : Addr))), (10, .pointer (some (⟨b103, 0, none⟩ : Addr))), (11, .pointer (some (⟨b118, 0, none⟩ : Addr))), (12, .slice x136.1.a x136.1.n x136.1.c)] ⟨rfl, rfl, rfl, rfl, rfl, rfl, trivial⟩ (fun f1 => ?_)
            refine wk_then ?_
            refine wc_seq ?_
            refine wc_region ?_
            obtain ⟨x140, q141, h⟩ := h
            refine wl_val (at_load Try.underlying87 rfl rfl q141) rfl ?_
            refine wl_val (at_fieldAddr Try.underlying92 rfl rfl sz3 (by decide) rfl) rfl ?_
            refine wl_val (at_load (v := .int .i64 x98.1) Try.underlying3 rfl rfl ((t_b103.cell 0).trans (by first | rfl | simp [List.getElem?_append, ints_len, bools_len]))) rfl ?_
            refine wl_val (at_ixAddrA Try.underlying57 sz55 rfl rfl (by decide) (by decide)) rfl ?_
            replace h := h t_b118
            obtain ⟨x142, q143, h⟩ := h
            refine wl_val (at_load Try.underlying55 rfl rfl q143) rfl ?_
            obtain ⟨q144, q145, p146, q147, h⟩ := h
            refine wl_val (at_ixAddrL Try.underlying87 sz55 (sl_some q147) rfl q144 q145) rfl ?_
            refine wl_st (v := .int .i16 x142) h rfl so (fun q1 q2 => ef_store (sz := sz55) rfl rfl rfl q1 q2) ?_; intro w148 h so
            obtain ⟨q149, h⟩ := h
            replace t_b103 := pv_bk q149 t_b103 (by simp)
            refine wl_nil ?_
            refine wk_prune [(5, .pointer (some p3)), (6, .pointer (some (⟨b7, 0, none⟩ : Addr))), (10, .pointer (some (⟨b103, 0, none⟩ : Addr))), (12, .slice x136.1.a x136.1.n x136.1.c)] ⟨rfl, rfl, rfl, rfl, trivial⟩ (fun f1 => ?_)
            refine wk_then ?_
            refine wc_seq ?_
            refine wc_region ?_
            refine wl_val (at_move rfl) rfl ?_
            refine wl_val (at_lenL Try.underlying107 rfl) rfl ?_
            refine wl_val (at_move rfl) rfl ?_
            refine wl_nil ?_
            refine wk_prune [(5, .pointer (some p3)), (6, .pointer (some (⟨b7, 0, none⟩ : Addr))), (10, .pointer (some (⟨b103, 0, none⟩ : Addr))), (76, .slice x136.1.a x136.1.n x136.1.c), (77, .int .i64 (x136.1.n : Int)), (78, .int .i64 0)] ⟨rfl, rfl, rfl, rfl, rfl, rfl, trivial⟩ (fun f1 => ?_)
            refine wk_then ?_
            refine wc_block ?_
            obtain ⟨k150, h⟩ := h
            refine wc_loop (fun k a w => ∃ (s152 : Int) (f1 : Nat → Value), a = ac 94 (en f1 [(5, .pointer (some p3)), (6, .pointer (some (⟨b7, 0, none⟩ : Addr))), (10, .pointer (some (⟨b103, 0, none⟩ : Addr))), (76, .slice x136.1.a x136.1.n x136.1.c), (77, .int .i64 (x136.1.n : Int)), (78, .int .i64 s152)]) [] ∧ Sm w100 w ∧ (Bk w.heap b103 92 (c92 x98.1 x98.2.1 x98.2.2.1 x98.2.2.2.1 x98.2.2.2.2) ∧ True) ∧ Fix _ k s152 w.heap) k150 ⟨(0), _, ac_again ⟨rfl, rfl, rfl, rfl, rfl, rfl, trivial⟩, so, ⟨t_b103, trivial⟩, h⟩ ?_
            rintro k151 a154 w153 ⟨s152, f1, rfl, so, ⟨t_b103, _⟩, h⟩
            rcases k151 with _ | k151
            · exact h.elim
            replace h := Fix.un h; refine wc_in ?_
            refine wc_seq ?_
            refine wc_region ?_
            refine wl_val (at_lss rfl rfl) rfl ?_
            refine wl_nil ?_
            refine wk_prune [(5, .pointer (some p3)), (6, .pointer (some (⟨b7, 0, none⟩ : Addr))), (10, .pointer (some (⟨b103, 0, none⟩ : Addr))), (76, .slice x136.1.a x136.1.n x136.1.c), (77, .int .i64 (x136.1.n : Int)), (78, .int .i64 s152), (79, .bool (decide (s152 < (x136.1.n : Int))))] ⟨rfl, rfl, rfl, rfl, rfl, rfl, rfl, trivial⟩ (fun f1 => ?_)
            refine wk_then ?_
            refine wc_seq ?_
            refine wc_cond rfl h (fun h => ?_) (fun h => ?_)
            · refine wc_skip ?_
              refine wk_prune [(5, .pointer (some p3)), (6, .pointer (some (⟨b7, 0, none⟩ : Addr))), (10, .pointer (some (⟨b103, 0, none⟩ : Addr))), (76, .slice x136.1.a x136.1.n x136.1.c), (77, .int .i64 (x136.1.n : Int)), (78, .int .i64 s152)] ⟨rfl, rfl, rfl, rfl, rfl, rfl, trivial⟩ (fun f1 => ?_)
              refine wk_then ?_
              refine wc_seq ?_
              refine wc_block ?_
              refine wc_seq ?_
              refine wc_region ?_
              refine wl_val (at_move rfl) rfl ?_
              obtain ⟨q156, q157, p158, q159, h⟩ := h
              refine wl_val (at_ixAddrL Try.underlying107 sz66 (sl_some q159) rfl q156 q157) rfl ?_
              obtain ⟨x160, x161, x162, q163, h⟩ := h
              refine wl_val (at_loadA (cs := (c66 x160 x161 x162)) Try.underlying66 rfl (by rw [len66]; exact sz66) rfl q163) rfl ?_
              refine wl_newT (T := 66) (cs := (c66 0 0 0)) (ef_alloc zero66 rfl) rfl so ?_; intro b164 w165 hb_b164 t_b164 k_b164 so
              have g_b164 := Nat.le_of_eq hb_b164.symm
              have hc := k_b164.ch (F := [])
              have n_b103_b164 : b103 ≠ b164 := fun e => by have := t_b103.lt; omega
              replace t_b103 := t_b103.keep k_b164
              refine wl_val (at_assign rfl) rfl ?_
              refine wl_stWT (vs := (c66 x160 x161 x162)) t_b164 (by first | (rw [len66, len66]) | (rw [len66]) | rfl) rfl so (fun q => ef_storeA (p := (⟨b164, 0, none⟩ : Addr)) (cs := (c66 x160 x161 x162)) (by rw [len66]; exact sz66) rfl rfl (one66 _ _ _) q) ?_; intro w166 t_b164 s_w166 so
              replace t_b103 := t_b103.same s_w166 (n_b103_b164)
              replace hc := ch_same hc s_w166 (.inr g_b164)
              refine wl_nil ?_
              refine wk_prune [(5, .pointer (some p3)), (6, .pointer (some (⟨b7, 0, none⟩ : Addr))), (10, .pointer (some (⟨b103, 0, none⟩ : Addr))), (14, .int .i64 s152), (15, .pointer (some (⟨b164, 0, none⟩ : Addr))), (76, .slice x136.1.a x136.1.n x136.1.c), (77, .int .i64 (x136.1.n : Int)), (78, .int .i64 s152)] ⟨rfl, rfl, rfl, rfl, rfl, rfl, rfl, rfl, trivial⟩ (fun f1 => ?_)
              refine wk_then ?_
              refine wc_seq ?_
              refine wc_region ?_
              replace h := h b164 _ hc g_b164 t_b164.lt; clear hc
              obtain ⟨x167, q168, h⟩ := h
              refine wl_val (at_load Try.underlying73 rfl rfl q168) rfl ?_
              refine wl_val (at_fieldAddr Try.underlying92 rfl rfl sz3 (by decide) rfl) rfl ?_
              refine wl_val (at_load (v := .int .i64 x98.1) Try.underlying3 rfl rfl ((t_b103.cell 0).trans (by first | rfl | simp [List.getElem?_append, ints_len, bools_len]))) rfl ?_
              refine wl_val (at_move rfl) rfl ?_
              refine wl_val (at_eql rfl rfl) rfl ?_
              refine wl_val (at_loadA (cs := (c66 x160 x161 x162)) Try.underlying66 rfl (by rw [len66]; exact sz66) rfl (ldA_full t_b164)) rfl ?_
              rcases h with ⟨p169, p170, q171, h⟩ | ⟨p176, p177, p178, q179, h⟩
              · refine wl_callV (fs := []) (cs := [.pointer (some p169), .pointer (some p170)]) (pen_Encode_1.calls _ _ _ _ _ _ _ _ _ h) enter17 q171 rfl so ?_; intro x172 w173 h so
                obtain ⟨q174, h⟩ := h
                replace t_b103 := pv_bk q174 t_b103 (by simp)
                refine wl_val (at_assign rfl) rfl ?_
                refine wl_nil ?_
                refine wk_prune [(5, .pointer (some p3)), (6, .pointer (some (⟨b7, 0, none⟩ : Addr))), (10, .pointer (some (⟨b103, 0, none⟩ : Addr))), (16, .int .i64 x172), (76, .slice x136.1.a x136.1.n x136.1.c), (77, .int .i64 (x136.1.n : Int)), (78, .int .i64 s152)] ⟨rfl, rfl, rfl, rfl, rfl, rfl, rfl, trivial⟩ (fun f1 => ?_)
                refine wk_then ?_
                refine wc_seq ?_
                refine wc_region ?_
                refine wl_val (at_move rfl) rfl ?_
                refine wl_val (at_neq rfl rfl) rfl ?_
                refine wl_nil ?_
                refine wk_prune [(5, .pointer (some p3)), (6, .pointer (some (⟨b7, 0, none⟩ : Addr))), (10, .pointer (some (⟨b103, 0, none⟩ : Addr))), (16, .int .i64 x172), (76, .slice x136.1.a x136.1.n x136.1.c), (77, .int .i64 (x136.1.n : Int)), (78, .int .i64 s152), (91, .bool (x172 != 0))] ⟨rfl, rfl, rfl, rfl, rfl, rfl, rfl, rfl, trivial⟩ (fun f1 => ?_)
                refine wk_then ?_
                refine wc_cond rfl h (fun h => ?_) (fun h => ?_)
                · refine wc_seq ?_
                  refine wc_region ?_
                  refine wl_val (at_move rfl) rfl ?_
                  refine wl_st (v := .int .i64 x172) h rfl so (fun q1 q2 => ef_store (sz := sz35) rfl rfl rfl q1 q2) ?_; intro w175 h so
                  refine wl_nil ?_
                  refine wk_prune [(6, .pointer (some (⟨b7, 0, none⟩ : Addr)))] ⟨rfl, trivial⟩ (fun f1 => ?_)
                  refine wk_then ?_
                  refine wc_ret ?_
                  refine wk_blkR ?_
                  refine wk_thenR ?_
                  refine wk_thenR ?_
                  refine wk_blkR ?_
                  refine wk_blkR ?_
                  exact wk_rdR h so
                · refine wc_skip ?_
                  refine wk_blkN ?_
                  refine wk_prune [(5, .pointer (some p3)), (6, .pointer (some (⟨b7, 0, none⟩ : Addr))), (10, .pointer (some (⟨b103, 0, none⟩ : Addr))), (76, .slice x136.1.a x136.1.n x136.1.c), (77, .int .i64 (x136.1.n : Int)), (78, .int .i64 s152)] ⟨rfl, rfl, rfl, rfl, rfl, rfl, trivial⟩ (fun f1 => ?_)
                  refine wk_then ?_
                  refine wc_region ?_
                  refine wl_val (at_add rfl rfl) rfl ?_
                  refine wl_val (at_move rfl) rfl ?_
                  refine wl_nil ?_
                  exact wk_again ⟨((IntKind.wrap .i64 (s152 + 1))), _, ac_again ⟨rfl, rfl, rfl, rfl, rfl, rfl, trivial⟩, so, ⟨t_b103, trivial⟩, h⟩
              · refine wl_callV (fs := []) (cs := [.pointer (some p176), .pointer (some p177), .pointer (some p178)]) (pen_Count_1.calls _ _ _ _ _ _ _ _ _ _ h) enter22 q179 rfl so ?_; intro x180 w181 h so
                obtain ⟨q182, h⟩ := h
                replace t_b103 := pv_bk q182 t_b103 (by simp)
                refine wl_val (at_assign rfl) rfl ?_
                refine wl_nil ?_
                refine wk_prune [(5, .pointer (some p3)), (6, .pointer (some (⟨b7, 0, none⟩ : Addr))), (10, .pointer (some (⟨b103, 0, none⟩ : Addr))), (16, .int .i64 x180), (76, .slice x136.1.a x136.1.n x136.1.c), (77, .int .i64 (x136.1.n : Int)), (78, .int .i64 s152)] ⟨rfl, rfl, rfl, rfl, rfl, rfl, rfl, trivial⟩ (fun f1 => ?_)
                refine wk_then ?_
                refine wc_seq ?_
                refine wc_region ?_
                refine wl_val (at_move rfl) rfl ?_
                refine wl_val (at_neq rfl rfl) rfl ?_
                refine wl_nil ?_
                refine wk_prune [(5, .pointer (some p3)), (6, .pointer (some (⟨b7, 0, none⟩ : Addr))), (10, .pointer (some (⟨b103, 0, none⟩ : Addr))), (16, .int .i64 x180), (76, .slice x136.1.a x136.1.n x136.1.c), (77, .int .i64 (x136.1.n : Int)), (78, .int .i64 s152), (91, .bool (x180 != 0))] ⟨rfl, rfl, rfl, rfl, rfl, rfl, rfl, rfl, trivial⟩ (fun f1 => ?_)
                refine wk_then ?_
                refine wc_cond rfl h (fun h => ?_) (fun h => ?_)
                · refine wc_seq ?_
                  refine wc_region ?_
                  refine wl_val (at_move rfl) rfl ?_
                  refine wl_st (v := .int .i64 x180) h rfl so (fun q1 q2 => ef_store (sz := sz35) rfl rfl rfl q1 q2) ?_; intro w183 h so
                  refine wl_nil ?_
                  refine wk_prune [(6, .pointer (some (⟨b7, 0, none⟩ : Addr)))] ⟨rfl, trivial⟩ (fun f1 => ?_)
                  refine wk_then ?_
                  refine wc_ret ?_
                  refine wk_blkR ?_
                  refine wk_thenR ?_
                  refine wk_thenR ?_
                  refine wk_blkR ?_
                  refine wk_blkR ?_
                  exact wk_rdR h so
                · refine wc_skip ?_
                  refine wk_blkN ?_
                  refine wk_prune [(5, .pointer (some p3)), (6, .pointer (some (⟨b7, 0, none⟩ : Addr))), (10, .pointer (some (⟨b103, 0, none⟩ : Addr))), (76, .slice x136.1.a x136.1.n x136.1.c), (77, .int .i64 (x136.1.n : Int)), (78, .int .i64 s152)] ⟨rfl, rfl, rfl, rfl, rfl, rfl, trivial⟩ (fun f1 => ?_)
                  refine wk_then ?_
                  refine wc_region ?_
                  refine wl_val (at_add rfl rfl) rfl ?_
                  refine wl_val (at_move rfl) rfl ?_
                  refine wl_nil ?_
                  exact wk_again ⟨((IntKind.wrap .i64 (s152 + 1))), _, ac_again ⟨rfl, rfl, rfl, rfl, rfl, rfl, trivial⟩, so, ⟨t_b103, trivial⟩, h⟩
            · refine wc_exit ?_
              refine wk_thenE ?_
              refine wk_thenE ?_
              refine wk_blkE ?_
              refine wk_blkN ?_
              exact wk_rdN q95 h so
        · rintro _ w101 ⟨_, rfl, h, q184⟩; replace so := so.trans q184
          rcases h with h | h
          · refine rp_none q95 h so ?_; intro w185 h so
            refine wk_blkN ?_
            refine wk_prune [(6, .pointer (some (⟨b7, 0, none⟩ : Addr)))] ⟨rfl, trivial⟩ (fun f1 => ?_)
            refine wk_then ?_
            refine wc_seq ?_
            refine wc_region ?_
            refine wl_st (v := .int .i64 0) h rfl so (fun q1 q2 => ef_store (sz := sz35) rfl rfl rfl q1 q2) ?_; intro w186 h so
            refine wl_nil ?_
            refine wk_prune [(6, .pointer (some (⟨b7, 0, none⟩ : Addr)))] ⟨rfl, trivial⟩ (fun f1 => ?_)
            refine wk_then ?_
            refine wc_ret ?_
            refine wk_tk h so ?_; intro w187 h so
            obtain ⟨x189, q188, h⟩ := h
            exact wk_retR1 (x := x189) rfl ⟨by decide, _, rfl, loadVar_one Try.underlying35 rfl q188⟩ rfl so h
          · refine rp_jump h so ?_; intro w190 h so; refine wc_ret ?_
            refine wk_blkR ?_
            refine wk_thenR ?_
            refine wk_tk h so ?_; intro w191 h so
            obtain ⟨x193, q192, h⟩ := h
            exact wk_retR1 (x := x193) rfl ⟨by decide, _, rfl, loadVar_one Try.underlying35 rfl q192⟩ rfl so h
def pen_Encode.enc : ByteArray × Int → Value := fun r => .tuple #[.string r.1, .int .i64 r.2]
def pen_Encode.s (a0_0 : Int) (a0_1 : Int) (a0_2 : Int) (a0_3 : Sl) (a0_4 : Sl) (a0_5 : Ints 16) (a0_6 : Sl) (a0_7 : Ints 16) (a0_8 : Sl) (a0_9 : Ints 16) (a0_10 : Sl) (a0_11 : Ints 16) (a0_12 : Sl) (a0_13 : Ints 16) (a0_14 : Sl) (a0_15 : Ints 16) (a0_16 : Sl) (a0_17 : Ints 16) (a0_18 : Sl) (a0_19 : Ints 16) (a0_20 : Sl) (a0_21 : Int) (a0_22 : Int) (a1 : Sl) (H0 : Hp) (Q : (ByteArray × Int) → Hp → Prop) : Prop :=
  Gn [] H0 (fun (b1 : Nat) (H2 : Hp) => pen_open.s a0_0 a0_1 a0_2 a0_3 a0_4 a0_5 a0_6 a0_7 a0_8 a0_9 a0_10 a0_11 a0_12 a0_13 a0_14 a0_15 a0_16 a0_17 a0_18 a0_19 a0_20 a0_21 a0_22 true H2 (fun x3 H4 => Gn [] H4 (fun (b5 : Nat) (H7 : Hp) => if (x3.2 != 0) = true then (Q ((⟨#[]⟩ : ByteArray), x3.2) H7) else (bits_New.s H7 (fun x8 H9 => Pv [b5] H7 H9 ∧ (Gn [] H9 (fun (b11 : Nat) (H13 : Hp) => Bk H13 b5 58 [.pointer x3.1] → (Bk H13 b11 61 [.pointer x8] → (pen_desk_each.s x3.1 a1 (.func (.func 17) #[] #[.pointer (some (⟨b5, 0, none⟩ : Addr)), .pointer (some (⟨b11, 0, none⟩ : Addr))]) H13 (fun x14 H15 => if (x14 != 0) = true then (Q ((⟨#[]⟩ : ByteArray), x14) H15) else (ldP H15 (⟨b11, 0, none⟩ : Addr) (fun x16 => bits_Sink_Pad.s x16 H15 (fun _ H19 => ldP H19 (⟨b11, 0, none⟩ : Addr) (fun x20 => bits_Sink_Text.s x20 H19 (fun x22 H23 => Q (x22, 0) H23)))))))))))))))
set_option maxRecDepth 20000 in
set_option maxHeartbeats 4000000 in
theorem pen_Encode.calls (a0_0 : Int) (a0_1 : Int) (a0_2 : Int) (a0_3 : Sl) (a0_4 : Sl) (a0_5 : Ints 16) (a0_6 : Sl) (a0_7 : Ints 16) (a0_8 : Sl) (a0_9 : Ints 16) (a0_10 : Sl) (a0_11 : Ints 16) (a0_12 : Sl) (a0_13 : Ints 16) (a0_14 : Sl) (a0_15 : Ints 16) (a0_16 : Sl) (a0_17 : Ints 16) (a0_18 : Sl) (a0_19 : Ints 16) (a0_20 : Sl) (a0_21 : Int) (a0_22 : Int) (a1 : Sl) (w0 : World) (Q : (ByteArray × Int) → Hp → Prop) (h : pen_Encode.s a0_0 a0_1 a0_2 a0_3 a0_4 a0_5 a0_6 a0_7 a0_8 a0_9 a0_10 a0_11 a0_12 a0_13 a0_14 a0_15 a0_16 a0_17 a0_18 a0_19 a0_20 a0_21 a0_22 a1 w0.heap Q) :
    Ca Try.prog 6 #[.agg (c32 a0_0 a0_1 a0_2 a0_3 a0_4 a0_5 a0_6 a0_7 a0_8 a0_9 a0_10 a0_11 a0_12 a0_13 a0_14 a0_15 a0_16 a0_17 a0_18 a0_19 a0_20 a0_21 a0_22).toArray, .slice a1.a a1.n a1.c] w0 (Rt pen_Encode.enc Q w0) := by
  refine ca_start (c := _) Try.func6 rfl Try.ntmps6 rfl ?_
  have so : Sm w0 w0 := Sm.refl w0
  unfold pen_Encode.s at h
  refine wc_prune [(0, .agg (c32 a0_0 a0_1 a0_2 a0_3 a0_4 a0_5 a0_6 a0_7 a0_8 a0_9 a0_10 a0_11 a0_12 a0_13 a0_14 a0_15 a0_16 a0_17 a0_18 a0_19 a0_20 a0_21 a0_22).toArray), (1, .slice a1.a a1.n a1.c)] ⟨rfl, rfl, trivial⟩ (fun f1 => ?_)
  refine wc_seq ?_
  refine wc_region ?_
  refine wl_newT (T := 32) (cs := (c32 a0_0 a0_1 a0_2 a0_3 a0_4 a0_5 a0_6 a0_7 a0_8 a0_9 a0_10 a0_11 a0_12 a0_13 a0_14 a0_15 a0_16 a0_17 a0_18 a0_19 a0_20 a0_21 a0_22)) (ef_box rfl rfl) rfl so ?_; intro b1 w2 hb_b1 t_b1 k_b1 so
  have g_b1 := Nat.le_of_eq hb_b1.symm
  have hc := k_b1.ch (F := [])
  refine wl_val (at_assign rfl) rfl ?_
  refine wl_val (at_assign rfl) rfl ?_
  refine wl_nil ?_
  refine wk_prune [(1, .slice a1.a a1.n a1.c), (2, .pointer (some (⟨b1, 0, none⟩ : Addr)))] ⟨rfl, rfl, trivial⟩ (fun f1 => ?_)
  refine wk_then ?_
  refine wc_seq ?_
  refine wc_region ?_
  refine wl_val (at_loadA (cs := (c32 a0_0 a0_1 a0_2 a0_3 a0_4 a0_5 a0_6 a0_7 a0_8 a0_9 a0_10 a0_11 a0_12 a0_13 a0_14 a0_15 a0_16 a0_17 a0_18 a0_19 a0_20 a0_21 a0_22)) Try.underlying32 rfl (by rw [len32]; exact sz32) rfl (ldA_full t_b1)) rfl ?_
  replace h := h b1 _ hc g_b1 t_b1.lt; clear hc
  refine wl_callF (pen_open.calls _ _ _ _ _ _ _ _ _ _ _ _ _ _ _ _ _ _ _ _ _ _ _ _ _ _ h) enter14 rfl trivial so ?_; intro x3 w4 h so
  refine wl_val (at_move rfl) rfl ?_
  refine wl_val (at_extract rfl rfl) rfl ?_
  refine wl_val (at_extract rfl rfl) rfl ?_
  refine wl_newT (T := 58) (cs := [.pointer none]) (ef_alloc zero58 rfl) rfl so ?_; intro b5 w6 hb_b5 t_b5 k_b5 so
  have g_b5 := Nat.le_of_eq hb_b5.symm
  have hc := k_b5.ch (F := [])
  refine wl_stT (v := .pointer x3.1) (cs' := [.pointer x3.1]) t_b5 (by first | decide | (rw [len58]; decide) | (rw [len58]; show 0 < _; decide) | simp [ints_len, bools_len]) (by first | rfl | simp [List.set_append, ints_len, bools_len]) rfl so (fun q1 q2 => ef_store (sz := sz58) rfl rfl rfl q1 q2) ?_; intro w7 t_b5 s_w7 so
  replace hc := ch_same hc s_w7 (.inr g_b5)
  refine wl_val (at_assign rfl) rfl ?_
  refine wl_nil ?_
  refine wk_prune [(1, .slice a1.a a1.n a1.c), (6, .pointer (some (⟨b5, 0, none⟩ : Addr))), (7, .int .i64 x3.2)] ⟨rfl, rfl, rfl, trivial⟩ (fun f1 => ?_)
  refine wk_then ?_
  refine wc_seq ?_
  refine wc_seq ?_
  refine wc_region ?_
  refine wl_val (at_move rfl) rfl ?_
  refine wl_val (at_neq rfl rfl) rfl ?_
  refine wl_nil ?_
  refine wk_prune [(1, .slice a1.a a1.n a1.c), (6, .pointer (some (⟨b5, 0, none⟩ : Addr))), (7, .int .i64 x3.2), (15, .bool (x3.2 != 0))] ⟨rfl, rfl, rfl, rfl, trivial⟩ (fun f1 => ?_)
  refine wk_then ?_
  replace h := h b5 _ hc g_b5 t_b5.lt; clear hc
  refine wc_cond rfl h (fun h => ?_) (fun h => ?_)
  · refine wc_seq ?_
    refine wc_region ?_
    refine wl_val (at_move rfl) rfl ?_
    refine wl_val (at_assign rfl) rfl ?_
    refine wl_val (at_assign rfl) rfl ?_
    refine wl_nil ?_
    refine wk_prune [(4, .string (⟨#[]⟩ : ByteArray)), (5, .int .i64 x3.2)] ⟨rfl, rfl, trivial⟩ (fun f1 => ?_)
    refine wk_then ?_
    refine wc_ret ?_
    refine wk_thenR ?_
    exact wk_ret2 (x := ((⟨#[]⟩ : ByteArray), x3.2)) rfl (by decide) (by decide) rfl so h
  · refine wc_skip ?_
    refine wk_prune [(1, .slice a1.a a1.n a1.c), (6, .pointer (some (⟨b5, 0, none⟩ : Addr)))] ⟨rfl, rfl, trivial⟩ (fun f1 => ?_)
    refine wk_then ?_
    refine wc_seq ?_
    refine wc_region ?_
    refine wl_callF (bits_New.calls _ _ h) enter15 rfl trivial so ?_; intro x8 w9 h so
    obtain ⟨q10, h⟩ := h
    replace t_b5 := pv_bk q10 t_b5 (by simp)
    refine wl_newT (T := 61) (cs := [.pointer none]) (ef_alloc zero61 rfl) rfl so ?_; intro b11 w12 hb_b11 t_b11 k_b11 so
    have g_b11 := Nat.le_of_eq hb_b11.symm
    have hc := k_b11.ch (F := [])
    have n_b5_b11 : b5 ≠ b11 := fun e => by have := t_b5.lt; omega
    replace t_b5 := t_b5.keep k_b11
    refine wl_stT (v := .pointer x8) (cs' := [.pointer x8]) t_b11 (by first | decide | (rw [len61]; decide) | (rw [len61]; show 0 < _; decide) | simp [ints_len, bools_len]) (by first | rfl | simp [List.set_append, ints_len, bools_len]) rfl so (fun q1 q2 => ef_store (sz := sz61) rfl rfl rfl q1 q2) ?_; intro w13 t_b11 s_w13 so
    replace t_b5 := t_b5.same s_w13 (n_b5_b11)
    replace hc := ch_same hc s_w13 (.inr g_b11)
    refine wl_nil ?_
    refine wk_prune [(1, .slice a1.a a1.n a1.c), (6, .pointer (some (⟨b5, 0, none⟩ : Addr))), (8, .pointer (some (⟨b11, 0, none⟩ : Addr)))] ⟨rfl, rfl, rfl, trivial⟩ (fun f1 => ?_)
    refine wk_then ?_
    refine wc_seq ?_
    refine wc_region ?_
    refine wl_val (at_load (v := .pointer x3.1) Try.underlying58 rfl rfl ((t_b5.cell 0).trans (by first | rfl | simp [List.getElem?_append, ints_len, bools_len]))) rfl ?_
    refine wl_val (at_move rfl) rfl ?_
    replace h := h b11 _ hc g_b11 t_b11.lt; clear hc
    replace h := h t_b5
    replace h := h t_b11
    refine wl_val (at_makeFunc (v1 := []) (v2 := [.pointer (some (⟨b5, 0, none⟩ : Addr)), .pointer (some (⟨b11, 0, none⟩ : Addr))]) rfl rfl) rfl ?_
    refine wl_callF (pen_desk_each.calls _ _ _ _ _ h) enter16 rfl trivial so ?_; intro x14 w15 h so
    refine wl_val (at_assign rfl) rfl ?_
    refine wl_nil ?_
    refine wk_prune [(7, .int .i64 x14), (8, .pointer (some (⟨b11, 0, none⟩ : Addr)))] ⟨rfl, rfl, trivial⟩ (fun f1 => ?_)
    refine wk_then ?_
    refine wc_seq ?_
    refine wc_seq ?_
    refine wc_region ?_
    refine wl_val (at_move rfl) rfl ?_
    refine wl_val (at_neq rfl rfl) rfl ?_
    refine wl_nil ?_
    refine wk_prune [(7, .int .i64 x14), (8, .pointer (some (⟨b11, 0, none⟩ : Addr))), (23, .bool (x14 != 0))] ⟨rfl, rfl, rfl, trivial⟩ (fun f1 => ?_)
    refine wk_then ?_
    refine wc_cond rfl h (fun h => ?_) (fun h => ?_)
    · refine wc_seq ?_
      refine wc_region ?_
      refine wl_val (at_move rfl) rfl ?_
      refine wl_val (at_assign rfl) rfl ?_
      refine wl_val (at_assign rfl) rfl ?_
      refine wl_nil ?_
      refine wk_prune [(4, .string (⟨#[]⟩ : ByteArray)), (5, .int .i64 x14)] ⟨rfl, rfl, trivial⟩ (fun f1 => ?_)
      refine wk_then ?_
      refine wc_ret ?_
      refine wk_thenR ?_
      exact wk_ret2 (x := ((⟨#[]⟩ : ByteArray), x14)) rfl (by decide) (by decide) rfl so h
    · refine wc_skip ?_
      refine wk_prune [(8, .pointer (some (⟨b11, 0, none⟩ : Addr)))] ⟨rfl, trivial⟩ (fun f1 => ?_)
      refine wk_then ?_
      refine wc_seq ?_
      refine wc_region ?_
      obtain ⟨x16, q17, h⟩ := h
      refine wl_val (at_load Try.underlying61 rfl rfl q17) rfl ?_
      refine wl_callF (bits_Sink_Pad.calls _ _ _ h) enter20 rfl trivial so ?_; intro x18 w19 h so
      refine wl_nil ?_
      refine wk_prune [(8, .pointer (some (⟨b11, 0, none⟩ : Addr)))] ⟨rfl, trivial⟩ (fun f1 => ?_)
      refine wk_then ?_
      refine wc_seq ?_
      refine wc_region ?_
      obtain ⟨x20, q21, h⟩ := h
      refine wl_val (at_load Try.underlying61 rfl rfl q21) rfl ?_
      refine wl_callF (bits_Sink_Text.calls _ _ _ h) enter21 rfl trivial so ?_; intro x22 w23 h so
      refine wl_val (at_assign rfl) rfl ?_
      refine wl_val (at_assign rfl) rfl ?_
      refine wl_nil ?_
      refine wk_prune [(4, .string x22), (5, .int .i64 0)] ⟨rfl, rfl, trivial⟩ (fun f1 => ?_)
      refine wk_then ?_
      refine wc_ret ?_
      exact wk_ret2 (x := (x22, 0)) rfl (by decide) (by decide) rfl so h
def pen_Count.enc : (Ints 256) × (Ints 256) × (Ints 256) × (Ints 256) × (Ints 256) × (Ints 256) × (Ints 256) × (Ints 256) × Int → Value := fun r => .tuple #[.agg (c40 r.1 r.2.1 r.2.2.1 r.2.2.2.1).toArray, .agg (c40 r.2.2.2.2.1 r.2.2.2.2.2.1 r.2.2.2.2.2.2.1 r.2.2.2.2.2.2.2.1).toArray, .int .i64 r.2.2.2.2.2.2.2.2]
def pen_Count.s (a0_0 : Int) (a0_1 : Int) (a0_2 : Int) (a0_3 : Sl) (a0_4 : Sl) (a0_5 : Ints 16) (a0_6 : Sl) (a0_7 : Ints 16) (a0_8 : Sl) (a0_9 : Ints 16) (a0_10 : Sl) (a0_11 : Ints 16) (a0_12 : Sl) (a0_13 : Ints 16) (a0_14 : Sl) (a0_15 : Ints 16) (a0_16 : Sl) (a0_17 : Ints 16) (a0_18 : Sl) (a0_19 : Ints 16) (a0_20 : Sl) (a0_21 : Int) (a0_22 : Int) (a1 : Sl) (H0 : Hp) (Q : ((Ints 256) × (Ints 256) × (Ints 256) × (Ints 256) × (Ints 256) × (Ints 256) × (Ints 256) × (Ints 256) × Int) → Hp → Prop) : Prop :=
  Gn [] H0 (fun (b1 : Nat) (H2 : Hp) => Gn [] H2 (fun (b3 : Nat) (H4 : Hp) => Gn [] H4 (fun (b5 : Nat) (H6 : Hp) => pen_open.s a0_0 a0_1 a0_2 a0_3 a0_4 a0_5 a0_6 a0_7 a0_8 a0_9 a0_10 a0_11 a0_12 a0_13 a0_14 a0_15 a0_16 a0_17 a0_18 a0_19 a0_20 a0_21 a0_22 false H6 (fun x7 H8 => Pv [b1, b3, b5] H6 H8 ∧ (Bk H8 b1 32 (c32 a0_0 a0_1 a0_2 a0_3 a0_4 a0_5 a0_6 a0_7 a0_8 a0_9 a0_10 a0_11 a0_12 a0_13 a0_14 a0_15 a0_16 a0_17 a0_18 a0_19 a0_20 a0_21 a0_22) → (Bk H8 b3 40 (c40 (zInts 256) (zInts 256) (zInts 256) (zInts 256)) → (Bk H8 b5 40 (c40 (zInts 256) (zInts 256) (zInts 256) (zInts 256)) → (Join (fun (s11 : Int) (H12 : Hp) => if (s11 != 0) = true then (stA H12 (⟨b3, 0, none⟩ : Addr) (c40 (zInts 256) (zInts 256) (zInts 256) (zInts 256)) (fun H13 => stA H13 (⟨b5, 0, none⟩ : Addr) (c40 (zInts 256) (zInts 256) (zInts 256) (zInts 256)) (fun H14 => ∃ x16 : Ints 256, ∃ x17 : Ints 256, ∃ x18 : Ints 256, ∃ x19 : Ints 256, ldA H14 (⟨b3, 0, none⟩ : Addr) (c40 x16 x17 x18 x19) ∧ (∃ x21 : Ints 256, ∃ x22 : Ints 256, ∃ x23 : Ints 256, ∃ x24 : Ints 256, ldA H14 (⟨b5, 0, none⟩ : Addr) (c40 x21 x22 x23 x24) ∧ (Q (x16, x17, x18, x19, x21, x22, x23, x24, s11) H14))))) else (∃ x26 : Ints 256, ∃ x27 : Ints 256, ∃ x28 : Ints 256, ∃ x29 : Ints 256, ldA H12 (⟨b3, 0, none⟩ : Addr) (c40 x26 x27 x28 x29) ∧ (∃ x31 : Ints 256, ∃ x32 : Ints 256, ∃ x33 : Ints 256, ∃ x34 : Ints 256, ldA H12 (⟨b5, 0, none⟩ : Addr) (c40 x31 x32 x33 x34) ∧ (stA H12 (⟨b3, 0, none⟩ : Addr) (c40 x26 x27 x28 x29) (fun H36 => ldA H36 (⟨b5, 0, none⟩ : Addr) (c40 x31 x32 x33 x34) ∧ (stA H36 (⟨b5, 0, none⟩ : Addr) (c40 x31 x32 x33 x34) (fun H38 => ∃ x40 : Ints 256, ∃ x41 : Ints 256, ∃ x42 : Ints 256, ∃ x43 : Ints 256, ldA H38 (⟨b3, 0, none⟩ : Addr) (c40 x40 x41 x42 x43) ∧ (∃ x45 : Ints 256, ∃ x46 : Ints 256, ∃ x47 : Ints 256, ∃ x48 : Ints 256, ldA H38 (⟨b5, 0, none⟩ : Addr) (c40 x45 x46 x47 x48) ∧ (Q (x40, x41, x42, x43, x45, x46, x47, x48, 0) H38))))))))) (fun (J10 : Int → Hp → Prop) => if (x7.2 == 0) = true then (pen_desk_each.s x7.1 a1 (.func (.func 22) #[] #[.pointer (some (⟨b1, 0, none⟩ : Addr)), .pointer (some (⟨b3, 0, none⟩ : Addr)), .pointer (some (⟨b5, 0, none⟩ : Addr))]) H8 (fun x49 H50 => J10 (x49) H50)) else (J10 (x7.2) H8))))))))))
set_option maxRecDepth 20000 in
set_option maxHeartbeats 4000000 in
theorem pen_Count.calls (a0_0 : Int) (a0_1 : Int) (a0_2 : Int) (a0_3 : Sl) (a0_4 : Sl) (a0_5 : Ints 16) (a0_6 : Sl) (a0_7 : Ints 16) (a0_8 : Sl) (a0_9 : Ints 16) (a0_10 : Sl) (a0_11 : Ints 16) (a0_12 : Sl) (a0_13 : Ints 16) (a0_14 : Sl) (a0_15 : Ints 16) (a0_16 : Sl) (a0_17 : Ints 16) (a0_18 : Sl) (a0_19 : Ints 16) (a0_20 : Sl) (a0_21 : Int) (a0_22 : Int) (a1 : Sl) (w0 : World) (Q : ((Ints 256) × (Ints 256) × (Ints 256) × (Ints 256) × (Ints 256) × (Ints 256) × (Ints 256) × (Ints 256) × Int) → Hp → Prop) (h : pen_Count.s a0_0 a0_1 a0_2 a0_3 a0_4 a0_5 a0_6 a0_7 a0_8 a0_9 a0_10 a0_11 a0_12 a0_13 a0_14 a0_15 a0_16 a0_17 a0_18 a0_19 a0_20 a0_21 a0_22 a1 w0.heap Q) :
    Ca Try.prog 8 #[.agg (c32 a0_0 a0_1 a0_2 a0_3 a0_4 a0_5 a0_6 a0_7 a0_8 a0_9 a0_10 a0_11 a0_12 a0_13 a0_14 a0_15 a0_16 a0_17 a0_18 a0_19 a0_20 a0_21 a0_22).toArray, .slice a1.a a1.n a1.c] w0 (Rt pen_Count.enc Q w0) := by
  refine ca_start (c := _) Try.func8 rfl Try.ntmps8 rfl ?_
  have so : Sm w0 w0 := Sm.refl w0
  unfold pen_Count.s at h
  refine wc_prune [(0, .agg (c32 a0_0 a0_1 a0_2 a0_3 a0_4 a0_5 a0_6 a0_7 a0_8 a0_9 a0_10 a0_11 a0_12 a0_13 a0_14 a0_15 a0_16 a0_17 a0_18 a0_19 a0_20 a0_21 a0_22).toArray), (1, .slice a1.a a1.n a1.c)] ⟨rfl, rfl, trivial⟩ (fun f1 => ?_)
  refine wc_seq ?_
  refine wc_region ?_
  refine wl_newT (T := 32) (cs := (c32 a0_0 a0_1 a0_2 a0_3 a0_4 a0_5 a0_6 a0_7 a0_8 a0_9 a0_10 a0_11 a0_12 a0_13 a0_14 a0_15 a0_16 a0_17 a0_18 a0_19 a0_20 a0_21 a0_22)) (ef_box rfl rfl) rfl so ?_; intro b1 w2 hb_b1 t_b1 k_b1 so
  have g_b1 := Nat.le_of_eq hb_b1.symm
  have hc := k_b1.ch (F := [])
  replace h := h b1 _ hc g_b1 t_b1.lt; clear hc
  refine wl_newT (T := 40) (cs := (c40 (zInts 256) (zInts 256) (zInts 256) (zInts 256))) (ef_alloc zero40 rfl) rfl so ?_; intro b3 w4 hb_b3 t_b3 k_b3 so
  have g_b3 := Nat.le_of_eq hb_b3.symm
  have hc := k_b3.ch (F := [])
  have n_b1_b3 : b1 ≠ b3 := fun e => by have := t_b1.lt; omega
  replace t_b1 := t_b1.keep k_b3
  replace h := h b3 _ hc g_b3 t_b3.lt; clear hc
  refine wl_newT (T := 40) (cs := (c40 (zInts 256) (zInts 256) (zInts 256) (zInts 256))) (ef_alloc zero40 rfl) rfl so ?_; intro b5 w6 hb_b5 t_b5 k_b5 so
  have g_b5 := Nat.le_of_eq hb_b5.symm
  have hc := k_b5.ch (F := [])
  have n_b1_b5 : b1 ≠ b5 := fun e => by have := t_b1.lt; omega
  replace t_b1 := t_b1.keep k_b5
  have n_b3_b5 : b3 ≠ b5 := fun e => by have := t_b3.lt; omega
  replace t_b3 := t_b3.keep k_b5
  refine wl_val (at_assign rfl) rfl ?_
  refine wl_nil ?_
  refine wk_prune [(1, .slice a1.a a1.n a1.c), (2, .pointer (some (⟨b1, 0, none⟩ : Addr))), (4, .pointer (some (⟨b3, 0, none⟩ : Addr))), (5, .pointer (some (⟨b5, 0, none⟩ : Addr)))] ⟨rfl, rfl, rfl, rfl, trivial⟩ (fun f1 => ?_)
  refine wk_then ?_
  refine wc_seq ?_
  refine wc_region ?_
  refine wl_val (at_loadA (cs := (c32 a0_0 a0_1 a0_2 a0_3 a0_4 a0_5 a0_6 a0_7 a0_8 a0_9 a0_10 a0_11 a0_12 a0_13 a0_14 a0_15 a0_16 a0_17 a0_18 a0_19 a0_20 a0_21 a0_22)) Try.underlying32 rfl (by rw [len32]; exact sz32) rfl (ldA_full t_b1)) rfl ?_
  replace h := h b5 _ hc g_b5 t_b5.lt; clear hc
  refine wl_callF (pen_open.calls _ _ _ _ _ _ _ _ _ _ _ _ _ _ _ _ _ _ _ _ _ _ _ _ _ _ h) enter14 rfl trivial so ?_; intro x7 w8 h so
  obtain ⟨q9, h⟩ := h
  replace t_b1 := pv_bk q9 t_b1 (by simp)
  replace t_b3 := pv_bk q9 t_b3 (by simp)
  replace t_b5 := pv_bk q9 t_b5 (by simp)
  refine wl_val (at_move rfl) rfl ?_
  refine wl_val (at_extract rfl rfl) rfl ?_
  refine wl_val (at_extract rfl rfl) rfl ?_
  refine wl_val (at_assign rfl) rfl ?_
  refine wl_val (at_assign rfl) rfl ?_
  refine wl_nil ?_
  refine wk_prune [(1, .slice a1.a a1.n a1.c), (2, .pointer (some (⟨b1, 0, none⟩ : Addr))), (4, .pointer (some (⟨b3, 0, none⟩ : Addr))), (5, .pointer (some (⟨b5, 0, none⟩ : Addr))), (6, .int .i64 x7.2), (7, .pointer x7.1)] ⟨rfl, rfl, rfl, rfl, rfl, rfl, trivial⟩ (fun f1 => ?_)
  refine wk_then ?_
  replace h := h t_b1
  replace h := h t_b3
  replace h := h t_b5
  refine wc_seq ?_
  refine wc_join (w0 := w0) (fun (s11 : Int) => [(4, .pointer (some (⟨b3, 0, none⟩ : Addr))), (5, .pointer (some (⟨b5, 0, none⟩ : Addr))), (6, .int .i64 s11)]) h ?_ ?_
  · rintro s11 w12 f1 h so; refine wk_then ?_
    refine wc_seq ?_
    refine wc_seq ?_
    refine wc_region ?_
    refine wl_val (at_move rfl) rfl ?_
    refine wl_val (at_neq rfl rfl) rfl ?_
    refine wl_nil ?_
    refine wk_prune [(4, .pointer (some (⟨b3, 0, none⟩ : Addr))), (5, .pointer (some (⟨b5, 0, none⟩ : Addr))), (6, .int .i64 s11), (20, .bool (s11 != 0))] ⟨rfl, rfl, rfl, rfl, trivial⟩ (fun f1 => ?_)
    refine wk_then ?_
    refine wc_cond rfl h (fun h => ?_) (fun h => ?_)
    · refine wc_seq ?_
      refine wc_region ?_
      refine wl_val (at_build (cs := (c40 (zInts 256) (zInts 256) (zInts 256) (zInts 256))) (ps := []) rfl (build_array (vs := [.agg (c39 (zInts 256)).toArray, .agg (c39 (zInts 256)).toArray, .agg (c39 (zInts 256)).toArray, .agg (c39 (zInts 256)).toArray]) (cs := (c40 (zInts 256) (zInts 256) (zInts 256) (zInts 256))) zero40 (by first | rfl | simp [z40, c40, c39, len39, Value.cells, ints_len, bools_len, List.flatMap]) Try.underlying40 sz39 (by first | rfl | simp [z40, c40, c39, len39, Value.cells, ints_len, bools_len]) (by simp [z40, c40, c39, len39, Value.cells, ints_len, bools_len]) (by first | rfl | simp [z40, c40, c39, len39, Value.cells, ints_len, bools_len, List.set, List.flatMap, mkI, mkB, ints, bools]))) rfl ?_
      refine wl_val (at_build (cs := (c40 (zInts 256) (zInts 256) (zInts 256) (zInts 256))) (ps := []) rfl (build_array (vs := [.agg (c39 (zInts 256)).toArray, .agg (c39 (zInts 256)).toArray, .agg (c39 (zInts 256)).toArray, .agg (c39 (zInts 256)).toArray]) (cs := (c40 (zInts 256) (zInts 256) (zInts 256) (zInts 256))) zero40 (by first | rfl | simp [z40, c40, c39, len39, Value.cells, ints_len, bools_len, List.flatMap]) Try.underlying40 sz39 (by first | rfl | simp [z40, c40, c39, len39, Value.cells, ints_len, bools_len]) (by simp [z40, c40, c39, len39, Value.cells, ints_len, bools_len]) (by first | rfl | simp [z40, c40, c39, len39, Value.cells, ints_len, bools_len, List.set, List.flatMap, mkI, mkB, ints, bools]))) rfl ?_
      refine wl_val (at_move rfl) rfl ?_
      refine wl_stA h rfl so (fun q => ef_storeA (by rw [len40]; exact sz40) rfl rfl (one40 _ _ _ _) q) ?_; intro w13 h so
      refine wl_stA h rfl so (fun q => ef_storeA (by rw [len40]; exact sz40) rfl rfl (one40 _ _ _ _) q) ?_; intro w14 h so
      refine wl_val (at_assign rfl) rfl ?_
      refine wl_nil ?_
      refine wk_prune [(4, .pointer (some (⟨b3, 0, none⟩ : Addr))), (5, .pointer (some (⟨b5, 0, none⟩ : Addr))), (6, .int .i64 s11)] ⟨rfl, rfl, rfl, trivial⟩ (fun f1 => ?_)
      refine wk_then ?_
      refine wc_ret ?_
      refine wk_thenR ?_
      obtain ⟨x16, x17, x18, x19, q15, h⟩ := h
      obtain ⟨x21, x22, x23, x24, q20, h⟩ := h
      exact wk_retR3 (x := (x16, x17, x18, x19, x21, x22, x23, x24, s11)) rfl ⟨by decide, _, rfl, loadVar_agg (cs := (c40 x16 x17 x18 x19)) Try.underlying40 rfl (by rw [len40]; exact sz40) q15⟩ ⟨by decide, _, rfl, loadVar_agg (cs := (c40 x21 x22 x23 x24)) Try.underlying40 rfl (by rw [len40]; exact sz40) q20⟩ ⟨by decide, rfl⟩ rfl so h
    · refine wc_skip ?_
      refine wk_prune [(4, .pointer (some (⟨b3, 0, none⟩ : Addr))), (5, .pointer (some (⟨b5, 0, none⟩ : Addr)))] ⟨rfl, rfl, trivial⟩ (fun f1 => ?_)
      refine wk_then ?_
      refine wc_seq ?_
      refine wc_wo [0, 0, 1, 7, 15] mixed (by kernel_rfl) so ?_; intro w25 hw so; rw [← hw] at h; clear hw
      obtain ⟨x26, x27, x28, x29, q30, h⟩ := h
      refine wo_load (m' := 1) 0 (fun H => ldA H (⟨b3, 0, none⟩ : Addr) (c40 x26 x27 x28 x29)) rfl (by kernel_rfl) rfl rfl (fun H q30 => at_loadA (cs := (c40 x26 x27 x28 x29)) Try.underlying40 rfl (by rw [len40]; exact sz40) rfl q30) q30 ?_
      obtain ⟨x31, x32, x33, x34, q35, h⟩ := h
      refine wo_load (m' := 3) 1 (fun H => ldA H (⟨b5, 0, none⟩ : Addr) (c40 x31 x32 x33 x34)) rfl (by kernel_rfl) rfl rfl (fun H q35 => at_loadA (cs := (c40 x31 x32 x33 x34)) Try.underlying40 rfl (by rw [len40]; exact sz40) rfl q35) q35 ?_
      refine wo_take (m' := 7) 2 [false, true] rfl (by kernel_rfl) rfl (by kernel_rfl) ?_
      refine wl_stA h rfl so (fun q => ef_storeA (by rw [len40]; exact sz40) rfl rfl (one40 _ _ _ _) q) ?_; intro w36 h so
      refine wl_nil ?_
      obtain ⟨q37, h⟩ := h
      refine wk_tq ⟨q37, trivial⟩ ?_
      refine wo_take (m' := 15) 3 [true] rfl (by kernel_rfl) rfl (by kernel_rfl) ?_
      refine wl_stA h rfl so (fun q => ef_storeA (by rw [len40]; exact sz40) rfl rfl (one40 _ _ _ _) q) ?_; intro w38 h so
      refine wl_nil ?_
      refine wk_tq trivial ?_
      refine wo_pure (m' := 31) 4 rfl (by kernel_rfl) rfl rfl (fun H => at_assign rfl) ?_
      refine wo_done (by kernel_rfl) ?_
      refine wk_prune [(4, .pointer (some (⟨b3, 0, none⟩ : Addr))), (5, .pointer (some (⟨b5, 0, none⟩ : Addr))), (6, .int .i64 0)] ⟨rfl, rfl, rfl, trivial⟩ (fun f1 => ?_)
      refine wk_then ?_
      refine wc_ret ?_
      obtain ⟨x40, x41, x42, x43, q39, h⟩ := h
      obtain ⟨x45, x46, x47, x48, q44, h⟩ := h
      exact wk_retR3 (x := (x40, x41, x42, x43, x45, x46, x47, x48, 0)) rfl ⟨by decide, _, rfl, loadVar_agg (cs := (c40 x40 x41 x42 x43)) Try.underlying40 rfl (by rw [len40]; exact sz40) q39⟩ ⟨by decide, _, rfl, loadVar_agg (cs := (c40 x45 x46 x47 x48)) Try.underlying40 rfl (by rw [len40]; exact sz40) q44⟩ ⟨by decide, rfl⟩ rfl so h
  · intro J10 h hJ10
    refine wc_seq ?_
    refine wc_region ?_
    refine wl_val (at_move rfl) rfl ?_
    refine wl_val (at_eql rfl rfl) rfl ?_
    refine wl_nil ?_
    refine wk_prune [(1, .slice a1.a a1.n a1.c), (2, .pointer (some (⟨b1, 0, none⟩ : Addr))), (4, .pointer (some (⟨b3, 0, none⟩ : Addr))), (5, .pointer (some (⟨b5, 0, none⟩ : Addr))), (6, .int .i64 x7.2), (7, .pointer x7.1), (14, .bool (x7.2 == 0))] ⟨rfl, rfl, rfl, rfl, rfl, rfl, rfl, trivial⟩ (fun f1 => ?_)
    refine wk_then ?_
    refine wc_cond rfl h (fun h => ?_) (fun h => ?_)
    · refine wc_region ?_
      refine wl_val (at_move rfl) rfl ?_
      refine wl_val (at_move rfl) rfl ?_
      refine wl_val (at_makeFunc (v1 := []) (v2 := [.pointer (some (⟨b1, 0, none⟩ : Addr)), .pointer (some (⟨b3, 0, none⟩ : Addr)), .pointer (some (⟨b5, 0, none⟩ : Addr))]) rfl rfl) rfl ?_
      refine wl_callF (pen_desk_each.calls _ _ _ _ _ h) enter16 rfl trivial so ?_; intro x49 w50 h so
      refine wl_val (at_assign rfl) rfl ?_
      refine wl_nil ?_
      exact wk_prune [(4, .pointer (some (⟨b3, 0, none⟩ : Addr))), (5, .pointer (some (⟨b5, 0, none⟩ : Addr))), (6, .int .i64 x49)] ⟨rfl, rfl, rfl, trivial⟩ (fun f1 => hJ10 (x49) _ f1 h so)
    · refine wc_skip ?_
      exact wk_prune [(4, .pointer (some (⟨b3, 0, none⟩ : Addr))), (5, .pointer (some (⟨b5, 0, none⟩ : Addr))), (6, .int .i64 x7.2)] ⟨rfl, rfl, rfl, trivial⟩ (fun f1 => hJ10 (x7.2) _ f1 h so)
end Go.Proofs.Ytmnoecpnoofdjaa.G
