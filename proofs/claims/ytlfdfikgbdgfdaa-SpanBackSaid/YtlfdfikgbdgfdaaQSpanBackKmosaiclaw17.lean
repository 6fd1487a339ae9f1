/- Of this text what the row needs. -/
import Derived.Test.YtlfdfikgbdgfdaaQSpanBackGF
import Derived.Test.YtlfdfikgbdgfdaaQSpanBackKbits
import Derived.Test.YtlfdfikgbdgfdaaQSpanBackKgeom
import Derived.Test.YtlfdfikgbdgfdaaQSpanBackKhuff
import Derived.Test.YtlfdfikgbdgfdaaQSpanBackKruns
import Derived.Test.YtlfdfikgbdgfdaaQSpanBackKspan
namespace Go.Proofs.Ytlfdfikgbdgfdaa.G
open Go.RowKit
set_option linter.unusedVariables false
set_option linter.unusedSimpArgs false
def mosaiclaw17_example.enc : Int × Int × Int × Sl × Sl × (Ints 16) × Sl × (Ints 16) × Sl × (Ints 16) × Sl × (Ints 16) × Sl × (Ints 16) × Sl × (Ints 16) × Sl × (Ints 16) × Sl × (Ints 16) × Sl × Int × Int → Value := fun r => .agg (c32 r.1 r.2.1 r.2.2.1 r.2.2.2.1 r.2.2.2.2.1 r.2.2.2.2.2.1 r.2.2.2.2.2.2.1 r.2.2.2.2.2.2.2.1 r.2.2.2.2.2.2.2.2.1 r.2.2.2.2.2.2.2.2.2.1 r.2.2.2.2.2.2.2.2.2.2.1 r.2.2.2.2.2.2.2.2.2.2.2.1 r.2.2.2.2.2.2.2.2.2.2.2.2.1 r.2.2.2.2.2.2.2.2.2.2.2.2.2.1 r.2.2.2.2.2.2.2.2.2.2.2.2.2.2.1 r.2.2.2.2.2.2.2.2.2.2.2.2.2.2.2.1 r.2.2.2.2.2.2.2.2.2.2.2.2.2.2.2.2.1 r.2.2.2.2.2.2.2.2.2.2.2.2.2.2.2.2.2.1 r.2.2.2.2.2.2.2.2.2.2.2.2.2.2.2.2.2.2.1 r.2.2.2.2.2.2.2.2.2.2.2.2.2.2.2.2.2.2.2.1 r.2.2.2.2.2.2.2.2.2.2.2.2.2.2.2.2.2.2.2.2.1 r.2.2.2.2.2.2.2.2.2.2.2.2.2.2.2.2.2.2.2.2.2.1 r.2.2.2.2.2.2.2.2.2.2.2.2.2.2.2.2.2.2.2.2.2.2).toArray
def mosaiclaw17_example.s (H0 : Hp) (Q : (Int × Int × Int × Sl × Sl × (Ints 16) × Sl × (Ints 16) × Sl × (Ints 16) × Sl × (Ints 16) × Sl × (Ints 16) × Sl × (Ints 16) × Sl × (Ints 16) × Sl × (Ints 16) × Sl × Int × Int) → Hp → Prop) : Prop :=
  Gn [] H0 (fun (b1 : Nat) (H2 : Hp) => nw H2 98 (c98 1 1 1 0) (fun p3 H4 => Pv [b1] H2 H4 ∧ (nw H4 67 (c67 0 0 0) (fun p8 H9 => Pv [b1] H4 H9 ∧ (Gn [] H9 (fun (b13 : Nat) (H15 : Hp) => Bk H15 b13 32 (c32 0 8 8 ⟨(some p3), 1, 1⟩ ⟨(some p8), 1, 1⟩ (zInts 16) ⟨none, 0, 0⟩ (zInts 16) ⟨none, 0, 0⟩ (zInts 16) ⟨none, 0, 0⟩ (zInts 16) ⟨none, 0, 0⟩ (zInts 16) ⟨none, 0, 0⟩ (zInts 16) ⟨none, 0, 0⟩ (zInts 16) ⟨none, 0, 0⟩ (zInts 16) ⟨none, 0, 0⟩ 0 1) → (st H15 (⟨b13, 5, none⟩ : Addr) (.int .u8 1) (fun H16 => Pv [b1] H15 H16 ∧ (st H16 (⟨b13, 6, none⟩ : Addr) (.int .u8 1) (fun H18 => Pv [b1] H16 H18 ∧ (nw H18 5 [.int .u8 0, .int .u8 3] (fun p20 H21 => Pv [b1] H18 H21 ∧ (st H21 (⟨b13, 21, none⟩ : Addr) (.slice (some p20) 2 2) (fun H25 => Pv [b1] H21 H25 ∧ (st H25 (⟨b13, 73, none⟩ : Addr) (.int .u8 1) (fun H27 => Pv [b1] H25 H27 ∧ (nw H27 5 [.int .u8 0] (fun p29 H30 => Pv [b1] H27 H30 ∧ (st H30 (⟨b13, 89, none⟩ : Addr) (.slice (some p29) 1 1) (fun H34 => Pv [b1] H30 H34 ∧ (∃ x36 : Int, ∃ x37 : Int, ∃ x38 : Int, ∃ x39 : Sl, ∃ x40 : Sl, ∃ x41 : Ints 16, ∃ x42 : Sl, ∃ x43 : Ints 16, ∃ x44 : Sl, ∃ x45 : Ints 16, ∃ x46 : Sl, ∃ x47 : Ints 16, ∃ x48 : Sl, ∃ x49 : Ints 16, ∃ x50 : Sl, ∃ x51 : Ints 16, ∃ x52 : Sl, ∃ x53 : Ints 16, ∃ x54 : Sl, ∃ x55 : Ints 16, ∃ x56 : Sl, ∃ x57 : Int, ∃ x58 : Int, ldA H34 (⟨b13, 0, none⟩ : Addr) (c32 x36 x37 x38 x39 x40 x41 x42 x43 x44 x45 x46 x47 x48 x49 x50 x51 x52 x53 x54 x55 x56 x57 x58) ∧ (Gr [b1] H34 (fun (H60 : Hp) => Q (x36, x37, x38, x39, x40, x41, x42, x43, x44, x45, x46, x47, x48, x49, x50, x51, x52, x53, x54, x55, x56, x57, x58) H60)))))))))))))))))))))))
set_option maxRecDepth 20000 in
set_option maxHeartbeats 4000000 in
theorem mosaiclaw17_example.calls (w0 : World) (Q : (Int × Int × Int × Sl × Sl × (Ints 16) × Sl × (Ints 16) × Sl × (Ints 16) × Sl × (Ints 16) × Sl × (Ints 16) × Sl × (Ints 16) × Sl × (Ints 16) × Sl × (Ints 16) × Sl × Int × Int) → Hp → Prop) (h : mosaiclaw17_example.s w0.heap Q) :
    Ca Try.prog 23 #[] w0 (Rt mosaiclaw17_example.enc Q w0) := by
  refine ca_start (c := _) Try.func23 rfl Try.ntmps23 rfl ?_
  have so : Sm w0 w0 := Sm.refl w0
  unfold mosaiclaw17_example.s at h
  refine wc_prune [] trivial (fun f1 => ?_)
  refine wc_seq ?_
  refine wc_region ?_
  refine wl_newT (T := 32) (cs := (c32 0 0 0 ⟨none, 0, 0⟩ ⟨none, 0, 0⟩ (zInts 16) ⟨none, 0, 0⟩ (zInts 16) ⟨none, 0, 0⟩ (zInts 16) ⟨none, 0, 0⟩ (zInts 16) ⟨none, 0, 0⟩ (zInts 16) ⟨none, 0, 0⟩ (zInts 16) ⟨none, 0, 0⟩ (zInts 16) ⟨none, 0, 0⟩ (zInts 16) ⟨none, 0, 0⟩ 0 0)) (ef_alloc zero32 rfl) rfl so ?_; intro b1 w2 hb_b1 t_b1 k_b1 so
  have g_b1 := Nat.le_of_eq hb_b1.symm
  have hc := k_b1.ch (F := [])
  refine wl_nil ?_
  refine wk_prune [(0, .pointer (some (⟨b1, 0, none⟩ : Addr)))] ⟨rfl, trivial⟩ (fun f1 => ?_)
  refine wk_then ?_
  refine wc_seq ?_
  refine wc_region ?_
  refine wl_val (at_build (cs := (c98 1 1 1 0)) (ps := [(0, .int .u8 1), (1, .int .u8 1), (2, .int .u8 1)]) rfl (fun w => by simp [Instr.build, Instr.fill, go_sem, Try.underlying98, z98])) rfl ?_
  obtain ⟨i6, i6a, i6b, i6c, i6d⟩ := info98
  replace h := h b1 _ hc g_b1 t_b1.lt; clear hc
  refine wl_newS (ef_buildSlice (cs := (c98 1 1 1 0)) (ps := [(0, .agg (c98 1 1 1 0).toArray)]) Try.underlying22 i6a i6b rfl (by rw [i6c]; decide) (by rw [i6c]; exact fill_full (vs := [.agg (c98 1 1 1 0).toArray]) rfl (by simp [Value.cells]) (by simp [Value.cells, len98]) rfl (by simp))) rfl so (one98 _ _ _ _) h ?_; intro p3 w4 h r5 so
  obtain ⟨q7, h⟩ := h
  replace t_b1 := pv_bk q7 t_b1 (by simp)
  refine wl_val (at_build (cs := (c24 0 8 8 ⟨(some p3), 1, 1⟩)) (ps := [(1, .int .i64 8), (2, .int .i64 8), (3, .slice (some p3) 1 1)]) rfl (fun w => by simp [Instr.build, Instr.fill, go_sem, Try.underlying24, z24])) rfl ?_
  refine wl_val (at_build (cs := (c67 0 0 0)) (ps := []) rfl (fun w => by simp [Instr.build, Instr.fill, go_sem, Try.underlying67, z67])) rfl ?_
  obtain ⟨i11, i11a, i11b, i11c, i11d⟩ := info67
  refine wl_newS (ef_buildSlice (cs := (c67 0 0 0)) (ps := [(0, .agg (c67 0 0 0).toArray)]) Try.underlying25 i11a i11b rfl (by rw [i11c]; decide) (by rw [i11c]; exact fill_full (vs := [.agg (c67 0 0 0).toArray]) rfl (by simp [Value.cells]) (by simp [Value.cells, len67]) rfl (by simp))) rfl so (one67 _ _ _) h ?_; intro p8 w9 h r10 so
  obtain ⟨q12, h⟩ := h
  replace t_b1 := pv_bk q12 t_b1 (by simp)
  refine wl_val (at_build (cs := (c32 0 8 8 ⟨(some p3), 1, 1⟩ ⟨(some p8), 1, 1⟩ (zInts 16) ⟨none, 0, 0⟩ (zInts 16) ⟨none, 0, 0⟩ (zInts 16) ⟨none, 0, 0⟩ (zInts 16) ⟨none, 0, 0⟩ (zInts 16) ⟨none, 0, 0⟩ (zInts 16) ⟨none, 0, 0⟩ (zInts 16) ⟨none, 0, 0⟩ (zInts 16) ⟨none, 0, 0⟩ 0 1)) (ps := [(0, .agg (c24 0 8 8 ⟨(some p3), 1, 1⟩).toArray), (1, .slice (some p8) 1 1), (5, .int .i64 1)]) rfl (build_struct (szs := [4, 1, 68, 68, 1, 1]) (vs := [.agg (c24 0 0 0 ⟨none, 0, 0⟩).toArray, .slice none 0 0, .agg (c30 (zInts 16) ⟨none, 0, 0⟩ (zInts 16) ⟨none, 0, 0⟩ (zInts 16) ⟨none, 0, 0⟩ (zInts 16) ⟨none, 0, 0⟩).toArray, .agg (c30 (zInts 16) ⟨none, 0, 0⟩ (zInts 16) ⟨none, 0, 0⟩ (zInts 16) ⟨none, 0, 0⟩ (zInts 16) ⟨none, 0, 0⟩).toArray, .int .i64 0, .int .i64 0]) (cs := (c32 0 8 8 ⟨(some p3), 1, 1⟩ ⟨(some p8), 1, 1⟩ (zInts 16) ⟨none, 0, 0⟩ (zInts 16) ⟨none, 0, 0⟩ (zInts 16) ⟨none, 0, 0⟩ (zInts 16) ⟨none, 0, 0⟩ (zInts 16) ⟨none, 0, 0⟩ (zInts 16) ⟨none, 0, 0⟩ (zInts 16) ⟨none, 0, 0⟩ (zInts 16) ⟨none, 0, 0⟩ 0 1)) zero32 (by first | rfl | simp [z32, c32, c24, len24, c30, len30, Value.cells, ints_len, bools_len, List.flatMap]) Try.underlying32 (by kernel_rfl) (by simp [z32, c32, c24, len24, c30, len30, Value.cells, ints_len, bools_len]) (by simp [z32, c32, c24, len24, c30, len30, Value.cells, ints_len, bools_len]) (by first | rfl | simp [z32, c32, c24, len24, c30, len30, Value.cells, ints_len, bools_len, List.set, List.flatMap, mkI, mkB, ints, bools]))) rfl ?_
  refine wl_newT (T := 32) (cs := (c32 0 0 0 ⟨none, 0, 0⟩ ⟨none, 0, 0⟩ (zInts 16) ⟨none, 0, 0⟩ (zInts 16) ⟨none, 0, 0⟩ (zInts 16) ⟨none, 0, 0⟩ (zInts 16) ⟨none, 0, 0⟩ (zInts 16) ⟨none, 0, 0⟩ (zInts 16) ⟨none, 0, 0⟩ (zInts 16) ⟨none, 0, 0⟩ (zInts 16) ⟨none, 0, 0⟩ 0 0)) (ef_alloc zero32 rfl) rfl so ?_; intro b13 w14 hb_b13 t_b13 k_b13 so
  have g_b13 := Nat.le_of_eq hb_b13.symm
  have hc := k_b13.ch (F := [])
  have n_b1_b13 : b1 ≠ b13 := fun e => by have := t_b1.lt; omega
  replace t_b1 := t_b1.keep k_b13
  refine wl_stWT (vs := (c32 0 8 8 ⟨(some p3), 1, 1⟩ ⟨(some p8), 1, 1⟩ (zInts 16) ⟨none, 0, 0⟩ (zInts 16) ⟨none, 0, 0⟩ (zInts 16) ⟨none, 0, 0⟩ (zInts 16) ⟨none, 0, 0⟩ (zInts 16) ⟨none, 0, 0⟩ (zInts 16) ⟨none, 0, 0⟩ (zInts 16) ⟨none, 0, 0⟩ (zInts 16) ⟨none, 0, 0⟩ 0 1)) t_b13 (by first | (rw [len32, len32]) | (rw [len32]) | rfl) rfl so (fun q => ef_storeA (p := (⟨b13, 0, none⟩ : Addr)) (cs := (c32 0 8 8 ⟨(some p3), 1, 1⟩ ⟨(some p8), 1, 1⟩ (zInts 16) ⟨none, 0, 0⟩ (zInts 16) ⟨none, 0, 0⟩ (zInts 16) ⟨none, 0, 0⟩ (zInts 16) ⟨none, 0, 0⟩ (zInts 16) ⟨none, 0, 0⟩ (zInts 16) ⟨none, 0, 0⟩ (zInts 16) ⟨none, 0, 0⟩ (zInts 16) ⟨none, 0, 0⟩ 0 1)) (by rw [len32]; exact sz32) rfl rfl (one32 _ _ _ _ _ _ _ _ _ _ _ _ _ _ _ _ _ _ _ _ _ _ _) q) ?_; intro w15 t_b13 s_w15 so
  replace t_b1 := t_b1.same s_w15 (n_b1_b13)
  replace hc := ch_same hc s_w15 (.inr g_b13)
  refine wl_nil ?_
  refine wk_prune [(0, .pointer (some (⟨b1, 0, none⟩ : Addr))), (1, .pointer (some (⟨b13, 0, none⟩ : Addr)))] ⟨rfl, rfl, trivial⟩ (fun f1 => ?_)
  refine wk_then ?_
  refine wc_seq ?_
  refine wc_region ?_
  refine wl_val (at_fieldAddr Try.underlying32 rfl rfl sz30 (by decide) rfl) rfl ?_
  refine wl_val (at_ixAddrA Try.underlying30 sz29 rfl rfl (by decide) (by decide)) rfl ?_
  refine wl_val (at_fieldAddr Try.underlying29 rfl rfl sz26 (by decide) rfl) rfl ?_
  refine wl_val (at_ixAddrA Try.underlying26 sz5 rfl rfl (by decide) (by decide)) rfl ?_
  replace h := h b13 _ hc g_b13 t_b13.lt; clear hc
  replace h := h t_b13
  refine wl_st (v := .int .u8 1) h rfl so (fun q1 q2 => ef_store (sz := sz5) rfl rfl rfl q1 q2) ?_; intro w16 h so
  obtain ⟨q17, h⟩ := h
  replace t_b1 := pv_bk q17 t_b1 (by simp)
  refine wl_nil ?_
  refine wk_prune [(0, .pointer (some (⟨b1, 0, none⟩ : Addr))), (1, .pointer (some (⟨b13, 0, none⟩ : Addr)))] ⟨rfl, rfl, trivial⟩ (fun f1 => ?_)
  refine wk_then ?_
  refine wc_seq ?_
  refine wc_region ?_
  refine wl_val (at_fieldAddr Try.underlying32 rfl rfl sz30 (by decide) rfl) rfl ?_
  refine wl_val (at_ixAddrA Try.underlying30 sz29 rfl rfl (by decide) (by decide)) rfl ?_
  refine wl_val (at_fieldAddr Try.underlying29 rfl rfl sz26 (by decide) rfl) rfl ?_
  refine wl_val (at_ixAddrA Try.underlying26 sz5 rfl rfl (by decide) (by decide)) rfl ?_
  refine wl_st (v := .int .u8 1) h rfl so (fun q1 q2 => ef_store (sz := sz5) rfl rfl rfl q1 q2) ?_; intro w18 h so
  obtain ⟨q19, h⟩ := h
  replace t_b1 := pv_bk q19 t_b1 (by simp)
  refine wl_nil ?_
  refine wk_prune [(0, .pointer (some (⟨b1, 0, none⟩ : Addr))), (1, .pointer (some (⟨b13, 0, none⟩ : Addr)))] ⟨rfl, rfl, trivial⟩ (fun f1 => ?_)
  refine wk_then ?_
  refine wc_seq ?_
  refine wc_region ?_
  obtain ⟨i23, i23a, i23b, i23c, i23d⟩ := info5
  refine wl_newS (ef_buildSlice (cs := [.int .u8 0, .int .u8 3]) (ps := [(0, .int .u8 0), (1, .int .u8 3)]) Try.underlying27 i23a i23b rfl (by rw [i23c]; decide) (by rw [i23c]; exact fill_full (vs := [.int .u8 0, .int .u8 3]) rfl (by simp [Value.cells]) (by simp [Value.cells]) rfl (by simp))) rfl so (ones_cons rfl (ones_cons rfl ones_nil)) h ?_; intro p20 w21 h r22 so
  obtain ⟨q24, h⟩ := h
  replace t_b1 := pv_bk q24 t_b1 (by simp)
  refine wl_val (at_fieldAddr Try.underlying32 rfl rfl sz30 (by decide) rfl) rfl ?_
  refine wl_val (at_ixAddrA Try.underlying30 sz29 rfl rfl (by decide) (by decide)) rfl ?_
  refine wl_val (at_fieldAddr Try.underlying29 rfl rfl sz27 (by decide) rfl) rfl ?_
  refine wl_st (v := .slice (some p20) 2 2) h rfl so (fun q1 q2 => ef_store (sz := sz27) rfl rfl rfl q1 q2) ?_; intro w25 h so
  obtain ⟨q26, h⟩ := h
  replace t_b1 := pv_bk q26 t_b1 (by simp)
  refine wl_nil ?_
  refine wk_prune [(0, .pointer (some (⟨b1, 0, none⟩ : Addr))), (1, .pointer (some (⟨b13, 0, none⟩ : Addr)))] ⟨rfl, rfl, trivial⟩ (fun f1 => ?_)
  refine wk_then ?_
  refine wc_seq ?_
  refine wc_region ?_
  refine wl_val (at_fieldAddr Try.underlying32 rfl rfl sz30 (by decide) rfl) rfl ?_
  refine wl_val (at_ixAddrA Try.underlying30 sz29 rfl rfl (by decide) (by decide)) rfl ?_
  refine wl_val (at_fieldAddr Try.underlying29 rfl rfl sz26 (by decide) rfl) rfl ?_
  refine wl_val (at_ixAddrA Try.underlying26 sz5 rfl rfl (by decide) (by decide)) rfl ?_
  refine wl_st (v := .int .u8 1) h rfl so (fun q1 q2 => ef_store (sz := sz5) rfl rfl rfl q1 q2) ?_; intro w27 h so
  obtain ⟨q28, h⟩ := h
  replace t_b1 := pv_bk q28 t_b1 (by simp)
  refine wl_nil ?_
  refine wk_prune [(0, .pointer (some (⟨b1, 0, none⟩ : Addr))), (1, .pointer (some (⟨b13, 0, none⟩ : Addr)))] ⟨rfl, rfl, trivial⟩ (fun f1 => ?_)
  refine wk_then ?_
  refine wc_seq ?_
  refine wc_region ?_
  obtain ⟨i32, i32a, i32b, i32c, i32d⟩ := info5
  refine wl_newS (ef_buildSlice (cs := [.int .u8 0]) (ps := [(0, .int .u8 0)]) Try.underlying27 i32a i32b rfl (by rw [i32c]; decide) (by rw [i32c]; exact fill_full (vs := [.int .u8 0]) rfl (by simp [Value.cells]) (by simp [Value.cells]) rfl (by simp))) rfl so (ones_cons rfl ones_nil) h ?_; intro p29 w30 h r31 so
  obtain ⟨q33, h⟩ := h
  replace t_b1 := pv_bk q33 t_b1 (by simp)
  refine wl_val (at_fieldAddr Try.underlying32 rfl rfl sz30 (by decide) rfl) rfl ?_
  refine wl_val (at_ixAddrA Try.underlying30 sz29 rfl rfl (by decide) (by decide)) rfl ?_
  refine wl_val (at_fieldAddr Try.underlying29 rfl rfl sz27 (by decide) rfl) rfl ?_
  refine wl_st (v := .slice (some p29) 1 1) h rfl so (fun q1 q2 => ef_store (sz := sz27) rfl rfl rfl q1 q2) ?_; intro w34 h so
  obtain ⟨q35, h⟩ := h
  replace t_b1 := pv_bk q35 t_b1 (by simp)
  refine wl_nil ?_
  refine wk_prune [(0, .pointer (some (⟨b1, 0, none⟩ : Addr))), (1, .pointer (some (⟨b13, 0, none⟩ : Addr)))] ⟨rfl, rfl, trivial⟩ (fun f1 => ?_)
  refine wk_then ?_
  refine wc_seq ?_
  refine wc_region ?_
  obtain ⟨x36, x37, x38, x39, x40, x41, x42, x43, x44, x45, x46, x47, x48, x49, x50, x51, x52, x53, x54, x55, x56, x57, x58, q59, h⟩ := h
  refine wl_val (at_loadA (cs := (c32 x36 x37 x38 x39 x40 x41 x42 x43 x44 x45 x46 x47 x48 x49 x50 x51 x52 x53 x54 x55 x56 x57 x58)) Try.underlying32 rfl (by rw [len32]; exact sz32) rfl q59) rfl ?_
  refine wl_stWT (vs := (c32 x36 x37 x38 x39 x40 x41 x42 x43 x44 x45 x46 x47 x48 x49 x50 x51 x52 x53 x54 x55 x56 x57 x58)) t_b1 (by first | (rw [len32, len32]) | (rw [len32]) | rfl) rfl so (fun q => ef_storeA (p := (⟨b1, 0, none⟩ : Addr)) (cs := (c32 x36 x37 x38 x39 x40 x41 x42 x43 x44 x45 x46 x47 x48 x49 x50 x51 x52 x53 x54 x55 x56 x57 x58)) (by rw [len32]; exact sz32) rfl rfl (one32 _ _ _ _ _ _ _ _ _ _ _ _ _ _ _ _ _ _ _ _ _ _ _) q) ?_; intro w60 t_b1 s_w60 so
  have hc := s_w60.ch
  refine wl_nil ?_
  refine wk_prune [(0, .pointer (some (⟨b1, 0, none⟩ : Addr)))] ⟨rfl, trivial⟩ (fun f1 => ?_)
  refine wk_then ?_
  refine wc_ret ?_
  replace h := h _ hc; clear hc
  exact wk_retR1 (x := (x36, x37, x38, x39, x40, x41, x42, x43, x44, x45, x46, x47, x48, x49, x50, x51, x52, x53, x54, x55, x56, x57, x58)) rfl ⟨by decide, _, rfl, loadVar_agg (cs := (c32 x36 x37 x38 x39 x40 x41 x42 x43 x44 x45 x46 x47 x48 x49 x50 x51 x52 x53 x54 x55 x56 x57 x58)) Try.underlying32 rfl (by rw [len32]; exact sz32) (ldA_full t_b1)⟩ rfl so h
def mosaiclaw17_alive.enc : Bool → Value := fun r => .bool r
def mosaiclaw17_alive.s (H0 : Hp) (Q : Bool → Hp → Prop) : Prop :=
  mosaiclaw17_example.s H0 (fun x1 H2 => Gn [] H2 (fun (b3 : Nat) (H5 : Hp) => span_Decode.s (⟨#[179]⟩ : ByteArray) 0 1 x1.1 x1.2.1 x1.2.2.1 x1.2.2.2.1 x1.2.2.2.2.1 x1.2.2.2.2.2.1 x1.2.2.2.2.2.2.1 x1.2.2.2.2.2.2.2.1 x1.2.2.2.2.2.2.2.2.1 x1.2.2.2.2.2.2.2.2.2.1 x1.2.2.2.2.2.2.2.2.2.2.1 x1.2.2.2.2.2.2.2.2.2.2.2.1 x1.2.2.2.2.2.2.2.2.2.2.2.2.1 x1.2.2.2.2.2.2.2.2.2.2.2.2.2.1 x1.2.2.2.2.2.2.2.2.2.2.2.2.2.2.1 x1.2.2.2.2.2.2.2.2.2.2.2.2.2.2.2.1 x1.2.2.2.2.2.2.2.2.2.2.2.2.2.2.2.2.1 x1.2.2.2.2.2.2.2.2.2.2.2.2.2.2.2.2.2.1 x1.2.2.2.2.2.2.2.2.2.2.2.2.2.2.2.2.2.2.1 x1.2.2.2.2.2.2.2.2.2.2.2.2.2.2.2.2.2.2.2.1 x1.2.2.2.2.2.2.2.2.2.2.2.2.2.2.2.2.2.2.2.2.1 x1.2.2.2.2.2.2.2.2.2.2.2.2.2.2.2.2.2.2.2.2.2.1 x1.2.2.2.2.2.2.2.2.2.2.2.2.2.2.2.2.2.2.2.2.2.2 H5 (fun x6 H7 => Pv [b3] H5 H7 ∧ (Gn [] H7 (fun (b9 : Nat) (H11 : Hp) => span_Decode.s (⟨#[180]⟩ : ByteArray) 0 1 x1.1 x1.2.1 x1.2.2.1 x1.2.2.2.1 x1.2.2.2.2.1 x1.2.2.2.2.2.1 x1.2.2.2.2.2.2.1 x1.2.2.2.2.2.2.2.1 x1.2.2.2.2.2.2.2.2.1 x1.2.2.2.2.2.2.2.2.2.1 x1.2.2.2.2.2.2.2.2.2.2.1 x1.2.2.2.2.2.2.2.2.2.2.2.1 x1.2.2.2.2.2.2.2.2.2.2.2.2.1 x1.2.2.2.2.2.2.2.2.2.2.2.2.2.1 x1.2.2.2.2.2.2.2.2.2.2.2.2.2.2.1 x1.2.2.2.2.2.2.2.2.2.2.2.2.2.2.2.1 x1.2.2.2.2.2.2.2.2.2.2.2.2.2.2.2.2.1 x1.2.2.2.2.2.2.2.2.2.2.2.2.2.2.2.2.2.1 x1.2.2.2.2.2.2.2.2.2.2.2.2.2.2.2.2.2.2.1 x1.2.2.2.2.2.2.2.2.2.2.2.2.2.2.2.2.2.2.2.1 x1.2.2.2.2.2.2.2.2.2.2.2.2.2.2.2.2.2.2.2.2.1 x1.2.2.2.2.2.2.2.2.2.2.2.2.2.2.2.2.2.2.2.2.2.1 x1.2.2.2.2.2.2.2.2.2.2.2.2.2.2.2.2.2.2.2.2.2.2 H11 (fun x12 H13 => Pv [b3, b9] H11 H13 ∧ (Gn [] H13 (fun (b15 : Nat) (H17 : Hp) => span_Decode.s (⟨#[128]⟩ : ByteArray) 0 1 x1.1 x1.2.1 x1.2.2.1 x1.2.2.2.1 x1.2.2.2.2.1 x1.2.2.2.2.2.1 x1.2.2.2.2.2.2.1 x1.2.2.2.2.2.2.2.1 x1.2.2.2.2.2.2.2.2.1 x1.2.2.2.2.2.2.2.2.2.1 x1.2.2.2.2.2.2.2.2.2.2.1 x1.2.2.2.2.2.2.2.2.2.2.2.1 x1.2.2.2.2.2.2.2.2.2.2.2.2.1 x1.2.2.2.2.2.2.2.2.2.2.2.2.2.1 x1.2.2.2.2.2.2.2.2.2.2.2.2.2.2.1 x1.2.2.2.2.2.2.2.2.2.2.2.2.2.2.2.1 x1.2.2.2.2.2.2.2.2.2.2.2.2.2.2.2.2.1 x1.2.2.2.2.2.2.2.2.2.2.2.2.2.2.2.2.2.1 x1.2.2.2.2.2.2.2.2.2.2.2.2.2.2.2.2.2.2.1 x1.2.2.2.2.2.2.2.2.2.2.2.2.2.2.2.2.2.2.2.1 x1.2.2.2.2.2.2.2.2.2.2.2.2.2.2.2.2.2.2.2.2.1 x1.2.2.2.2.2.2.2.2.2.2.2.2.2.2.2.2.2.2.2.2.2.1 x1.2.2.2.2.2.2.2.2.2.2.2.2.2.2.2.2.2.2.2.2.2.2 H17 (fun x18 H19 => Pv [b9, b15] H17 H19 ∧ (Gn [] H19 (fun (b21 : Nat) (H23 : Hp) => Join (fun (s25 : Bool) (H26 : Hp) => Join (fun (s28 : Bool) (H29 : Hp) => if s25 = true then (if s28 = true then (if (x18.2.2.2.2 == 0) = true then (Q (x18.1 == 3) H29) else (Q false H29)) else (Q false H29)) else (Q false H29)) (fun (J27 : Bool → Hp → Prop) => if (x12.2.2.2.2 == 0) = true then (if (x12.1 == 4) = true then (if (x12.2.1 == 0) = true then (J27 (((x12.2.2.2.1.n : Int) == 0)) H26) else (J27 (false) H26)) else (J27 (false) H26)) else (J27 (false) H26))) (fun (J24 : Bool → Hp → Prop) => if (x6.2.2.2.2 == 0) = true then (if (x6.1 == 1) = true then (if (x6.2.1 == 1) = true then (if (x6.2.2.1 == 6) = true then (if ((x6.2.2.2.1.n : Int) == 1) = true then (0 ≤ (0 : Int) ∧ (0 : Int) < (x6.2.2.2.1.n : Int) ∧ someA x6.2.2.2.1.a (fun p32 => ∃ x34 : Ints 64, ldA H23 (p32.add (Int.toNat 0 * 64)) (c54 x34) ∧ (J24 ((x34.1 == (mkI (n := 64) [6, 0, 0, 0, 0, 0, 0, 0, 0, 0, 0, 0, 0, 0, 0, 0, 0, 0, 0, 0, 0, 0, 0, 0, 0, 0, 0, 0, 0, 0, 0, 0, 0, 0, 0, 0, 0, 0, 0, 0, 0, 0, 0, 0, 0, 0, 0, 0, 0, 0, 0, 0, 0, 0, 0, 0, 0, 0, 0, 0, 0, 0, 0, 0] (by rfl)).1)) H23))) else (J24 (false) H23)) else (J24 (false) H23)) else (J24 (false) H23)) else (J24 (false) H23)) else (J24 (false) H23)))))))))))))
set_option maxRecDepth 20000 in
set_option maxHeartbeats 4000000 in
theorem mosaiclaw17_alive.calls (w0 : World) (Q : Bool → Hp → Prop) (h : mosaiclaw17_alive.s w0.heap Q) :
    Ca Try.prog 11 #[] w0 (Rt mosaiclaw17_alive.enc Q w0) := by
  refine ca_start (c := _) Try.func11 rfl Try.ntmps11 rfl ?_
  have so : Sm w0 w0 := Sm.refl w0
  unfold mosaiclaw17_alive.s at h
  refine wc_prune [] trivial (fun f1 => ?_)
  refine wc_seq ?_
  refine wc_region ?_
  refine wl_val (at_assign rfl) rfl ?_
  refine wl_nil ?_
  refine wk_prune [] trivial (fun f1 => ?_)
  refine wk_then ?_
  refine wc_seq ?_
  refine wc_region ?_
  refine wl_callF (mosaiclaw17_example.calls _ _ h) enter23 rfl trivial so ?_; intro x1 w2 h so
  refine wl_newT (T := 32) (cs := (c32 0 0 0 ⟨none, 0, 0⟩ ⟨none, 0, 0⟩ (zInts 16) ⟨none, 0, 0⟩ (zInts 16) ⟨none, 0, 0⟩ (zInts 16) ⟨none, 0, 0⟩ (zInts 16) ⟨none, 0, 0⟩ (zInts 16) ⟨none, 0, 0⟩ (zInts 16) ⟨none, 0, 0⟩ (zInts 16) ⟨none, 0, 0⟩ (zInts 16) ⟨none, 0, 0⟩ 0 0)) (ef_alloc zero32 rfl) rfl so ?_; intro b3 w4 hb_b3 t_b3 k_b3 so
  have g_b3 := Nat.le_of_eq hb_b3.symm
  have hc := k_b3.ch (F := [])
  refine wl_stWT (vs := (c32 x1.1 x1.2.1 x1.2.2.1 x1.2.2.2.1 x1.2.2.2.2.1 x1.2.2.2.2.2.1 x1.2.2.2.2.2.2.1 x1.2.2.2.2.2.2.2.1 x1.2.2.2.2.2.2.2.2.1 x1.2.2.2.2.2.2.2.2.2.1 x1.2.2.2.2.2.2.2.2.2.2.1 x1.2.2.2.2.2.2.2.2.2.2.2.1 x1.2.2.2.2.2.2.2.2.2.2.2.2.1 x1.2.2.2.2.2.2.2.2.2.2.2.2.2.1 x1.2.2.2.2.2.2.2.2.2.2.2.2.2.2.1 x1.2.2.2.2.2.2.2.2.2.2.2.2.2.2.2.1 x1.2.2.2.2.2.2.2.2.2.2.2.2.2.2.2.2.1 x1.2.2.2.2.2.2.2.2.2.2.2.2.2.2.2.2.2.1 x1.2.2.2.2.2.2.2.2.2.2.2.2.2.2.2.2.2.2.1 x1.2.2.2.2.2.2.2.2.2.2.2.2.2.2.2.2.2.2.2.1 x1.2.2.2.2.2.2.2.2.2.2.2.2.2.2.2.2.2.2.2.2.1 x1.2.2.2.2.2.2.2.2.2.2.2.2.2.2.2.2.2.2.2.2.2.1 x1.2.2.2.2.2.2.2.2.2.2.2.2.2.2.2.2.2.2.2.2.2.2)) t_b3 (by first | (rw [len32, len32]) | (rw [len32]) | rfl) rfl so (fun q => ef_storeA (p := (⟨b3, 0, none⟩ : Addr)) (cs := (c32 x1.1 x1.2.1 x1.2.2.1 x1.2.2.2.1 x1.2.2.2.2.1 x1.2.2.2.2.2.1 x1.2.2.2.2.2.2.1 x1.2.2.2.2.2.2.2.1 x1.2.2.2.2.2.2.2.2.1 x1.2.2.2.2.2.2.2.2.2.1 x1.2.2.2.2.2.2.2.2.2.2.1 x1.2.2.2.2.2.2.2.2.2.2.2.1 x1.2.2.2.2.2.2.2.2.2.2.2.2.1 x1.2.2.2.2.2.2.2.2.2.2.2.2.2.1 x1.2.2.2.2.2.2.2.2.2.2.2.2.2.2.1 x1.2.2.2.2.2.2.2.2.2.2.2.2.2.2.2.1 x1.2.2.2.2.2.2.2.2.2.2.2.2.2.2.2.2.1 x1.2.2.2.2.2.2.2.2.2.2.2.2.2.2.2.2.2.1 x1.2.2.2.2.2.2.2.2.2.2.2.2.2.2.2.2.2.2.1 x1.2.2.2.2.2.2.2.2.2.2.2.2.2.2.2.2.2.2.2.1 x1.2.2.2.2.2.2.2.2.2.2.2.2.2.2.2.2.2.2.2.2.1 x1.2.2.2.2.2.2.2.2.2.2.2.2.2.2.2.2.2.2.2.2.2.1 x1.2.2.2.2.2.2.2.2.2.2.2.2.2.2.2.2.2.2.2.2.2.2)) (by rw [len32]; exact sz32) rfl rfl (one32 _ _ _ _ _ _ _ _ _ _ _ _ _ _ _ _ _ _ _ _ _ _ _) q) ?_; intro w5 t_b3 s_w5 so
  replace hc := ch_same hc s_w5 (.inr g_b3)
  refine wl_nil ?_
  refine wk_prune [(1, .pointer (some (⟨b3, 0, none⟩ : Addr)))] ⟨rfl, trivial⟩ (fun f1 => ?_)
  refine wk_then ?_
  refine wc_seq ?_
  refine wc_region ?_
  refine wl_val (at_loadA (cs := (c32 x1.1 x1.2.1 x1.2.2.1 x1.2.2.2.1 x1.2.2.2.2.1 x1.2.2.2.2.2.1 x1.2.2.2.2.2.2.1 x1.2.2.2.2.2.2.2.1 x1.2.2.2.2.2.2.2.2.1 x1.2.2.2.2.2.2.2.2.2.1 x1.2.2.2.2.2.2.2.2.2.2.1 x1.2.2.2.2.2.2.2.2.2.2.2.1 x1.2.2.2.2.2.2.2.2.2.2.2.2.1 x1.2.2.2.2.2.2.2.2.2.2.2.2.2.1 x1.2.2.2.2.2.2.2.2.2.2.2.2.2.2.1 x1.2.2.2.2.2.2.2.2.2.2.2.2.2.2.2.1 x1.2.2.2.2.2.2.2.2.2.2.2.2.2.2.2.2.1 x1.2.2.2.2.2.2.2.2.2.2.2.2.2.2.2.2.2.1 x1.2.2.2.2.2.2.2.2.2.2.2.2.2.2.2.2.2.2.1 x1.2.2.2.2.2.2.2.2.2.2.2.2.2.2.2.2.2.2.2.1 x1.2.2.2.2.2.2.2.2.2.2.2.2.2.2.2.2.2.2.2.2.1 x1.2.2.2.2.2.2.2.2.2.2.2.2.2.2.2.2.2.2.2.2.2.1 x1.2.2.2.2.2.2.2.2.2.2.2.2.2.2.2.2.2.2.2.2.2.2)) Try.underlying32 rfl (by rw [len32]; exact sz32) rfl (ldA_full t_b3)) rfl ?_
  replace h := h b3 _ hc g_b3 t_b3.lt; clear hc
  refine wl_callF (span_Decode.calls _ _ _ _ _ _ _ _ _ _ _ _ _ _ _ _ _ _ _ _ _ _ _ _ _ _ _ _ h) enter13 rfl trivial so ?_; intro x6 w7 h so
  obtain ⟨q8, h⟩ := h
  replace t_b3 := pv_bk q8 t_b3 (by simp)
  refine wl_val (at_move rfl) rfl ?_
  refine wl_val (at_extract rfl rfl) rfl ?_
  refine wl_val (at_extract rfl rfl) rfl ?_
  refine wl_newT (T := 40) (cs := (c40 0 0 0 ⟨none, 0, 0⟩)) (ef_alloc zero40 rfl) rfl so ?_; intro b9 w10 hb_b9 t_b9 k_b9 so
  have g_b9 := Nat.le_of_eq hb_b9.symm
  have hc := k_b9.ch (F := [])
  have n_b3_b9 : b3 ≠ b9 := fun e => by have := t_b3.lt; omega
  replace t_b3 := t_b3.keep k_b9
  refine wl_stWT (vs := (c40 x6.1 x6.2.1 x6.2.2.1 x6.2.2.2.1)) t_b9 (by first | (rw [len40, len40]) | (rw [len40]) | rfl) rfl so (fun q => ef_storeA (p := (⟨b9, 0, none⟩ : Addr)) (cs := (c40 x6.1 x6.2.1 x6.2.2.1 x6.2.2.2.1)) (by rw [len40]; exact sz40) rfl rfl (one40 _ _ _ _) q) ?_; intro w11 t_b9 s_w11 so
  replace t_b3 := t_b3.same s_w11 (n_b3_b9)
  replace hc := ch_same hc s_w11 (.inr g_b9)
  refine wl_val (at_assign rfl) rfl ?_
  refine wl_nil ?_
  refine wk_prune [(1, .pointer (some (⟨b3, 0, none⟩ : Addr))), (2, .pointer (some (⟨b9, 0, none⟩ : Addr))), (3, .int .i64 x6.2.2.2.2)] ⟨rfl, rfl, rfl, trivial⟩ (fun f1 => ?_)
  refine wk_then ?_
  refine wc_seq ?_
  refine wc_region ?_
  refine wl_val (at_loadA (cs := (c32 x1.1 x1.2.1 x1.2.2.1 x1.2.2.2.1 x1.2.2.2.2.1 x1.2.2.2.2.2.1 x1.2.2.2.2.2.2.1 x1.2.2.2.2.2.2.2.1 x1.2.2.2.2.2.2.2.2.1 x1.2.2.2.2.2.2.2.2.2.1 x1.2.2.2.2.2.2.2.2.2.2.1 x1.2.2.2.2.2.2.2.2.2.2.2.1 x1.2.2.2.2.2.2.2.2.2.2.2.2.1 x1.2.2.2.2.2.2.2.2.2.2.2.2.2.1 x1.2.2.2.2.2.2.2.2.2.2.2.2.2.2.1 x1.2.2.2.2.2.2.2.2.2.2.2.2.2.2.2.1 x1.2.2.2.2.2.2.2.2.2.2.2.2.2.2.2.2.1 x1.2.2.2.2.2.2.2.2.2.2.2.2.2.2.2.2.2.1 x1.2.2.2.2.2.2.2.2.2.2.2.2.2.2.2.2.2.2.1 x1.2.2.2.2.2.2.2.2.2.2.2.2.2.2.2.2.2.2.2.1 x1.2.2.2.2.2.2.2.2.2.2.2.2.2.2.2.2.2.2.2.2.1 x1.2.2.2.2.2.2.2.2.2.2.2.2.2.2.2.2.2.2.2.2.2.1 x1.2.2.2.2.2.2.2.2.2.2.2.2.2.2.2.2.2.2.2.2.2.2)) Try.underlying32 rfl (by rw [len32]; exact sz32) rfl (ldA_full t_b3)) rfl ?_
  replace h := h b9 _ hc g_b9 t_b9.lt; clear hc
  refine wl_callF (span_Decode.calls _ _ _ _ _ _ _ _ _ _ _ _ _ _ _ _ _ _ _ _ _ _ _ _ _ _ _ _ h) enter13 rfl trivial so ?_; intro x12 w13 h so
  obtain ⟨q14, h⟩ := h
  replace t_b3 := pv_bk q14 t_b3 (by simp)
  replace t_b9 := pv_bk q14 t_b9 (by simp)
  refine wl_val (at_move rfl) rfl ?_
  refine wl_val (at_extract rfl rfl) rfl ?_
  refine wl_val (at_extract rfl rfl) rfl ?_
  refine wl_newT (T := 40) (cs := (c40 0 0 0 ⟨none, 0, 0⟩)) (ef_alloc zero40 rfl) rfl so ?_; intro b15 w16 hb_b15 t_b15 k_b15 so
  have g_b15 := Nat.le_of_eq hb_b15.symm
  have hc := k_b15.ch (F := [])
  have n_b3_b15 : b3 ≠ b15 := fun e => by have := t_b3.lt; omega
  replace t_b3 := t_b3.keep k_b15
  have n_b9_b15 : b9 ≠ b15 := fun e => by have := t_b9.lt; omega
  replace t_b9 := t_b9.keep k_b15
  refine wl_stWT (vs := (c40 x12.1 x12.2.1 x12.2.2.1 x12.2.2.2.1)) t_b15 (by first | (rw [len40, len40]) | (rw [len40]) | rfl) rfl so (fun q => ef_storeA (p := (⟨b15, 0, none⟩ : Addr)) (cs := (c40 x12.1 x12.2.1 x12.2.2.1 x12.2.2.2.1)) (by rw [len40]; exact sz40) rfl rfl (one40 _ _ _ _) q) ?_; intro w17 t_b15 s_w17 so
  replace t_b3 := t_b3.same s_w17 (n_b3_b15)
  replace t_b9 := t_b9.same s_w17 (n_b9_b15)
  replace hc := ch_same hc s_w17 (.inr g_b15)
  refine wl_val (at_assign rfl) rfl ?_
  refine wl_nil ?_
  refine wk_prune [(1, .pointer (some (⟨b3, 0, none⟩ : Addr))), (2, .pointer (some (⟨b9, 0, none⟩ : Addr))), (3, .int .i64 x6.2.2.2.2), (4, .pointer (some (⟨b15, 0, none⟩ : Addr))), (5, .int .i64 x12.2.2.2.2)] ⟨rfl, rfl, rfl, rfl, rfl, trivial⟩ (fun f1 => ?_)
  refine wk_then ?_
  refine wc_seq ?_
  refine wc_region ?_
  refine wl_val (at_loadA (cs := (c32 x1.1 x1.2.1 x1.2.2.1 x1.2.2.2.1 x1.2.2.2.2.1 x1.2.2.2.2.2.1 x1.2.2.2.2.2.2.1 x1.2.2.2.2.2.2.2.1 x1.2.2.2.2.2.2.2.2.1 x1.2.2.2.2.2.2.2.2.2.1 x1.2.2.2.2.2.2.2.2.2.2.1 x1.2.2.2.2.2.2.2.2.2.2.2.1 x1.2.2.2.2.2.2.2.2.2.2.2.2.1 x1.2.2.2.2.2.2.2.2.2.2.2.2.2.1 x1.2.2.2.2.2.2.2.2.2.2.2.2.2.2.1 x1.2.2.2.2.2.2.2.2.2.2.2.2.2.2.2.1 x1.2.2.2.2.2.2.2.2.2.2.2.2.2.2.2.2.1 x1.2.2.2.2.2.2.2.2.2.2.2.2.2.2.2.2.2.1 x1.2.2.2.2.2.2.2.2.2.2.2.2.2.2.2.2.2.2.1 x1.2.2.2.2.2.2.2.2.2.2.2.2.2.2.2.2.2.2.2.1 x1.2.2.2.2.2.2.2.2.2.2.2.2.2.2.2.2.2.2.2.2.1 x1.2.2.2.2.2.2.2.2.2.2.2.2.2.2.2.2.2.2.2.2.2.1 x1.2.2.2.2.2.2.2.2.2.2.2.2.2.2.2.2.2.2.2.2.2.2)) Try.underlying32 rfl (by rw [len32]; exact sz32) rfl (ldA_full t_b3)) rfl ?_
  replace h := h b15 _ hc g_b15 t_b15.lt; clear hc
  refine wl_callF (span_Decode.calls _ _ _ _ _ _ _ _ _ _ _ _ _ _ _ _ _ _ _ _ _ _ _ _ _ _ _ _ h) enter13 rfl trivial so ?_; intro x18 w19 h so
  obtain ⟨q20, h⟩ := h
  replace t_b9 := pv_bk q20 t_b9 (by simp)
  replace t_b15 := pv_bk q20 t_b15 (by simp)
  refine wl_val (at_move rfl) rfl ?_
  refine wl_val (at_extract rfl rfl) rfl ?_
  refine wl_val (at_extract rfl rfl) rfl ?_
  refine wl_newT (T := 40) (cs := (c40 0 0 0 ⟨none, 0, 0⟩)) (ef_alloc zero40 rfl) rfl so ?_; intro b21 w22 hb_b21 t_b21 k_b21 so
  have g_b21 := Nat.le_of_eq hb_b21.symm
  have hc := k_b21.ch (F := [])
  have n_b9_b21 : b9 ≠ b21 := fun e => by have := t_b9.lt; omega
  replace t_b9 := t_b9.keep k_b21
  have n_b15_b21 : b15 ≠ b21 := fun e => by have := t_b15.lt; omega
  replace t_b15 := t_b15.keep k_b21
  refine wl_stWT (vs := (c40 x18.1 x18.2.1 x18.2.2.1 x18.2.2.2.1)) t_b21 (by first | (rw [len40, len40]) | (rw [len40]) | rfl) rfl so (fun q => ef_storeA (p := (⟨b21, 0, none⟩ : Addr)) (cs := (c40 x18.1 x18.2.1 x18.2.2.1 x18.2.2.2.1)) (by rw [len40]; exact sz40) rfl rfl (one40 _ _ _ _) q) ?_; intro w23 t_b21 s_w23 so
  replace t_b9 := t_b9.same s_w23 (n_b9_b21)
  replace t_b15 := t_b15.same s_w23 (n_b15_b21)
  replace hc := ch_same hc s_w23 (.inr g_b21)
  refine wl_val (at_assign rfl) rfl ?_
  refine wl_nil ?_
  refine wk_prune [(2, .pointer (some (⟨b9, 0, none⟩ : Addr))), (3, .int .i64 x6.2.2.2.2), (4, .pointer (some (⟨b15, 0, none⟩ : Addr))), (5, .int .i64 x12.2.2.2.2), (6, .pointer (some (⟨b21, 0, none⟩ : Addr))), (7, .int .i64 x18.2.2.2.2)] ⟨rfl, rfl, rfl, rfl, rfl, rfl, trivial⟩ (fun f1 => ?_)
  refine wk_then ?_
  replace h := h b21 _ hc g_b21 t_b21.lt; clear hc
  refine wc_seq ?_
  refine wc_joinG (w0 := w0) (fun (H : Hp) => Bk H b15 40 (c40 x12.1 x12.2.1 x12.2.2.1 x12.2.2.2.1) ∧ Bk H b21 40 (c40 x18.1 x18.2.1 x18.2.2.1 x18.2.2.2.1) ∧ True) (fun (s25 : Bool) => [(4, .pointer (some (⟨b15, 0, none⟩ : Addr))), (5, .int .i64 x12.2.2.2.2), (6, .pointer (some (⟨b21, 0, none⟩ : Addr))), (7, .int .i64 x18.2.2.2.2), (8, .bool s25)]) (fun (s25 : Bool) => []) h ?_ ?_
  · rintro s25 w26 f1 h ⟨t_b15, t_b21, _⟩ so; refine wk_then ?_
    refine wc_seq ?_
    refine wc_joinG (w0 := w0) (fun (H : Hp) => Bk H b21 40 (c40 x18.1 x18.2.1 x18.2.2.1 x18.2.2.2.1) ∧ True) (fun (s28 : Bool) => [(6, .pointer (some (⟨b21, 0, none⟩ : Addr))), (7, .int .i64 x18.2.2.2.2), (8, .bool s25), (9, .bool s28)]) (fun (s28 : Bool) => []) h ?_ ?_
    · rintro s28 w29 f1 h ⟨t_b21, _⟩ so; refine wk_then ?_
      refine wc_seq ?_
      refine wc_region ?_
      refine wl_val (at_move rfl) rfl ?_
      refine wl_val (at_move rfl) rfl ?_
      refine bif_ h (fun hb h => ?_) (fun hb h => ?_)
      · refine wl_set (t := 76) (v := .bool true) (congrArg Value.bool hb) ?_; clear hb
        refine wl_on (t := 76) rfl (by decide) rfl ?_
        refine wl_val (at_move rfl) rfl ?_
        refine wl_val (at_pick_t rfl rfl) rfl ?_
        refine wl_val (at_move rfl) rfl ?_
        refine bif_ h (fun hb h => ?_) (fun hb h => ?_)
        · refine wl_set (t := 79) (v := .bool true) (congrArg Value.bool hb) ?_; clear hb
          refine wl_on (t := 79) rfl (by decide) rfl ?_
          refine wl_val (at_move rfl) rfl ?_
          refine wl_on (t := 79) rfl (by decide) rfl ?_
          refine wl_val (at_eql rfl rfl) rfl ?_
          refine wl_val (at_pick_t rfl rfl) rfl ?_
          refine wl_val (at_move rfl) rfl ?_
          refine bif_ h (fun hb h => ?_) (fun hb h => ?_)
          · refine wl_set (t := 83) (v := .bool true) (congrArg Value.bool hb) ?_; clear hb
            refine wl_on (t := 83) rfl (by decide) rfl ?_
            refine wl_val (at_fieldAddr Try.underlying40 rfl rfl sz37 (by decide) rfl) rfl ?_
            refine wl_on (t := 83) rfl (by decide) rfl ?_
            refine wl_val (at_load (v := .int .i8 x18.1) Try.underlying37 rfl rfl ((t_b21.cell 0).trans (by first | rfl | simp [List.getElem?_append, ints_len, bools_len]))) rfl ?_
            refine wl_on (t := 83) rfl (by decide) rfl ?_
            refine wl_val (at_eql rfl rfl) rfl ?_
            refine wl_val (at_pick_t rfl rfl) rfl ?_
            refine wl_val (at_assign rfl) rfl ?_
            refine wl_nil ?_
            refine wk_prune [(0, .bool (x18.1 == 3))] ⟨rfl, trivial⟩ (fun f1 => ?_)
            refine wk_then ?_
            refine wc_ret ?_
            exact wk_ret1 (x := (x18.1 == 3)) rfl (by decide) rfl so h
          · refine wl_set (t := 83) (v := .bool false) (congrArg Value.bool hb) ?_; clear hb
            refine wl_off (t := 83) rfl (by decide) rfl ?_
            refine wl_off (t := 83) rfl (by decide) rfl ?_
            refine wl_off (t := 83) rfl (by decide) rfl ?_
            refine wl_val (at_pick_f rfl rfl) rfl ?_
            refine wl_val (at_assign rfl) rfl ?_
            refine wl_nil ?_
            refine wk_prune [(0, .bool false)] ⟨rfl, trivial⟩ (fun f1 => ?_)
            refine wk_then ?_
            refine wc_ret ?_
            exact wk_ret1 (x := false) rfl (by decide) rfl so h
        · refine wl_set (t := 79) (v := .bool false) (congrArg Value.bool hb) ?_; clear hb
          refine wl_off (t := 79) rfl (by decide) rfl ?_
          refine wl_off (t := 79) rfl (by decide) rfl ?_
          refine wl_val (at_pick_f rfl rfl) rfl ?_
          refine wl_val (at_move rfl) rfl ?_
          refine wl_off (t := 83) rfl (by decide) rfl ?_
          refine wl_off (t := 83) rfl (by decide) rfl ?_
          refine wl_off (t := 83) rfl (by decide) rfl ?_
          refine wl_val (at_pick_f rfl rfl) rfl ?_
          refine wl_val (at_assign rfl) rfl ?_
          refine wl_nil ?_
          refine wk_prune [(0, .bool false)] ⟨rfl, trivial⟩ (fun f1 => ?_)
          refine wk_then ?_
          refine wc_ret ?_
          exact wk_ret1 (x := false) rfl (by decide) rfl so h
      · refine wl_set (t := 76) (v := .bool false) (congrArg Value.bool hb) ?_; clear hb
        refine wl_off (t := 76) rfl (by decide) rfl ?_
        refine wl_val (at_pick_f rfl rfl) rfl ?_
        refine wl_val (at_move rfl) rfl ?_
        refine wl_off (t := 79) rfl (by decide) rfl ?_
        refine wl_off (t := 79) rfl (by decide) rfl ?_
        refine wl_val (at_pick_f rfl rfl) rfl ?_
        refine wl_val (at_move rfl) rfl ?_
        refine wl_off (t := 83) rfl (by decide) rfl ?_
        refine wl_off (t := 83) rfl (by decide) rfl ?_
        refine wl_off (t := 83) rfl (by decide) rfl ?_
        refine wl_val (at_pick_f rfl rfl) rfl ?_
        refine wl_val (at_assign rfl) rfl ?_
        refine wl_nil ?_
        refine wk_prune [(0, .bool false)] ⟨rfl, trivial⟩ (fun f1 => ?_)
        refine wk_then ?_
        refine wc_ret ?_
        exact wk_ret1 (x := false) rfl (by decide) rfl so h
    · intro J27 h hJ27
      refine wc_region ?_
      refine wl_val (at_move rfl) rfl ?_
      refine wl_val (at_eql rfl rfl) rfl ?_
      refine wl_val (at_move rfl) rfl ?_
      refine bif_ h (fun hb h => ?_) (fun hb h => ?_)
      · refine wl_set (t := 59) (v := .bool true) (congrArg Value.bool hb) ?_; clear hb
        refine wl_on (t := 59) rfl (by decide) rfl ?_
        refine wl_val (at_fieldAddr Try.underlying40 rfl rfl sz37 (by decide) rfl) rfl ?_
        refine wl_on (t := 59) rfl (by decide) rfl ?_
        refine wl_val (at_load (v := .int .i8 x12.1) Try.underlying37 rfl rfl ((t_b15.cell 0).trans (by first | rfl | simp [List.getElem?_append, ints_len, bools_len]))) rfl ?_
        refine wl_on (t := 59) rfl (by decide) rfl ?_
        refine wl_val (at_eql rfl rfl) rfl ?_
        refine wl_val (at_pick_t rfl rfl) rfl ?_
        refine wl_val (at_move rfl) rfl ?_
        refine bif_ h (fun hb h => ?_) (fun hb h => ?_)
        · refine wl_set (t := 64) (v := .bool true) (congrArg Value.bool hb) ?_; clear hb
          refine wl_on (t := 64) rfl (by decide) rfl ?_
          refine wl_val (at_fieldAddr Try.underlying40 rfl rfl sz3 (by decide) rfl) rfl ?_
          refine wl_on (t := 64) rfl (by decide) rfl ?_
          refine wl_val (at_load (v := .int .i64 x12.2.1) Try.underlying3 rfl rfl ((t_b15.cell 1).trans (by first | rfl | simp [List.getElem?_append, ints_len, bools_len]))) rfl ?_
          refine wl_on (t := 64) rfl (by decide) rfl ?_
          refine wl_val (at_eql rfl rfl) rfl ?_
          refine wl_val (at_pick_t rfl rfl) rfl ?_
          refine wl_val (at_move rfl) rfl ?_
          refine bif_ h (fun hb h => ?_) (fun hb h => ?_)
          · refine wl_set (t := 69) (v := .bool true) (congrArg Value.bool hb) ?_; clear hb
            refine wl_on (t := 69) rfl (by decide) rfl ?_
            refine wl_val (at_fieldAddr Try.underlying40 rfl rfl sz38 (by decide) rfl) rfl ?_
            refine wl_on (t := 69) rfl (by decide) rfl ?_
            refine wl_val (at_load (v := .slice x12.2.2.2.1.a x12.2.2.2.1.n x12.2.2.2.1.c) Try.underlying38 rfl rfl ((t_b15.cell 3).trans (by first | rfl | simp [List.getElem?_append, ints_len, bools_len]))) rfl ?_
            refine wl_on (t := 69) rfl (by decide) rfl ?_
            refine wl_val (at_lenL Try.underlying38 rfl) rfl ?_
            refine wl_on (t := 69) rfl (by decide) rfl ?_
            refine wl_val (at_eql rfl rfl) rfl ?_
            refine wl_val (at_pick_t rfl rfl) rfl ?_
            refine wl_val (at_assign rfl) rfl ?_
            refine wl_nil ?_
            exact wk_prune [(6, .pointer (some (⟨b21, 0, none⟩ : Addr))), (7, .int .i64 x18.2.2.2.2), (8, .bool s25), (9, .bool ((x12.2.2.2.1.n : Int) == 0))] ⟨rfl, rfl, rfl, rfl, trivial⟩ (fun f1 => hJ27 (((x12.2.2.2.1.n : Int) == 0)) _ f1 h ⟨t_b21, trivial⟩ so)
          · refine wl_set (t := 69) (v := .bool false) (congrArg Value.bool hb) ?_; clear hb
            refine wl_off (t := 69) rfl (by decide) rfl ?_
            refine wl_off (t := 69) rfl (by decide) rfl ?_
            refine wl_off (t := 69) rfl (by decide) rfl ?_
            refine wl_off (t := 69) rfl (by decide) rfl ?_
            refine wl_val (at_pick_f rfl rfl) rfl ?_
            refine wl_val (at_assign rfl) rfl ?_
            refine wl_nil ?_
            exact wk_prune [(6, .pointer (some (⟨b21, 0, none⟩ : Addr))), (7, .int .i64 x18.2.2.2.2), (8, .bool s25), (9, .bool false)] ⟨rfl, rfl, rfl, rfl, trivial⟩ (fun f1 => hJ27 (false) _ f1 h ⟨t_b21, trivial⟩ so)
        · refine wl_set (t := 64) (v := .bool false) (congrArg Value.bool hb) ?_; clear hb
          refine wl_off (t := 64) rfl (by decide) rfl ?_
          refine wl_off (t := 64) rfl (by decide) rfl ?_
          refine wl_off (t := 64) rfl (by decide) rfl ?_
          refine wl_val (at_pick_f rfl rfl) rfl ?_
          refine wl_val (at_move rfl) rfl ?_
          refine wl_off (t := 69) rfl (by decide) rfl ?_
          refine wl_off (t := 69) rfl (by decide) rfl ?_
          refine wl_off (t := 69) rfl (by decide) rfl ?_
          refine wl_off (t := 69) rfl (by decide) rfl ?_
          refine wl_val (at_pick_f rfl rfl) rfl ?_
          refine wl_val (at_assign rfl) rfl ?_
          refine wl_nil ?_
          exact wk_prune [(6, .pointer (some (⟨b21, 0, none⟩ : Addr))), (7, .int .i64 x18.2.2.2.2), (8, .bool s25), (9, .bool false)] ⟨rfl, rfl, rfl, rfl, trivial⟩ (fun f1 => hJ27 (false) _ f1 h ⟨t_b21, trivial⟩ so)
      · refine wl_set (t := 59) (v := .bool false) (congrArg Value.bool hb) ?_; clear hb
        refine wl_off (t := 59) rfl (by decide) rfl ?_
        refine wl_off (t := 59) rfl (by decide) rfl ?_
        refine wl_off (t := 59) rfl (by decide) rfl ?_
        refine wl_val (at_pick_f rfl rfl) rfl ?_
        refine wl_val (at_move rfl) rfl ?_
        refine wl_off (t := 64) rfl (by decide) rfl ?_
        refine wl_off (t := 64) rfl (by decide) rfl ?_
        refine wl_off (t := 64) rfl (by decide) rfl ?_
        refine wl_val (at_pick_f rfl rfl) rfl ?_
        refine wl_val (at_move rfl) rfl ?_
        refine wl_off (t := 69) rfl (by decide) rfl ?_
        refine wl_off (t := 69) rfl (by decide) rfl ?_
        refine wl_off (t := 69) rfl (by decide) rfl ?_
        refine wl_off (t := 69) rfl (by decide) rfl ?_
        refine wl_val (at_pick_f rfl rfl) rfl ?_
        refine wl_val (at_assign rfl) rfl ?_
        refine wl_nil ?_
        exact wk_prune [(6, .pointer (some (⟨b21, 0, none⟩ : Addr))), (7, .int .i64 x18.2.2.2.2), (8, .bool s25), (9, .bool false)] ⟨rfl, rfl, rfl, rfl, trivial⟩ (fun f1 => hJ27 (false) _ f1 h ⟨t_b21, trivial⟩ so)
  · intro J24 h hJ24
    refine wc_region ?_
    refine wl_val (at_move rfl) rfl ?_
    refine wl_val (at_eql rfl rfl) rfl ?_
    refine wl_val (at_move rfl) rfl ?_
    refine bif_ h (fun hb h => ?_) (fun hb h => ?_)
    · refine wl_set (t := 28) (v := .bool true) (congrArg Value.bool hb) ?_; clear hb
      refine wl_on (t := 28) rfl (by decide) rfl ?_
      refine wl_val (at_fieldAddr Try.underlying40 rfl rfl sz37 (by decide) rfl) rfl ?_
      refine wl_on (t := 28) rfl (by decide) rfl ?_
      refine wl_val (at_load (v := .int .i8 x6.1) Try.underlying37 rfl rfl ((t_b9.cell 0).trans (by first | rfl | simp [List.getElem?_append, ints_len, bools_len]))) rfl ?_
      refine wl_on (t := 28) rfl (by decide) rfl ?_
      refine wl_val (at_eql rfl rfl) rfl ?_
      refine wl_val (at_pick_t rfl rfl) rfl ?_
      refine wl_val (at_move rfl) rfl ?_
      refine bif_ h (fun hb h => ?_) (fun hb h => ?_)
      · refine wl_set (t := 33) (v := .bool true) (congrArg Value.bool hb) ?_; clear hb
        refine wl_on (t := 33) rfl (by decide) rfl ?_
        refine wl_val (at_fieldAddr Try.underlying40 rfl rfl sz3 (by decide) rfl) rfl ?_
        refine wl_on (t := 33) rfl (by decide) rfl ?_
        refine wl_val (at_load (v := .int .i64 x6.2.1) Try.underlying3 rfl rfl ((t_b9.cell 1).trans (by first | rfl | simp [List.getElem?_append, ints_len, bools_len]))) rfl ?_
        refine wl_on (t := 33) rfl (by decide) rfl ?_
        refine wl_val (at_eql rfl rfl) rfl ?_
        refine wl_val (at_pick_t rfl rfl) rfl ?_
        refine wl_val (at_move rfl) rfl ?_
        refine bif_ h (fun hb h => ?_) (fun hb h => ?_)
        · refine wl_set (t := 38) (v := .bool true) (congrArg Value.bool hb) ?_; clear hb
          refine wl_on (t := 38) rfl (by decide) rfl ?_
          refine wl_val (at_fieldAddr Try.underlying40 rfl rfl sz3 (by decide) rfl) rfl ?_
          refine wl_on (t := 38) rfl (by decide) rfl ?_
          refine wl_val (at_load (v := .int .i64 x6.2.2.1) Try.underlying3 rfl rfl ((t_b9.cell 2).trans (by first | rfl | simp [List.getElem?_append, ints_len, bools_len]))) rfl ?_
          refine wl_on (t := 38) rfl (by decide) rfl ?_
          refine wl_val (at_eql rfl rfl) rfl ?_
          refine wl_val (at_pick_t rfl rfl) rfl ?_
          refine wl_val (at_move rfl) rfl ?_
          refine bif_ h (fun hb h => ?_) (fun hb h => ?_)
          · refine wl_set (t := 43) (v := .bool true) (congrArg Value.bool hb) ?_; clear hb
            refine wl_on (t := 43) rfl (by decide) rfl ?_
            refine wl_val (at_fieldAddr Try.underlying40 rfl rfl sz38 (by decide) rfl) rfl ?_
            refine wl_on (t := 43) rfl (by decide) rfl ?_
            refine wl_val (at_load (v := .slice x6.2.2.2.1.a x6.2.2.2.1.n x6.2.2.2.1.c) Try.underlying38 rfl rfl ((t_b9.cell 3).trans (by first | rfl | simp [List.getElem?_append, ints_len, bools_len]))) rfl ?_
            refine wl_on (t := 43) rfl (by decide) rfl ?_
            refine wl_val (at_lenL Try.underlying38 rfl) rfl ?_
            refine wl_on (t := 43) rfl (by decide) rfl ?_
            refine wl_val (at_eql rfl rfl) rfl ?_
            refine wl_val (at_pick_t rfl rfl) rfl ?_
            refine wl_val (at_move rfl) rfl ?_
            refine bif_ h (fun hb h => ?_) (fun hb h => ?_)
            · refine wl_set (t := 49) (v := .bool true) (congrArg Value.bool hb) ?_; clear hb
              refine wl_on (t := 49) rfl (by decide) rfl ?_
              refine wl_val (at_fieldAddr Try.underlying40 rfl rfl sz38 (by decide) rfl) rfl ?_
              refine wl_on (t := 49) rfl (by decide) rfl ?_
              refine wl_val (at_load (v := .slice x6.2.2.2.1.a x6.2.2.2.1.n x6.2.2.2.1.c) Try.underlying38 rfl rfl ((t_b9.cell 3).trans (by first | rfl | simp [List.getElem?_append, ints_len, bools_len]))) rfl ?_
              refine wl_on (t := 49) rfl (by decide) rfl ?_
              obtain ⟨q30, q31, p32, q33, h⟩ := h
              refine wl_val (at_ixAddrL Try.underlying38 sz54 (sl_some q33) rfl q30 q31) rfl ?_
              refine wl_on (t := 49) rfl (by decide) rfl ?_
              obtain ⟨x34, q35, h⟩ := h
              refine wl_val (at_loadA (cs := (c54 x34)) Try.underlying54 rfl (by rw [len54]; exact sz54) rfl q35) rfl ?_
              refine wl_on (t := 49) rfl (by decide) rfl ?_
              refine wl_val (at_build (cs := (c54 (mkI (n := 64) [6, 0, 0, 0, 0, 0, 0, 0, 0, 0, 0, 0, 0, 0, 0, 0, 0, 0, 0, 0, 0, 0, 0, 0, 0, 0, 0, 0, 0, 0, 0, 0, 0, 0, 0, 0, 0, 0, 0, 0, 0, 0, 0, 0, 0, 0, 0, 0, 0, 0, 0, 0, 0, 0, 0, 0, 0, 0, 0, 0, 0, 0, 0, 0] (by rfl)))) (ps := [(0, .int .i16 6)]) rfl (build_array (vs := [.int .i16 0, .int .i16 0, .int .i16 0, .int .i16 0, .int .i16 0, .int .i16 0, .int .i16 0, .int .i16 0, .int .i16 0, .int .i16 0, .int .i16 0, .int .i16 0, .int .i16 0, .int .i16 0, .int .i16 0, .int .i16 0, .int .i16 0, .int .i16 0, .int .i16 0, .int .i16 0, .int .i16 0, .int .i16 0, .int .i16 0, .int .i16 0, .int .i16 0, .int .i16 0, .int .i16 0, .int .i16 0, .int .i16 0, .int .i16 0, .int .i16 0, .int .i16 0, .int .i16 0, .int .i16 0, .int .i16 0, .int .i16 0, .int .i16 0, .int .i16 0, .int .i16 0, .int .i16 0, .int .i16 0, .int .i16 0, .int .i16 0, .int .i16 0, .int .i16 0, .int .i16 0, .int .i16 0, .int .i16 0, .int .i16 0, .int .i16 0, .int .i16 0, .int .i16 0, .int .i16 0, .int .i16 0, .int .i16 0, .int .i16 0, .int .i16 0, .int .i16 0, .int .i16 0, .int .i16 0, .int .i16 0, .int .i16 0, .int .i16 0, .int .i16 0]) (cs := (c54 (mkI (n := 64) [6, 0, 0, 0, 0, 0, 0, 0, 0, 0, 0, 0, 0, 0, 0, 0, 0, 0, 0, 0, 0, 0, 0, 0, 0, 0, 0, 0, 0, 0, 0, 0, 0, 0, 0, 0, 0, 0, 0, 0, 0, 0, 0, 0, 0, 0, 0, 0, 0, 0, 0, 0, 0, 0, 0, 0, 0, 0, 0, 0, 0, 0, 0, 0] (by rfl)))) zero54 (by first | rfl | simp [z54, c54, Value.cells, ints_len, bools_len, List.flatMap]) Try.underlying54 sz52 (by first | rfl | simp [z54, c54, Value.cells, ints_len, bools_len]) (by simp [z54, c54, Value.cells, ints_len, bools_len]) (by first | rfl | simp [z54, c54, Value.cells, ints_len, bools_len, List.set, List.flatMap, mkI, mkB, ints, bools]))) rfl ?_
              refine wl_on (t := 49) rfl (by decide) rfl ?_
              refine wl_val (at_eqlA (xs := (c54 x34)) (ys := (c54 (mkI (n := 64) [6, 0, 0, 0, 0, 0, 0, 0, 0, 0, 0, 0, 0, 0, 0, 0, 0, 0, 0, 0, 0, 0, 0, 0, 0, 0, 0, 0, 0, 0, 0, 0, 0, 0, 0, 0, 0, 0, 0, 0, 0, 0, 0, 0, 0, 0, 0, 0, 0, 0, 0, 0, 0, 0, 0, 0, 0, 0, 0, 0, 0, 0, 0, 0] (by rfl)))) rfl rfl (by kernel_rfl) (eqv_ints Try.underlying54 Try.underlying52 sz52)) rfl ?_
              refine wl_val (at_pick_t rfl rfl) rfl ?_
              refine wl_val (at_assign rfl) rfl ?_
              refine wl_nil ?_
              exact wk_prune [(4, .pointer (some (⟨b15, 0, none⟩ : Addr))), (5, .int .i64 x12.2.2.2.2), (6, .pointer (some (⟨b21, 0, none⟩ : Addr))), (7, .int .i64 x18.2.2.2.2), (8, .bool (x34.1 == (mkI (n := 64) [6, 0, 0, 0, 0, 0, 0, 0, 0, 0, 0, 0, 0, 0, 0, 0, 0, 0, 0, 0, 0, 0, 0, 0, 0, 0, 0, 0, 0, 0, 0, 0, 0, 0, 0, 0, 0, 0, 0, 0, 0, 0, 0, 0, 0, 0, 0, 0, 0, 0, 0, 0, 0, 0, 0, 0, 0, 0, 0, 0, 0, 0, 0, 0] (by rfl)).1))] ⟨rfl, rfl, rfl, rfl, rfl, trivial⟩ (fun f1 => hJ24 ((x34.1 == (mkI (n := 64) [6, 0, 0, 0, 0, 0, 0, 0, 0, 0, 0, 0, 0, 0, 0, 0, 0, 0, 0, 0, 0, 0, 0, 0, 0, 0, 0, 0, 0, 0, 0, 0, 0, 0, 0, 0, 0, 0, 0, 0, 0, 0, 0, 0, 0, 0, 0, 0, 0, 0, 0, 0, 0, 0, 0, 0, 0, 0, 0, 0, 0, 0, 0, 0] (by rfl)).1)) _ f1 h ⟨t_b15, t_b21, trivial⟩ so)
            · refine wl_set (t := 49) (v := .bool false) (congrArg Value.bool hb) ?_; clear hb
              refine wl_off (t := 49) rfl (by decide) rfl ?_
              refine wl_off (t := 49) rfl (by decide) rfl ?_
              refine wl_off (t := 49) rfl (by decide) rfl ?_
              refine wl_off (t := 49) rfl (by decide) rfl ?_
              refine wl_off (t := 49) rfl (by decide) rfl ?_
              refine wl_off (t := 49) rfl (by decide) rfl ?_
              refine wl_val (at_pick_f rfl rfl) rfl ?_
              refine wl_val (at_assign rfl) rfl ?_
              refine wl_nil ?_
              exact wk_prune [(4, .pointer (some (⟨b15, 0, none⟩ : Addr))), (5, .int .i64 x12.2.2.2.2), (6, .pointer (some (⟨b21, 0, none⟩ : Addr))), (7, .int .i64 x18.2.2.2.2), (8, .bool false)] ⟨rfl, rfl, rfl, rfl, rfl, trivial⟩ (fun f1 => hJ24 (false) _ f1 h ⟨t_b15, t_b21, trivial⟩ so)
          · refine wl_set (t := 43) (v := .bool false) (congrArg Value.bool hb) ?_; clear hb
            refine wl_off (t := 43) rfl (by decide) rfl ?_
            refine wl_off (t := 43) rfl (by decide) rfl ?_
            refine wl_off (t := 43) rfl (by decide) rfl ?_
            refine wl_off (t := 43) rfl (by decide) rfl ?_
            refine wl_val (at_pick_f rfl rfl) rfl ?_
            refine wl_val (at_move rfl) rfl ?_
            refine wl_off (t := 49) rfl (by decide) rfl ?_
            refine wl_off (t := 49) rfl (by decide) rfl ?_
            refine wl_off (t := 49) rfl (by decide) rfl ?_
            refine wl_off (t := 49) rfl (by decide) rfl ?_
            refine wl_off (t := 49) rfl (by decide) rfl ?_
            refine wl_off (t := 49) rfl (by decide) rfl ?_
            refine wl_val (at_pick_f rfl rfl) rfl ?_
            refine wl_val (at_assign rfl) rfl ?_
            refine wl_nil ?_
            exact wk_prune [(4, .pointer (some (⟨b15, 0, none⟩ : Addr))), (5, .int .i64 x12.2.2.2.2), (6, .pointer (some (⟨b21, 0, none⟩ : Addr))), (7, .int .i64 x18.2.2.2.2), (8, .bool false)] ⟨rfl, rfl, rfl, rfl, rfl, trivial⟩ (fun f1 => hJ24 (false) _ f1 h ⟨t_b15, t_b21, trivial⟩ so)
        · refine wl_set (t := 38) (v := .bool false) (congrArg Value.bool hb) ?_; clear hb
          refine wl_off (t := 38) rfl (by decide) rfl ?_
          refine wl_off (t := 38) rfl (by decide) rfl ?_
          refine wl_off (t := 38) rfl (by decide) rfl ?_
          refine wl_val (at_pick_f rfl rfl) rfl ?_
          refine wl_val (at_move rfl) rfl ?_
          refine wl_off (t := 43) rfl (by decide) rfl ?_
          refine wl_off (t := 43) rfl (by decide) rfl ?_
          refine wl_off (t := 43) rfl (by decide) rfl ?_
          refine wl_off (t := 43) rfl (by decide) rfl ?_
          refine wl_val (at_pick_f rfl rfl) rfl ?_
          refine wl_val (at_move rfl) rfl ?_
          refine wl_off (t := 49) rfl (by decide) rfl ?_
          refine wl_off (t := 49) rfl (by decide) rfl ?_
          refine wl_off (t := 49) rfl (by decide) rfl ?_
          refine wl_off (t := 49) rfl (by decide) rfl ?_
          refine wl_off (t := 49) rfl (by decide) rfl ?_
          refine wl_off (t := 49) rfl (by decide) rfl ?_
          refine wl_val (at_pick_f rfl rfl) rfl ?_
          refine wl_val (at_assign rfl) rfl ?_
          refine wl_nil ?_
          exact wk_prune [(4, .pointer (some (⟨b15, 0, none⟩ : Addr))), (5, .int .i64 x12.2.2.2.2), (6, .pointer (some (⟨b21, 0, none⟩ : Addr))), (7, .int .i64 x18.2.2.2.2), (8, .bool false)] ⟨rfl, rfl, rfl, rfl, rfl, trivial⟩ (fun f1 => hJ24 (false) _ f1 h ⟨t_b15, t_b21, trivial⟩ so)
      · refine wl_set (t := 33) (v := .bool false) (congrArg Value.bool hb) ?_; clear hb
        refine wl_off (t := 33) rfl (by decide) rfl ?_
        refine wl_off (t := 33) rfl (by decide) rfl ?_
        refine wl_off (t := 33) rfl (by decide) rfl ?_
        refine wl_val (at_pick_f rfl rfl) rfl ?_
        refine wl_val (at_move rfl) rfl ?_
        refine wl_off (t := 38) rfl (by decide) rfl ?_
        refine wl_off (t := 38) rfl (by decide) rfl ?_
        refine wl_off (t := 38) rfl (by decide) rfl ?_
        refine wl_val (at_pick_f rfl rfl) rfl ?_
        refine wl_val (at_move rfl) rfl ?_
        refine wl_off (t := 43) rfl (by decide) rfl ?_
        refine wl_off (t := 43) rfl (by decide) rfl ?_
        refine wl_off (t := 43) rfl (by decide) rfl ?_
        refine wl_off (t := 43) rfl (by decide) rfl ?_
        refine wl_val (at_pick_f rfl rfl) rfl ?_
        refine wl_val (at_move rfl) rfl ?_
        refine wl_off (t := 49) rfl (by decide) rfl ?_
        refine wl_off (t := 49) rfl (by decide) rfl ?_
        refine wl_off (t := 49) rfl (by decide) rfl ?_
        refine wl_off (t := 49) rfl (by decide) rfl ?_
        refine wl_off (t := 49) rfl (by decide) rfl ?_
        refine wl_off (t := 49) rfl (by decide) rfl ?_
        refine wl_val (at_pick_f rfl rfl) rfl ?_
        refine wl_val (at_assign rfl) rfl ?_
        refine wl_nil ?_
        exact wk_prune [(4, .pointer (some (⟨b15, 0, none⟩ : Addr))), (5, .int .i64 x12.2.2.2.2), (6, .pointer (some (⟨b21, 0, none⟩ : Addr))), (7, .int .i64 x18.2.2.2.2), (8, .bool false)] ⟨rfl, rfl, rfl, rfl, rfl, trivial⟩ (fun f1 => hJ24 (false) _ f1 h ⟨t_b15, t_b21, trivial⟩ so)
    · refine wl_set (t := 28) (v := .bool false) (congrArg Value.bool hb) ?_; clear hb
      refine wl_off (t := 28) rfl (by decide) rfl ?_
      refine wl_off (t := 28) rfl (by decide) rfl ?_
      refine wl_off (t := 28) rfl (by decide) rfl ?_
      refine wl_val (at_pick_f rfl rfl) rfl ?_
      refine wl_val (at_move rfl) rfl ?_
      refine wl_off (t := 33) rfl (by decide) rfl ?_
      refine wl_off (t := 33) rfl (by decide) rfl ?_
      refine wl_off (t := 33) rfl (by decide) rfl ?_
      refine wl_val (at_pick_f rfl rfl) rfl ?_
      refine wl_val (at_move rfl) rfl ?_
      refine wl_off (t := 38) rfl (by decide) rfl ?_
      refine wl_off (t := 38) rfl (by decide) rfl ?_
      refine wl_off (t := 38) rfl (by decide) rfl ?_
      refine wl_val (at_pick_f rfl rfl) rfl ?_
      refine wl_val (at_move rfl) rfl ?_
      refine wl_off (t := 43) rfl (by decide) rfl ?_
      refine wl_off (t := 43) rfl (by decide) rfl ?_
      refine wl_off (t := 43) rfl (by decide) rfl ?_
      refine wl_off (t := 43) rfl (by decide) rfl ?_
      refine wl_val (at_pick_f rfl rfl) rfl ?_
      refine wl_val (at_move rfl) rfl ?_
      refine wl_off (t := 49) rfl (by decide) rfl ?_
      refine wl_off (t := 49) rfl (by decide) rfl ?_
      refine wl_off (t := 49) rfl (by decide) rfl ?_
      refine wl_off (t := 49) rfl (by decide) rfl ?_
      refine wl_off (t := 49) rfl (by decide) rfl ?_
      refine wl_off (t := 49) rfl (by decide) rfl ?_
      refine wl_val (at_pick_f rfl rfl) rfl ?_
      refine wl_val (at_assign rfl) rfl ?_
      refine wl_nil ?_
      exact wk_prune [(4, .pointer (some (⟨b15, 0, none⟩ : Addr))), (5, .int .i64 x12.2.2.2.2), (6, .pointer (some (⟨b21, 0, none⟩ : Addr))), (7, .int .i64 x18.2.2.2.2), (8, .bool false)] ⟨rfl, rfl, rfl, rfl, rfl, trivial⟩ (fun f1 => hJ24 (false) _ f1 h ⟨t_b15, t_b21, trivial⟩ so)
def mosaiclaw17_large.enc : Bool → Value := fun r => .bool r
def mosaiclaw17_large.s (a0_0 : Int) (a0_1 : Int) (a0_2 : Int) (a0_3 : Sl) (a0_4 : Sl) (a0_5 : Ints 16) (a0_6 : Sl) (a0_7 : Ints 16) (a0_8 : Sl) (a0_9 : Ints 16) (a0_10 : Sl) (a0_11 : Ints 16) (a0_12 : Sl) (a0_13 : Ints 16) (a0_14 : Sl) (a0_15 : Ints 16) (a0_16 : Sl) (a0_17 : Ints 16) (a0_18 : Sl) (a0_19 : Ints 16) (a0_20 : Sl) (a0_21 : Int) (a0_22 : Int) (H0 : Hp) (Q : Bool → Hp → Prop) : Prop :=
  Gn [] H0 (fun (b1 : Nat) (H2 : Hp) => Q (decide ((3000 : Int) < a0_22)) H2)
set_option maxRecDepth 20000 in
set_option maxHeartbeats 4000000 in
theorem mosaiclaw17_large.calls (a0_0 : Int) (a0_1 : Int) (a0_2 : Int) (a0_3 : Sl) (a0_4 : Sl) (a0_5 : Ints 16) (a0_6 : Sl) (a0_7 : Ints 16) (a0_8 : Sl) (a0_9 : Ints 16) (a0_10 : Sl) (a0_11 : Ints 16) (a0_12 : Sl) (a0_13 : Ints 16) (a0_14 : Sl) (a0_15 : Ints 16) (a0_16 : Sl) (a0_17 : Ints 16) (a0_18 : Sl) (a0_19 : Ints 16) (a0_20 : Sl) (a0_21 : Int) (a0_22 : Int) (w0 : World) (Q : Bool → Hp → Prop) (h : mosaiclaw17_large.s a0_0 a0_1 a0_2 a0_3 a0_4 a0_5 a0_6 a0_7 a0_8 a0_9 a0_10 a0_11 a0_12 a0_13 a0_14 a0_15 a0_16 a0_17 a0_18 a0_19 a0_20 a0_21 a0_22 w0.heap Q) :
    Ca Try.prog 12 #[.agg (c32 a0_0 a0_1 a0_2 a0_3 a0_4 a0_5 a0_6 a0_7 a0_8 a0_9 a0_10 a0_11 a0_12 a0_13 a0_14 a0_15 a0_16 a0_17 a0_18 a0_19 a0_20 a0_21 a0_22).toArray] w0 (Rt mosaiclaw17_large.enc Q w0) := by
  refine ca_start (c := _) Try.func12 rfl Try.ntmps12 rfl ?_
  have so : Sm w0 w0 := Sm.refl w0
  unfold mosaiclaw17_large.s at h
  refine wc_prune [(0, .agg (c32 a0_0 a0_1 a0_2 a0_3 a0_4 a0_5 a0_6 a0_7 a0_8 a0_9 a0_10 a0_11 a0_12 a0_13 a0_14 a0_15 a0_16 a0_17 a0_18 a0_19 a0_20 a0_21 a0_22).toArray)] ⟨rfl, trivial⟩ (fun f1 => ?_)
  refine wc_seq ?_
  refine wc_region ?_
  refine wl_newT (T := 32) (cs := (c32 a0_0 a0_1 a0_2 a0_3 a0_4 a0_5 a0_6 a0_7 a0_8 a0_9 a0_10 a0_11 a0_12 a0_13 a0_14 a0_15 a0_16 a0_17 a0_18 a0_19 a0_20 a0_21 a0_22)) (ef_box rfl rfl) rfl so ?_; intro b1 w2 hb_b1 t_b1 k_b1 so
  have g_b1 := Nat.le_of_eq hb_b1.symm
  have hc := k_b1.ch (F := [])
  refine wl_val (at_assign rfl) rfl ?_
  refine wl_nil ?_
  refine wk_prune [(1, .pointer (some (⟨b1, 0, none⟩ : Addr)))] ⟨rfl, trivial⟩ (fun f1 => ?_)
  refine wk_then ?_
  refine wc_seq ?_
  refine wc_region ?_
  refine wl_val (at_fieldAddr Try.underlying32 rfl rfl sz3 (by decide) rfl) rfl ?_
  refine wl_val (at_load (v := .int .i64 a0_22) Try.underlying3 rfl rfl ((t_b1.cell 142).trans (by first | rfl | simp [List.getElem?_append, ints_len, bools_len]))) rfl ?_
  refine wl_val (at_gtr rfl rfl) rfl ?_
  refine wl_val (at_assign rfl) rfl ?_
  refine wl_nil ?_
  refine wk_prune [(2, .bool (decide ((3000 : Int) < a0_22)))] ⟨rfl, trivial⟩ (fun f1 => ?_)
  refine wk_then ?_
  refine wc_ret ?_
  replace h := h b1 _ hc g_b1 t_b1.lt; clear hc
  exact wk_ret1 (x := (decide ((3000 : Int) < a0_22))) rfl (by decide) rfl so h
def mosaiclaw17_same.enc : Bool → Value := fun r => .bool r
def mosaiclaw17_same.s (a0 : Sl) (a1 : Sl) (H0 : Hp) (Q : Bool → Hp → Prop) : Prop :=
  if ((a0.n : Int) != (a1.n : Int)) = true then (Q false H0) else (∃ k1, Fix (fun (rec6 : Int → Hp → Prop) (s3 : Int) (H4 : Hp) => if decide (s3 < (a0.n : Int)) = true then (0 ≤ s3 ∧ s3 < (a0.n : Int) ∧ someA a0.a (fun p9 => ∃ x11 : Ints 64, ldA H4 (p9.add (Int.toNat s3 * 64)) (c54 x11) ∧ (0 ≤ s3 ∧ s3 < (a1.n : Int) ∧ someA a1.a (fun p15 => ∃ x17 : Ints 64, ldA H4 (p15.add (Int.toNat s3 * 64)) (c54 x17) ∧ (if (!(x11.1 == x17.1)) = true then (Q false H4) else (rec6 ((IntKind.wrap .i64 (s3 + 1))) H4)))))) else (Q true H4)) k1 (0) H0)
set_option maxRecDepth 20000 in
set_option maxHeartbeats 4000000 in
theorem mosaiclaw17_same.calls (a0 : Sl) (a1 : Sl) (w0 : World) (Q : Bool → Hp → Prop) (h : mosaiclaw17_same.s a0 a1 w0.heap Q) :
    Ca Try.prog 16 #[.slice a0.a a0.n a0.c, .slice a1.a a1.n a1.c] w0 (Rt mosaiclaw17_same.enc Q w0) := by
  refine ca_start (c := _) Try.func16 rfl Try.ntmps16 rfl ?_
  have so : Sm w0 w0 := Sm.refl w0
  unfold mosaiclaw17_same.s at h
  refine wc_prune [(0, .slice a0.a a0.n a0.c), (1, .slice a1.a a1.n a1.c)] ⟨rfl, rfl, trivial⟩ (fun f1 => ?_)
  refine wc_seq ?_
  refine wc_region ?_
  refine wl_val (at_assign rfl) rfl ?_
  refine wl_nil ?_
  refine wk_prune [(0, .slice a0.a a0.n a0.c), (1, .slice a1.a a1.n a1.c)] ⟨rfl, rfl, trivial⟩ (fun f1 => ?_)
  refine wk_then ?_
  refine wc_seq ?_
  refine wc_seq ?_
  refine wc_region ?_
  refine wl_val (at_move rfl) rfl ?_
  refine wl_val (at_lenL Try.underlying38 rfl) rfl ?_
  refine wl_val (at_move rfl) rfl ?_
  refine wl_val (at_lenL Try.underlying38 rfl) rfl ?_
  refine wl_val (at_neq rfl rfl) rfl ?_
  refine wl_nil ?_
  refine wk_prune [(0, .slice a0.a a0.n a0.c), (1, .slice a1.a a1.n a1.c), (10, .bool ((a0.n : Int) != (a1.n : Int)))] ⟨rfl, rfl, rfl, trivial⟩ (fun f1 => ?_)
  refine wk_then ?_
  refine wc_cond rfl h (fun h => ?_) (fun h => ?_)
  · refine wc_seq ?_
    refine wc_region ?_
    refine wl_val (at_assign rfl) rfl ?_
    refine wl_nil ?_
    refine wk_prune [(4, .bool false)] ⟨rfl, trivial⟩ (fun f1 => ?_)
    refine wk_then ?_
    refine wc_ret ?_
    refine wk_thenR ?_
    exact wk_ret1 (x := false) rfl (by decide) rfl so h
  · refine wc_skip ?_
    refine wk_prune [(0, .slice a0.a a0.n a0.c), (1, .slice a1.a a1.n a1.c)] ⟨rfl, rfl, trivial⟩ (fun f1 => ?_)
    refine wk_then ?_
    refine wc_seq ?_
    refine wc_seq ?_
    refine wc_region ?_
    refine wl_val (at_assign rfl) rfl ?_
    refine wl_nil ?_
    refine wk_prune [(0, .slice a0.a a0.n a0.c), (1, .slice a1.a a1.n a1.c), (5, .int .i64 0)] ⟨rfl, rfl, rfl, trivial⟩ (fun f1 => ?_)
    refine wk_then ?_
    refine wc_block ?_
    obtain ⟨k1, h⟩ := h
    refine wc_loop (fun k a w => ∃ (s3 : Int) (f1 : Nat → Value), a = ac 26 (en f1 [(0, .slice a0.a a0.n a0.c), (1, .slice a1.a a1.n a1.c), (5, .int .i64 s3)]) [] ∧ Sm w0 w ∧ Fix _ k s3 w.heap) k1 ⟨(0), _, ac_again ⟨rfl, rfl, rfl, trivial⟩, so, h⟩ ?_
    rintro k2 a5 w4 ⟨s3, f1, rfl, so, h⟩
    rcases k2 with _ | k2
    · exact h.elim
    replace h := Fix.un h; refine wc_in ?_
    refine wc_seq ?_
    refine wc_seq ?_
    refine wc_region ?_
    refine wl_val (at_move rfl) rfl ?_
    refine wl_val (at_move rfl) rfl ?_
    refine wl_val (at_lenL Try.underlying38 rfl) rfl ?_
    refine wl_val (at_lss rfl rfl) rfl ?_
    refine wl_nil ?_
    refine wk_prune [(0, .slice a0.a a0.n a0.c), (1, .slice a1.a a1.n a1.c), (5, .int .i64 s3), (14, .bool (decide (s3 < (a0.n : Int))))] ⟨rfl, rfl, rfl, rfl, trivial⟩ (fun f1 => ?_)
    refine wk_then ?_
    refine wc_cond rfl h (fun h => ?_) (fun h => ?_)
    · refine wc_skip ?_
      refine wk_prune [(0, .slice a0.a a0.n a0.c), (1, .slice a1.a a1.n a1.c), (5, .int .i64 s3)] ⟨rfl, rfl, rfl, trivial⟩ (fun f1 => ?_)
      refine wk_then ?_
      refine wc_seq ?_
      refine wc_block ?_
      refine wc_seq ?_
      refine wc_draw mixed (by kernel_rfl) so ?_
      refine wq_val (at_move rfl) rfl ?_
      refine wq_val (at_move rfl) rfl ?_
      obtain ⟨q7, q8, p9, q10, h⟩ := h
      refine wq_val (at_ixAddrL Try.underlying38 sz54 (sl_some q10) rfl q7 q8) rfl ?_
      obtain ⟨x11, q12, h⟩ := h
      refine wq_val (at_loadA (cs := (c54 x11)) Try.underlying54 rfl (by rw [len54]; exact sz54) rfl q12) rfl ?_
      refine wq_val (at_move rfl) rfl ?_
      refine wq_val (at_move rfl) rfl ?_
      obtain ⟨q13, q14, p15, q16, h⟩ := h
      refine wq_val (at_ixAddrL Try.underlying38 sz54 (sl_some q16) rfl q13 q14) rfl ?_
      obtain ⟨x17, q18, h⟩ := h
      refine wq_val (at_loadA (cs := (c54 x17)) Try.underlying54 rfl (by rw [len54]; exact sz54) rfl q18) rfl ?_
      refine wq_val (at_neqA (xs := (c54 x11)) (ys := (c54 x17)) rfl rfl (by kernel_rfl) (eqv_ints Try.underlying54 Try.underlying52 sz52)) rfl ?_
      refine wq_nil ?_; intro w19 hw so; rw [← hw] at h; clear hw
      refine wk_prune [(0, .slice a0.a a0.n a0.c), (1, .slice a1.a a1.n a1.c), (5, .int .i64 s3), (25, .bool (!(x11.1 == x17.1)))] ⟨rfl, rfl, rfl, rfl, trivial⟩ (fun f1 => ?_)
      refine wk_then ?_
      refine wc_cond rfl h (fun h => ?_) (fun h => ?_)
      · refine wc_seq ?_
        refine wc_region ?_
        refine wl_val (at_assign rfl) rfl ?_
        refine wl_nil ?_
        refine wk_prune [(4, .bool false)] ⟨rfl, trivial⟩ (fun f1 => ?_)
        refine wk_then ?_
        refine wc_ret ?_
        refine wk_blkR ?_
        refine wk_thenR ?_
        refine wk_thenR ?_
        refine wk_blkR ?_
        refine wk_thenR ?_
        exact wk_ret1 (x := false) rfl (by decide) rfl so h
      · refine wc_skip ?_
        refine wk_blkN ?_
        refine wk_prune [(0, .slice a0.a a0.n a0.c), (1, .slice a1.a a1.n a1.c), (5, .int .i64 s3)] ⟨rfl, rfl, rfl, trivial⟩ (fun f1 => ?_)
        refine wk_then ?_
        refine wc_region ?_
        refine wl_val (at_move rfl) rfl ?_
        refine wl_val (at_add rfl rfl) rfl ?_
        refine wl_val (at_assign rfl) rfl ?_
        refine wl_nil ?_
        exact wk_again ⟨((IntKind.wrap .i64 (s3 + 1))), _, ac_again ⟨rfl, rfl, rfl, trivial⟩, so, h⟩
    · refine wc_exit ?_
      refine wk_thenE ?_
      refine wk_thenE ?_
      refine wk_blkE ?_
      refine wk_prune [] trivial (fun f1 => ?_)
      refine wk_then ?_
      refine wc_seq ?_
      refine wc_region ?_
      refine wl_val (at_assign rfl) rfl ?_
      refine wl_nil ?_
      refine wk_prune [(4, .bool true)] ⟨rfl, trivial⟩ (fun f1 => ?_)
      refine wk_then ?_
      refine wc_ret ?_
      exact wk_ret1 (x := true) rfl (by decide) rfl so h
def mosaiclaw17_written.enc : ByteArray × Bool → Value := fun r => .tuple #[.string r.1, .bool r.2]
def mosaiclaw17_written.s (a0_0 : Int) (a0_1 : Int) (a0_2 : Int) (a0_3 : Sl) (a0_4 : Sl) (a0_5 : Ints 16) (a0_6 : Sl) (a0_7 : Ints 16) (a0_8 : Sl) (a0_9 : Ints 16) (a0_10 : Sl) (a0_11 : Ints 16) (a0_12 : Sl) (a0_13 : Ints 16) (a0_14 : Sl) (a0_15 : Ints 16) (a0_16 : Sl) (a0_17 : Ints 16) (a0_18 : Sl) (a0_19 : Ints 16) (a0_20 : Sl) (a0_21 : Int) (a0_22 : Int) (a1 : Sl) (H0 : Hp) (Q : (ByteArray × Bool) → Hp → Prop) : Prop :=
  Gn [] H0 (fun (b1 : Nat) (H2 : Hp) => Gn [] H2 (fun (b3 : Nat) (H4 : Hp) => Gn [] H4 (fun (b5 : Nat) (H6 : Hp) => Gn [] H6 (fun (b7 : Nat) (H8 : Hp) => bits_New.s H8 (fun x9 H10 => Pv [b1, b3, b5, b7] H8 H10 ∧ (Gn [] H10 (fun (b12 : Nat) (H14 : Hp) => if x9.isNone = true then (Gr [b7, b5] H14 (fun (H16 : Hp) => Q ((⟨#[]⟩ : ByteArray), false) H16)) else (Gn [] H14 (fun (b18 : Nat) (H19 : Hp) => Gn [] H19 (fun (b20 : Nat) (H22 : Hp) => geom_Walk.s a0_0 a0_1 a0_2 a0_3 a0_4 a0_21 a0_22 H22 (fun x23 H24 => Pv [b1, b3, b5, b7, b12, b18, b20] H22 H24 ∧ (Bk H24 b1 32 (c32 a0_0 a0_1 a0_2 a0_3 a0_4 a0_5 a0_6 a0_7 a0_8 a0_9 a0_10 a0_11 a0_12 a0_13 a0_14 a0_15 a0_16 a0_17 a0_18 a0_19 a0_20 a0_21 a0_22) → (Bk H24 b3 38 [.slice a1.a a1.n a1.c] → (Bk H24 b5 9 [.string ByteArray.empty] → (Bk H24 b7 4 [.bool false] → (Bk H24 b12 82 [.pointer x9] → (Bk H24 b18 84 (c84 (zInts 4)) → (Bk H24 b20 3 [.int .i64 0] → (Rg H24 (fun r26 D34 H29 => geom_Walk_1.s (.func (.yield (D34 + 1)) #[] #[]) (fun (x30 : Int × Int × Int × Int × Bool) (H32 : Hp) (K31 : Bool → Hp → Prop) => Lp H32 (D34 + 1) r26 ∧ (Gn [] H32 (fun (b35 : Nat) (H37 : Hp) => Lp H37 (D34 + 1) r26 ∧ Up (putL H37 (D34 + 1) (bsy r26)) (fun H38 => Pv [b35] H37 H38 ∧ (ldI .i64 H38 (⟨b20, 0, none⟩ : Addr) (fun x40 => ldL H38 (⟨b3, 0, none⟩ : Addr) (fun x42 => if decide ((x42.n : Int) ≤ x40) = true then (st H38 (⟨b5, 0, none⟩ : Addr) (.string (⟨#[]⟩ : ByteArray)) (fun H44 => st H44 (⟨b7, 0, none⟩ : Addr) (.bool false) (fun H45 => Lp H45 (D34 + 1) (bsy r26) ∧ K31 false (putL H45 (D34 + 1) (dn r26 .ret))))) else (ldL H38 (⟨b3, 0, none⟩ : Addr) (fun x47 => ldI .i64 H38 (⟨b20, 0, none⟩ : Addr) (fun x49 => 0 ≤ x49 ∧ x49 < (x47.n : Int) ∧ someA x47.a (fun p53 => ∃ x55 : Ints 64, ldA H38 (p53.add (Int.toNat x49 * 64)) (c54 x55) ∧ (0 ≤ x30.1 ∧ x30.1 < (4 : Int) ∧ (ldI .i16 H38 ((⟨b18, 0, none⟩ : Addr).add (Int.toNat x30.1 * 1)) (fun x60 => runs_Symbols.s x55 x60 H38 (fun x62 H63 => Pv [b35] H38 H63 ∧ (ldL H63 (⟨b1, 4, none⟩ : Addr) (fun x65 => 0 ≤ x30.1 ∧ x30.1 < (x65.n : Int) ∧ someA x65.a (fun p69 => ldI .u8 H63 ((p69.add (Int.toNat x30.1 * 3)).add 1) (fun x71 => 0 ≤ x71 ∧ x71 < (4 : Int) ∧ (∃ x75 : Ints 16, ∃ x76 : Sl, ldA H63 ((⟨b1, 5, none⟩ : Addr).add (Int.toNat x71 * 17)) (c29 x75 x76) ∧ (huff_New.s x75 x76 H63 (fun x78 H79 => Pv [b35] H63 H79 ∧ (ldL H79 (⟨b1, 4, none⟩ : Addr) (fun x81 => 0 ≤ x30.1 ∧ x30.1 < (x81.n : Int) ∧ someA x81.a (fun p85 => ldI .u8 H79 ((p85.add (Int.toNat x30.1 * 3)).add 2) (fun x87 => 0 ≤ x87 ∧ x87 < (4 : Int) ∧ (∃ x91 : Ints 16, ∃ x92 : Sl, ldA H79 ((⟨b1, 73, none⟩ : Addr).add (Int.toNat x87 * 17)) (c29 x91 x92) ∧ (huff_New.s x91 x92 H79 (fun x94 H95 => Pv [b35] H79 H95 ∧ (Join (fun (s98 : Bool) (H99 : Hp) => if s98 = true then (st H99 (⟨b5, 0, none⟩ : Addr) (.string (⟨#[]⟩ : ByteArray)) (fun H100 => st H100 (⟨b7, 0, none⟩ : Addr) (.bool false) (fun H101 => Lp H101 (D34 + 1) (bsy r26) ∧ K31 false (putL H101 (D34 + 1) (dn r26 .ret))))) else (∃ k102, Fix (fun (rec107 : Int → Hp → Prop) (s104 : Int) (H105 : Hp) => if decide (s104 < (x62.1.n : Int)) = true then (Join (fun (s109 : (Option Addr)) (H110 : Hp) => 0 ≤ s104 ∧ s104 < (x62.1.n : Int) ∧ someA x62.1.a (fun p114 => ldP H110 (⟨b12, 0, none⟩ : Addr) (fun x116 => ldI .u8 H110 ((p114.add (Int.toNat s104 * 3)).add 0) (fun x118 => huff_Table_Write.s s109 x116 x118 H110 (fun x120 H121 => Pv [b35] H110 H121 ∧ (0 ≤ s104 ∧ s104 < (x62.1.n : Int) ∧ (0 ≤ s104 ∧ s104 < (x62.1.n : Int) ∧ (ldP H121 (⟨b12, 0, none⟩ : Addr) (fun x128 => ldI .u16 H121 ((p114.add (Int.toNat s104 * 3)).add 2) (fun x130 => ldI .i8 H121 ((p114.add (Int.toNat s104 * 3)).add 1) (fun x132 => bits_Sink_Put.s x128 (IntKind.wrap .i64 x130) (IntKind.wrap .i64 x132) H121 (fun x134 H135 => Pv [b35] H121 H135 ∧ (Join (fun (s138 : Bool) (H139 : Hp) => if s138 = true then (st H139 (⟨b5, 0, none⟩ : Addr) (.string (⟨#[]⟩ : ByteArray)) (fun H140 => st H140 (⟨b7, 0, none⟩ : Addr) (.bool false) (fun H141 => Lp H141 (D34 + 1) (bsy r26) ∧ K31 false (putL H141 (D34 + 1) (dn r26 .ret))))) else (rec107 ((IntKind.wrap .i64 (s104 + 1))) H139)) (fun (J137 : Bool → Hp → Prop) => if (!x120) = true then (J137 (true) H135) else (J137 ((!x134)) H135))))))))))))))) (fun (J108 : (Option Addr) → Hp → Prop) => if (s104 == 0) = true then (J108 (x78.1) H105) else (J108 (x94.1) H105))) else (ldL H105 (⟨b3, 0, none⟩ : Addr) (fun x144 => ldI .i64 H105 (⟨b20, 0, none⟩ : Addr) (fun x146 => 0 ≤ x146 ∧ x146 < (x144.n : Int) ∧ someA x144.a (fun p150 => 0 ≤ (0 : Int) ∧ (0 : Int) < (64 : Int) ∧ (ldI .i16 H105 ((p150.add (Int.toNat x146 * 64)).add (Int.toNat 0 * 1)) (fun x154 => 0 ≤ x30.1 ∧ x30.1 < (4 : Int) ∧ (st H105 ((⟨b18, 0, none⟩ : Addr).add (Int.toNat x30.1 * 1)) (.int .i16 x154) (fun H158 => Pv [b35] H105 H158 ∧ (ldI .i64 H158 (⟨b20, 0, none⟩ : Addr) (fun x160 => st H158 (⟨b20, 0, none⟩ : Addr) (.int .i64 (IntKind.wrap .i64 (x160 + 1))) (fun H162 => Lp H162 (D34 + 1) (bsy r26) ∧ K31 true (putL H162 (D34 + 1) r26))))))))))))) k102 (0) H99)) (fun (J97 : Bool → Hp → Prop) => if (x62.2 != 0) = true then (J97 (true) H95) else (if (x78.2 != 0) = true then (J97 (true) H95) else (J97 ((x94.2 != 0)) H95))))))))))))))))))))))))))))))))) x23.1 x23.2.1 x23.2.2.1 x23.2.2.2.1 x23.2.2.2.2 H29 (fun _ H33 => (Lp H33 (D34 + 1) r26 ∧ Up (putL H33 (D34 + 1) (exh r26)) (fun H164 => ldP H164 (⟨b12, 0, none⟩ : Addr) (fun x165 => bits_Sink_Pad.s x165 H164 (fun _ H168 => ldP H168 (⟨b12, 0, none⟩ : Addr) (fun x170 => ldI .i64 H168 (⟨b20, 0, none⟩ : Addr) (fun x172 => ldL H168 (⟨b3, 0, none⟩ : Addr) (fun x174 => bits_Sink_Text.s x170 H168 (fun x176 H177 => cellAt H177 (⟨b3, 0, none⟩ : Addr) = some (.slice x174.a x174.n x174.c) ∧ cellAt H177 (⟨b20, 0, none⟩ : Addr) = some (.int .i64 x172) ∧ (st H177 (⟨b5, 0, none⟩ : Addr) (.string x176) (fun H180 => cellAt H180 (⟨b3, 0, none⟩ : Addr) = some (.slice x174.a x174.n x174.c) ∧ cellAt H180 (⟨b20, 0, none⟩ : Addr) = some (.int .i64 x172) ∧ (st H180 (⟨b7, 0, none⟩ : Addr) (.bool (x172 == (x174.n : Int))) (fun H183 => tkD (D34 :: []) H183 (fun H184 => ldS H184 (⟨b5, 0, none⟩ : Addr) (fun x186 => ldB H184 (⟨b7, 0, none⟩ : Addr) (fun x188 => Q (x186, x188) H184))))))))))))))) ∨ (Lp H33 (D34 + 1) (dn r26 .ret) ∧ Up (putL H33 (D34 + 1) (exh (dn r26 .ret))) (fun H189 => tkD (D34 :: []) H189 (fun H190 => ldS H190 (⟨b5, 0, none⟩ : Addr) (fun x192 => ldB H190 (⟨b7, 0, none⟩ : Addr) (fun x194 => Q (x192, x194) H190))))))))))))))))))))))))))
set_option maxRecDepth 20000 in
set_option maxHeartbeats 4000000 in
theorem mosaiclaw17_written.calls (a0_0 : Int) (a0_1 : Int) (a0_2 : Int) (a0_3 : Sl) (a0_4 : Sl) (a0_5 : Ints 16) (a0_6 : Sl) (a0_7 : Ints 16) (a0_8 : Sl) (a0_9 : Ints 16) (a0_10 : Sl) (a0_11 : Ints 16) (a0_12 : Sl) (a0_13 : Ints 16) (a0_14 : Sl) (a0_15 : Ints 16) (a0_16 : Sl) (a0_17 : Ints 16) (a0_18 : Sl) (a0_19 : Ints 16) (a0_20 : Sl) (a0_21 : Int) (a0_22 : Int) (a1 : Sl) (w0 : World) (Q : (ByteArray × Bool) → Hp → Prop) (h : mosaiclaw17_written.s a0_0 a0_1 a0_2 a0_3 a0_4 a0_5 a0_6 a0_7 a0_8 a0_9 a0_10 a0_11 a0_12 a0_13 a0_14 a0_15 a0_16 a0_17 a0_18 a0_19 a0_20 a0_21 a0_22 a1 w0.heap Q) :
    Ca Try.prog 18 #[.agg (c32 a0_0 a0_1 a0_2 a0_3 a0_4 a0_5 a0_6 a0_7 a0_8 a0_9 a0_10 a0_11 a0_12 a0_13 a0_14 a0_15 a0_16 a0_17 a0_18 a0_19 a0_20 a0_21 a0_22).toArray, .slice a1.a a1.n a1.c] w0 (Rt mosaiclaw17_written.enc Q w0) := by
  refine ca_startM (c := _) Try.func18 rfl Try.ntmps18 rfl ?_
  have so : Sm w0 w0 := Sm.refl w0
  unfold mosaiclaw17_written.s at h
  refine wc_prune [(0, .agg (c32 a0_0 a0_1 a0_2 a0_3 a0_4 a0_5 a0_6 a0_7 a0_8 a0_9 a0_10 a0_11 a0_12 a0_13 a0_14 a0_15 a0_16 a0_17 a0_18 a0_19 a0_20 a0_21 a0_22).toArray), (1, .slice a1.a a1.n a1.c)] ⟨rfl, rfl, trivial⟩ (fun f1 => ?_)
  refine wc_seq ?_
  refine wc_region ?_
  refine wl_newT (T := 32) (cs := (c32 a0_0 a0_1 a0_2 a0_3 a0_4 a0_5 a0_6 a0_7 a0_8 a0_9 a0_10 a0_11 a0_12 a0_13 a0_14 a0_15 a0_16 a0_17 a0_18 a0_19 a0_20 a0_21 a0_22)) (ef_box rfl rfl) rfl so ?_; intro b1 w2 hb_b1 t_b1 k_b1 so
  have g_b1 := Nat.le_of_eq hb_b1.symm
  have hc := k_b1.ch (F := [])
  replace h := h b1 _ hc g_b1 t_b1.lt; clear hc
  refine wl_newT (T := 38) (cs := [.slice a1.a a1.n a1.c]) (ef_box rfl rfl) rfl so ?_; intro b3 w4 hb_b3 t_b3 k_b3 so
  have g_b3 := Nat.le_of_eq hb_b3.symm
  have hc := k_b3.ch (F := [])
  have n_b1_b3 : b1 ≠ b3 := fun e => by have := t_b1.lt; omega
  replace t_b1 := t_b1.keep k_b3
  replace h := h b3 _ hc g_b3 t_b3.lt; clear hc
  refine wl_newT (T := 9) (cs := [.string ByteArray.empty]) (ef_alloc zero9 rfl) rfl so ?_; intro b5 w6 hb_b5 t_b5 k_b5 so
  have g_b5 := Nat.le_of_eq hb_b5.symm
  have hc := k_b5.ch (F := [])
  have n_b1_b5 : b1 ≠ b5 := fun e => by have := t_b1.lt; omega
  replace t_b1 := t_b1.keep k_b5
  have n_b3_b5 : b3 ≠ b5 := fun e => by have := t_b3.lt; omega
  replace t_b3 := t_b3.keep k_b5
  replace h := h b5 _ hc g_b5 t_b5.lt; clear hc
  refine wl_newT (T := 4) (cs := [.bool false]) (ef_alloc zero4 rfl) rfl so ?_; intro b7 w8 hb_b7 t_b7 k_b7 so
  have g_b7 := Nat.le_of_eq hb_b7.symm
  have hc := k_b7.ch (F := [])
  have n_b1_b7 : b1 ≠ b7 := fun e => by have := t_b1.lt; omega
  replace t_b1 := t_b1.keep k_b7
  have n_b3_b7 : b3 ≠ b7 := fun e => by have := t_b3.lt; omega
  replace t_b3 := t_b3.keep k_b7
  have n_b5_b7 : b5 ≠ b7 := fun e => by have := t_b5.lt; omega
  replace t_b5 := t_b5.keep k_b7
  refine wl_nil ?_
  refine wk_prune [(2, .pointer (some (⟨b1, 0, none⟩ : Addr))), (3, .pointer (some (⟨b3, 0, none⟩ : Addr))), (4, .pointer (some (⟨b5, 0, none⟩ : Addr))), (5, .pointer (some (⟨b7, 0, none⟩ : Addr)))] ⟨rfl, rfl, rfl, rfl, trivial⟩ (fun f1 => ?_)
  refine wk_then ?_
  refine wc_seq ?_
  refine wc_region ?_
  replace h := h b7 _ hc g_b7 t_b7.lt; clear hc
  refine wl_callF (bits_New.calls _ _ h) enter31 rfl trivial so ?_; intro x9 w10 h so
  obtain ⟨q11, h⟩ := h
  replace t_b1 := pv_bk q11 t_b1 (by simp)
  replace t_b3 := pv_bk q11 t_b3 (by simp)
  replace t_b5 := pv_bk q11 t_b5 (by simp)
  replace t_b7 := pv_bk q11 t_b7 (by simp)
  refine wl_newT (T := 82) (cs := [.pointer none]) (ef_alloc zero82 rfl) rfl so ?_; intro b12 w13 hb_b12 t_b12 k_b12 so
  have g_b12 := Nat.le_of_eq hb_b12.symm
  have hc := k_b12.ch (F := [])
  have n_b1_b12 : b1 ≠ b12 := fun e => by have := t_b1.lt; omega
  replace t_b1 := t_b1.keep k_b12
  have n_b3_b12 : b3 ≠ b12 := fun e => by have := t_b3.lt; omega
  replace t_b3 := t_b3.keep k_b12
  have n_b5_b12 : b5 ≠ b12 := fun e => by have := t_b5.lt; omega
  replace t_b5 := t_b5.keep k_b12
  have n_b7_b12 : b7 ≠ b12 := fun e => by have := t_b7.lt; omega
  replace t_b7 := t_b7.keep k_b12
  refine wl_stT (v := .pointer x9) (cs' := [.pointer x9]) t_b12 (by first | decide | simp [ints_len, bools_len]) (by first | rfl | simp [List.set_append, ints_len, bools_len]) rfl so (fun q1 q2 => ef_store (sz := sz82) rfl rfl rfl q1 q2) ?_; intro w14 t_b12 s_w14 so
  replace t_b1 := t_b1.same s_w14 (n_b1_b12)
  replace t_b3 := t_b3.same s_w14 (n_b3_b12)
  replace t_b5 := t_b5.same s_w14 (n_b5_b12)
  replace t_b7 := t_b7.same s_w14 (n_b7_b12)
  replace hc := ch_same hc s_w14 (.inr g_b12)
  refine wl_nil ?_
  refine wk_prune [(2, .pointer (some (⟨b1, 0, none⟩ : Addr))), (3, .pointer (some (⟨b3, 0, none⟩ : Addr))), (4, .pointer (some (⟨b5, 0, none⟩ : Addr))), (5, .pointer (some (⟨b7, 0, none⟩ : Addr))), (6, .pointer (some (⟨b12, 0, none⟩ : Addr)))] ⟨rfl, rfl, rfl, rfl, rfl, trivial⟩ (fun f1 => ?_)
  refine wk_then ?_
  refine wc_seq ?_
  refine wc_seq ?_
  refine wc_region ?_
  refine wl_val (at_load (v := .pointer x9) Try.underlying82 rfl rfl ((t_b12.cell 0).trans (by first | rfl | simp [List.getElem?_append, ints_len, bools_len]))) rfl ?_
  refine wl_val (at_eqlP Try.underlying82 rfl rfl) rfl ?_
  refine wl_nil ?_
  refine wk_prune [(2, .pointer (some (⟨b1, 0, none⟩ : Addr))), (3, .pointer (some (⟨b3, 0, none⟩ : Addr))), (4, .pointer (some (⟨b5, 0, none⟩ : Addr))), (5, .pointer (some (⟨b7, 0, none⟩ : Addr))), (6, .pointer (some (⟨b12, 0, none⟩ : Addr))), (23, .bool x9.isNone)] ⟨rfl, rfl, rfl, rfl, rfl, rfl, trivial⟩ (fun f1 => ?_)
  refine wk_then ?_
  replace h := h b12 _ hc g_b12 t_b12.lt; clear hc
  refine wc_cond rfl h (fun h => ?_) (fun h => ?_)
  · refine wc_seq ?_
    refine wc_region ?_
    refine wl_stT (v := .string (⟨#[]⟩ : ByteArray)) (cs' := [.string (⟨#[]⟩ : ByteArray)]) t_b5 (by first | decide | simp [ints_len, bools_len]) (by first | rfl | simp [List.set_append, ints_len, bools_len]) rfl so (fun q1 q2 => ef_store (sz := sz9) rfl rfl rfl q1 q2) ?_; intro w15 t_b5 s_w15 so
    replace t_b1 := t_b1.same s_w15 (n_b1_b5)
    replace t_b3 := t_b3.same s_w15 (n_b3_b5)
    replace t_b7 := t_b7.same s_w15 (Ne.symm n_b5_b7)
    replace t_b12 := t_b12.same s_w15 (Ne.symm n_b5_b12)
    have hc := s_w15.ch
    refine wl_stT (v := .bool false) (cs' := [.bool false]) t_b7 (by first | decide | simp [ints_len, bools_len]) (by first | rfl | simp [List.set_append, ints_len, bools_len]) rfl so (fun q1 q2 => ef_store (sz := sz4) rfl rfl rfl q1 q2) ?_; intro w16 t_b7 s_w16 so
    replace t_b1 := t_b1.same s_w16 (n_b1_b7)
    replace t_b3 := t_b3.same s_w16 (n_b3_b7)
    replace t_b5 := t_b5.same s_w16 (n_b5_b7)
    replace t_b12 := t_b12.same s_w16 (Ne.symm n_b7_b12)
    replace hc := ch_more hc s_w16
    refine wl_nil ?_
    refine wk_prune [(4, .pointer (some (⟨b5, 0, none⟩ : Addr))), (5, .pointer (some (⟨b7, 0, none⟩ : Addr)))] ⟨rfl, rfl, trivial⟩ (fun f1 => ?_)
    refine wk_then ?_
    refine wc_ret ?_
    refine wk_thenR ?_
    replace h := h _ hc; clear hc
    refine wk_tk (K := fun H => H = w16.heap) (Ds := []) rfl so ?_; intro w17 hw so; rw [← hw] at h t_b5 t_b7; clear hw
    exact wk_retR2 (x := ((⟨#[]⟩ : ByteArray), false)) rfl ⟨by decide, _, rfl, loadVar_one Try.underlying9 rfl ((t_b5.cell 0).trans (by first | rfl | simp [List.getElem?_append, ints_len, bools_len]))⟩ ⟨by decide, _, rfl, loadVar_one Try.underlying4 rfl ((t_b7.cell 0).trans (by first | rfl | simp [List.getElem?_append, ints_len, bools_len]))⟩ rfl so h
  · refine wc_skip ?_
    refine wk_prune [(2, .pointer (some (⟨b1, 0, none⟩ : Addr))), (3, .pointer (some (⟨b3, 0, none⟩ : Addr))), (4, .pointer (some (⟨b5, 0, none⟩ : Addr))), (5, .pointer (some (⟨b7, 0, none⟩ : Addr))), (6, .pointer (some (⟨b12, 0, none⟩ : Addr)))] ⟨rfl, rfl, rfl, rfl, rfl, trivial⟩ (fun f1 => ?_)
    refine wk_then ?_
    refine wc_seq ?_
    refine wc_region ?_
    refine wl_newT (T := 84) (cs := (c84 (zInts 4))) (ef_alloc zero84 rfl) rfl so ?_; intro b18 w19 hb_b18 t_b18 k_b18 so
    have g_b18 := Nat.le_of_eq hb_b18.symm
    have hc := k_b18.ch (F := [])
    have n_b1_b18 : b1 ≠ b18 := fun e => by have := t_b1.lt; omega
    replace t_b1 := t_b1.keep k_b18
    have n_b3_b18 : b3 ≠ b18 := fun e => by have := t_b3.lt; omega
    replace t_b3 := t_b3.keep k_b18
    have n_b5_b18 : b5 ≠ b18 := fun e => by have := t_b5.lt; omega
    replace t_b5 := t_b5.keep k_b18
    have n_b7_b18 : b7 ≠ b18 := fun e => by have := t_b7.lt; omega
    replace t_b7 := t_b7.keep k_b18
    have n_b12_b18 : b12 ≠ b18 := fun e => by have := t_b12.lt; omega
    replace t_b12 := t_b12.keep k_b18
    refine wl_nil ?_
    refine wk_prune [(2, .pointer (some (⟨b1, 0, none⟩ : Addr))), (3, .pointer (some (⟨b3, 0, none⟩ : Addr))), (4, .pointer (some (⟨b5, 0, none⟩ : Addr))), (5, .pointer (some (⟨b7, 0, none⟩ : Addr))), (6, .pointer (some (⟨b12, 0, none⟩ : Addr))), (7, .pointer (some (⟨b18, 0, none⟩ : Addr)))] ⟨rfl, rfl, rfl, rfl, rfl, rfl, trivial⟩ (fun f1 => ?_)
    refine wk_then ?_
    refine wc_seq ?_
    refine wc_region ?_
    replace h := h b18 _ hc g_b18 t_b18.lt; clear hc
    refine wl_newT (T := 3) (cs := [.int .i64 0]) (ef_alloc zero3 rfl) rfl so ?_; intro b20 w21 hb_b20 t_b20 k_b20 so
    have g_b20 := Nat.le_of_eq hb_b20.symm
    have hc := k_b20.ch (F := [])
    have n_b1_b20 : b1 ≠ b20 := fun e => by have := t_b1.lt; omega
    replace t_b1 := t_b1.keep k_b20
    have n_b3_b20 : b3 ≠ b20 := fun e => by have := t_b3.lt; omega
    replace t_b3 := t_b3.keep k_b20
    have n_b5_b20 : b5 ≠ b20 := fun e => by have := t_b5.lt; omega
    replace t_b5 := t_b5.keep k_b20
    have n_b7_b20 : b7 ≠ b20 := fun e => by have := t_b7.lt; omega
    replace t_b7 := t_b7.keep k_b20
    have n_b12_b20 : b12 ≠ b20 := fun e => by have := t_b12.lt; omega
    replace t_b12 := t_b12.keep k_b20
    have n_b18_b20 : b18 ≠ b20 := fun e => by have := t_b18.lt; omega
    replace t_b18 := t_b18.keep k_b20
    refine wl_stT (v := .int .i64 0) (cs' := [.int .i64 0]) t_b20 (by first | decide | simp [ints_len, bools_len]) (by first | rfl | simp [List.set_append, ints_len, bools_len]) rfl so (fun q1 q2 => ef_store (sz := sz3) rfl rfl rfl q1 q2) ?_; intro w22 t_b20 s_w22 so
    replace t_b1 := t_b1.same s_w22 (n_b1_b20)
    replace t_b3 := t_b3.same s_w22 (n_b3_b20)
    replace t_b5 := t_b5.same s_w22 (n_b5_b20)
    replace t_b7 := t_b7.same s_w22 (n_b7_b20)
    replace t_b12 := t_b12.same s_w22 (n_b12_b20)
    replace t_b18 := t_b18.same s_w22 (n_b18_b20)
    replace hc := ch_same hc s_w22 (.inr g_b20)
    refine wl_nil ?_
    refine wk_prune [(2, .pointer (some (⟨b1, 0, none⟩ : Addr))), (3, .pointer (some (⟨b3, 0, none⟩ : Addr))), (4, .pointer (some (⟨b5, 0, none⟩ : Addr))), (5, .pointer (some (⟨b7, 0, none⟩ : Addr))), (6, .pointer (some (⟨b12, 0, none⟩ : Addr))), (7, .pointer (some (⟨b18, 0, none⟩ : Addr))), (8, .pointer (some (⟨b20, 0, none⟩ : Addr)))] ⟨rfl, rfl, rfl, rfl, rfl, rfl, rfl, trivial⟩ (fun f1 => ?_)
    refine wk_then ?_
    refine wc_seq ?_
    refine wc_region ?_
    refine wl_val (at_fieldAddr Try.underlying32 rfl rfl sz24 (by decide) rfl) rfl ?_
    refine wl_val (at_loadA (cs := (c24 a0_0 a0_1 a0_2 a0_3)) Try.underlying24 rfl (by rw [len24]; exact sz24) rfl (ldA_sub (pre := []) (sub := (c24 a0_0 a0_1 a0_2 a0_3)) (post := ([.slice a0_4.a a0_4.n a0_4.c] ++ (ints .u8 a0_5.1) ++ [.slice a0_6.a a0_6.n a0_6.c] ++ (ints .u8 a0_7.1) ++ [.slice a0_8.a a0_8.n a0_8.c] ++ (ints .u8 a0_9.1) ++ [.slice a0_10.a a0_10.n a0_10.c] ++ (ints .u8 a0_11.1) ++ [.slice a0_12.a a0_12.n a0_12.c] ++ (ints .u8 a0_13.1) ++ [.slice a0_14.a a0_14.n a0_14.c] ++ (ints .u8 a0_15.1) ++ [.slice a0_16.a a0_16.n a0_16.c] ++ (ints .u8 a0_17.1) ++ [.slice a0_18.a a0_18.n a0_18.c] ++ (ints .u8 a0_19.1) ++ [.slice a0_20.a a0_20.n a0_20.c, .int .i64 a0_21, .int .i64 a0_22])) (by first | exact t_b1 | (have q := t_b1; simp only [List.append_assoc, List.cons_append, List.nil_append, List.append_nil] at q ⊢; exact q)) (by first | rfl | simp [ints_len, bools_len]))) rfl ?_
    refine wl_val (at_fieldAddr Try.underlying32 rfl rfl sz25 (by decide) rfl) rfl ?_
    refine wl_val (at_load (v := .slice a0_4.a a0_4.n a0_4.c) Try.underlying25 rfl rfl ((t_b1.cell 4).trans (by first | rfl | simp [List.getElem?_append, ints_len, bools_len]))) rfl ?_
    refine wl_val (at_fieldAddr Try.underlying32 rfl rfl sz3 (by decide) rfl) rfl ?_
    refine wl_val (at_load (v := .int .i64 a0_21) Try.underlying3 rfl rfl ((t_b1.cell 141).trans (by first | rfl | simp [List.getElem?_append, ints_len, bools_len]))) rfl ?_
    refine wl_val (at_fieldAddr Try.underlying32 rfl rfl sz3 (by decide) rfl) rfl ?_
    refine wl_val (at_load (v := .int .i64 a0_22) Try.underlying3 rfl rfl ((t_b1.cell 142).trans (by first | rfl | simp [List.getElem?_append, ints_len, bools_len]))) rfl ?_
    replace h := h b20 _ hc g_b20 t_b20.lt; clear hc
    refine wl_callF (geom_Walk.calls _ _ _ _ _ _ _ _ _ h) enter17 rfl trivial so ?_; intro x23 w24 h so
    obtain ⟨q25, h⟩ := h
    replace t_b1 := pv_bk q25 t_b1 (by simp)
    replace t_b3 := pv_bk q25 t_b3 (by simp)
    replace t_b5 := pv_bk q25 t_b5 (by simp)
    replace t_b7 := pv_bk q25 t_b7 (by simp)
    replace t_b12 := pv_bk q25 t_b12 (by simp)
    replace t_b18 := pv_bk q25 t_b18 (by simp)
    replace t_b20 := pv_bk q25 t_b20 (by simp)
    refine wl_val (at_assign rfl) rfl ?_
    refine wl_nil ?_
    refine wk_prune [(2, .pointer (some (⟨b1, 0, none⟩ : Addr))), (3, .pointer (some (⟨b3, 0, none⟩ : Addr))), (4, .pointer (some (⟨b5, 0, none⟩ : Addr))), (5, .pointer (some (⟨b7, 0, none⟩ : Addr))), (6, .pointer (some (⟨b12, 0, none⟩ : Addr))), (7, .pointer (some (⟨b18, 0, none⟩ : Addr))), (8, .pointer (some (⟨b20, 0, none⟩ : Addr))), (9, .func (.func 29) #[] #[.pointer (some x23.1), .pointer (some x23.2.1), .pointer (some x23.2.2.1), .pointer (some x23.2.2.2.1), .pointer (some x23.2.2.2.2)])] ⟨rfl, rfl, rfl, rfl, rfl, rfl, rfl, rfl, trivial⟩ (fun f1 => ?_)
    refine wk_then ?_
    refine wc_seq ?_
    refine wc_seq ?_
    refine wc_region ?_
    refine wl_val (at_move rfl) rfl ?_
    refine wl_val (at_eqlNF (v := .func (.func 29) #[] #[.pointer (some x23.1), .pointer (some x23.2.1), .pointer (some x23.2.2.1), .pointer (some x23.2.2.2.1), .pointer (some x23.2.2.2.2)]) Try.underlying50 rfl rfl rfl) rfl ?_
    refine wl_nil ?_
    refine wk_prune [(2, .pointer (some (⟨b1, 0, none⟩ : Addr))), (3, .pointer (some (⟨b3, 0, none⟩ : Addr))), (4, .pointer (some (⟨b5, 0, none⟩ : Addr))), (5, .pointer (some (⟨b7, 0, none⟩ : Addr))), (6, .pointer (some (⟨b12, 0, none⟩ : Addr))), (7, .pointer (some (⟨b18, 0, none⟩ : Addr))), (8, .pointer (some (⟨b20, 0, none⟩ : Addr))), (9, .func (.func 29) #[] #[.pointer (some x23.1), .pointer (some x23.2.1), .pointer (some x23.2.2.1), .pointer (some x23.2.2.2.1), .pointer (some x23.2.2.2.2)]), (34, .bool false)] ⟨rfl, rfl, rfl, rfl, rfl, rfl, rfl, rfl, rfl, trivial⟩ (fun f1 => ?_)
    refine wk_then ?_
    refine wc_cond_f rfl ?_
    refine wc_skip ?_
    refine wk_prune [(2, .pointer (some (⟨b1, 0, none⟩ : Addr))), (3, .pointer (some (⟨b3, 0, none⟩ : Addr))), (4, .pointer (some (⟨b5, 0, none⟩ : Addr))), (5, .pointer (some (⟨b7, 0, none⟩ : Addr))), (6, .pointer (some (⟨b12, 0, none⟩ : Addr))), (7, .pointer (some (⟨b18, 0, none⟩ : Addr))), (8, .pointer (some (⟨b20, 0, none⟩ : Addr))), (9, .func (.func 29) #[] #[.pointer (some x23.1), .pointer (some x23.2.1), .pointer (some x23.2.2.1), .pointer (some x23.2.2.2.1), .pointer (some x23.2.2.2.2)])] ⟨rfl, rfl, rfl, rfl, rfl, rfl, rfl, rfl, trivial⟩ (fun f1 => ?_)
    refine wk_then ?_
    refine wc_seq ?_
    refine wc_seq ?_
    refine wc_region ?_
    refine wl_val (at_move rfl) rfl ?_
    refine wl_nil ?_
    refine wk_prune [(2, .pointer (some (⟨b1, 0, none⟩ : Addr))), (3, .pointer (some (⟨b3, 0, none⟩ : Addr))), (4, .pointer (some (⟨b5, 0, none⟩ : Addr))), (5, .pointer (some (⟨b7, 0, none⟩ : Addr))), (6, .pointer (some (⟨b12, 0, none⟩ : Addr))), (7, .pointer (some (⟨b18, 0, none⟩ : Addr))), (8, .pointer (some (⟨b20, 0, none⟩ : Addr))), (35, .func (.func 29) #[] #[.pointer (some x23.1), .pointer (some x23.2.1), .pointer (some x23.2.2.1), .pointer (some x23.2.2.2.1), .pointer (some x23.2.2.2.2)])] ⟨rfl, rfl, rfl, rfl, rfl, rfl, rfl, rfl, trivial⟩ (fun f1 => ?_)
    refine wk_then ?_
    refine wc_block ?_
    replace h := h t_b1
    replace h := h t_b3
    replace h := h t_b5
    replace h := h t_b7
    replace h := h t_b12
    replace h := h t_b18
    replace h := h t_b20
    refine wc_prune [(2, .pointer (some (⟨b1, 0, none⟩ : Addr))), (3, .pointer (some (⟨b3, 0, none⟩ : Addr))), (4, .pointer (some (⟨b5, 0, none⟩ : Addr))), (5, .pointer (some (⟨b7, 0, none⟩ : Addr))), (6, .pointer (some (⟨b12, 0, none⟩ : Addr))), (7, .pointer (some (⟨b18, 0, none⟩ : Addr))), (8, .pointer (some (⟨b20, 0, none⟩ : Addr))), (35, .func (.func 29) #[] #[.pointer (some x23.1), .pointer (some x23.2.1), .pointer (some x23.2.2.1), .pointer (some x23.2.2.2.1), .pointer (some x23.2.2.2.2)])] ⟨rfl, rfl, rfl, rfl, rfl, rfl, rfl, rfl, trivial⟩ (fun f1 => ?_)
    refine wc_rng (caps := [.pointer (some x23.1), .pointer (some x23.2.1), .pointer (some x23.2.2.1), .pointer (some x23.2.2.2.1), .pointer (some x23.2.2.2.2)]) rfl enter29 so h ?_; intro r26 D34 w29 q27 q28 h so
    refine Ca.mono (geom_Walk_1.calls _ _ (yok (ps := [36]) q28 (fun _ => rfl) fun x30 w32 K31 h => ?_) _ _ _ _ _ w29 _ h) ?_
    · refine ⟨h.1, ?_⟩; replace h := h.2; have so := Sm.refl w32; refine wc_prune [(2, .pointer (some (⟨b1, 0, none⟩ : Addr))), (3, .pointer (some (⟨b3, 0, none⟩ : Addr))), (4, .pointer (some (⟨b5, 0, none⟩ : Addr))), (5, .pointer (some (⟨b7, 0, none⟩ : Addr))), (6, .pointer (some (⟨b12, 0, none⟩ : Addr))), (7, .pointer (some (⟨b18, 0, none⟩ : Addr))), (8, .pointer (some (⟨b20, 0, none⟩ : Addr))), (36, .agg (c73 x30.1 x30.2.1 x30.2.2.1 x30.2.2.2.1 x30.2.2.2.2).toArray)] ⟨rfl, rfl, rfl, rfl, rfl, rfl, rfl, rfl, trivial⟩ (fun f1 => ?_)
      refine wc_region ?_
      refine wl_newT (T := 73) (cs := (c73 0 0 0 0 false)) (ef_alloc zero73 rfl) rfl so ?_; intro b35 w36 hb_b35 t_b35 k_b35 so
      have g_b35 := Nat.le_of_eq hb_b35.symm
      have hc := k_b35.ch (F := [])
      refine wl_stWT (vs := (c73 x30.1 x30.2.1 x30.2.2.1 x30.2.2.2.1 x30.2.2.2.2)) t_b35 (by first | (rw [len73, len73]) | (rw [len73]) | rfl) rfl so (fun q => ef_storeA (p := (⟨b35, 0, none⟩ : Addr)) (cs := (c73 x30.1 x30.2.1 x30.2.2.1 x30.2.2.2.1 x30.2.2.2.2)) (by rw [len73]; exact sz73) rfl rfl (one73 _ _ _ _ _) q) ?_; intro w37 t_b35 s_w37 so
      replace hc := ch_same hc s_w37 (.inr g_b35)
      refine wl_nil ?_
      replace h := h b35 _ hc g_b35 t_b35.lt; clear hc
      refine wk_prune [(2, .pointer (some (⟨b1, 0, none⟩ : Addr))), (3, .pointer (some (⟨b3, 0, none⟩ : Addr))), (4, .pointer (some (⟨b5, 0, none⟩ : Addr))), (5, .pointer (some (⟨b7, 0, none⟩ : Addr))), (6, .pointer (some (⟨b12, 0, none⟩ : Addr))), (7, .pointer (some (⟨b18, 0, none⟩ : Addr))), (8, .pointer (some (⟨b20, 0, none⟩ : Addr))), (10, .pointer (some (⟨b35, 0, none⟩ : Addr)))] ⟨rfl, rfl, rfl, rfl, rfl, rfl, rfl, rfl, trivial⟩ (fun f1 => ?_)
      refine wk_asg q27 h so ?_; intro w38 h so
      obtain ⟨q39, h⟩ := h
      replace t_b35 := pv_bk q39 t_b35 (by simp)
      refine wc_block ?_
      refine wc_seq ?_
      refine wc_seq ?_
      refine wc_region ?_
      obtain ⟨x40, q41, h⟩ := h
      refine wl_val (at_load Try.underlying3 rfl rfl q41) rfl ?_
      obtain ⟨x42, q43, h⟩ := h
      refine wl_val (at_load Try.underlying38 rfl rfl q43) rfl ?_
      refine wl_val (at_lenL Try.underlying38 rfl) rfl ?_
      refine wl_val (at_geq rfl rfl) rfl ?_
      refine wl_nil ?_
      refine wk_prune [(2, .pointer (some (⟨b1, 0, none⟩ : Addr))), (3, .pointer (some (⟨b3, 0, none⟩ : Addr))), (4, .pointer (some (⟨b5, 0, none⟩ : Addr))), (5, .pointer (some (⟨b7, 0, none⟩ : Addr))), (6, .pointer (some (⟨b12, 0, none⟩ : Addr))), (7, .pointer (some (⟨b18, 0, none⟩ : Addr))), (8, .pointer (some (⟨b20, 0, none⟩ : Addr))), (10, .pointer (some (⟨b35, 0, none⟩ : Addr))), (40, .bool (decide ((x42.n : Int) ≤ x40)))] ⟨rfl, rfl, rfl, rfl, rfl, rfl, rfl, rfl, rfl, trivial⟩ (fun f1 => ?_)
      refine wk_then ?_
      refine wc_cond rfl h (fun h => ?_) (fun h => ?_)
      · refine wc_seq ?_
        refine wc_region ?_
        refine wl_st (v := .string (⟨#[]⟩ : ByteArray)) h rfl so (fun q1 q2 => ef_store (sz := sz9) rfl rfl rfl q1 q2) ?_; intro w44 h so
        refine wl_st (v := .bool false) h rfl so (fun q1 q2 => ef_store (sz := sz4) rfl rfl rfl q1 q2) ?_; intro w45 h so
        refine wl_nil ?_
        refine wk_prune [(4, .pointer (some (⟨b5, 0, none⟩ : Addr))), (5, .pointer (some (⟨b7, 0, none⟩ : Addr)))] ⟨rfl, rfl, trivial⟩ (fun f1 => ?_)
        refine wk_then ?_
        refine wc_ret ?_
        refine wk_thenR ?_
        refine wk_blkR ?_
        exact wk_rdR h so
      · refine wc_skip ?_
        refine wk_prune [(2, .pointer (some (⟨b1, 0, none⟩ : Addr))), (3, .pointer (some (⟨b3, 0, none⟩ : Addr))), (4, .pointer (some (⟨b5, 0, none⟩ : Addr))), (5, .pointer (some (⟨b7, 0, none⟩ : Addr))), (6, .pointer (some (⟨b12, 0, none⟩ : Addr))), (7, .pointer (some (⟨b18, 0, none⟩ : Addr))), (8, .pointer (some (⟨b20, 0, none⟩ : Addr))), (10, .pointer (some (⟨b35, 0, none⟩ : Addr)))] ⟨rfl, rfl, rfl, rfl, rfl, rfl, rfl, rfl, trivial⟩ (fun f1 => ?_)
        refine wk_then ?_
        refine wc_seq ?_
        refine wc_wo [0, 0, 3, 7, 0, 16, 48, 112, 255, 511, 1023, 1023, 2047, 8191] mixed (by kernel_rfl) so ?_; intro w46 hw so; rw [← hw] at h t_b35; clear hw
        refine wo_pure (m' := 16) 4 rfl (by kernel_rfl) rfl rfl (fun H => at_fieldAddr Try.underlying73 rfl rfl sz3 (by decide) rfl) ?_
        obtain ⟨x47, q48, h⟩ := h
        refine wo_load (m' := 17) 0 (fun H => cellAt H (⟨b3, 0, none⟩ : Addr) = some (.slice x47.a x47.n x47.c)) rfl (by kernel_rfl) rfl rfl (fun H q48 => at_load Try.underlying38 rfl rfl q48) q48 ?_
        obtain ⟨x49, q50, h⟩ := h
        refine wo_load (m' := 19) 1 (fun H => cellAt H (⟨b20, 0, none⟩ : Addr) = some (.int .i64 x49)) rfl (by kernel_rfl) rfl rfl (fun H q50 => at_load Try.underlying3 rfl rfl q50) q50 ?_
        obtain ⟨q51, q52, p53, q54, h⟩ := h
        refine wo_pure (m' := 23) 2 rfl (by kernel_rfl) rfl rfl (fun H => at_ixAddrL Try.underlying38 sz54 (sl_some q54) rfl q51 q52) ?_
        obtain ⟨x55, q56, h⟩ := h
        refine wo_load (m' := 31) 3 (fun H => ldA H (p53.add (Int.toNat x49 * 64)) (c54 x55)) rfl (by kernel_rfl) rfl rfl (fun H q56 => at_loadA (cs := (c54 x55)) Try.underlying54 rfl (by rw [len54]; exact sz54) rfl q56) q56 ?_
        have q57 : cellAt w46.heap (⟨b35, 0, none⟩ : Addr) = some (.int .i64 x30.1) := (t_b35.cell 0).trans (by first | rfl | simp [List.getElem?_append, ints_len, bools_len])
        refine wo_load (m' := 63) 5 (fun H => cellAt H (⟨b35, 0, none⟩ : Addr) = some (.int .i64 x30.1)) rfl (by kernel_rfl) rfl rfl (fun H q57 => at_load (v := .int .i64 x30.1) Try.underlying3 rfl rfl (q57)) q57 ?_
        obtain ⟨q58, q59, h⟩ := h
        refine wo_pure (m' := 127) 6 rfl (by kernel_rfl) rfl rfl (fun H => at_ixAddrA Try.underlying84 sz52 rfl rfl q58 q59) ?_
        obtain ⟨x60, q61, h⟩ := h
        refine wo_load (m' := 255) 7 (fun H => cellAt H ((⟨b18, 0, none⟩ : Addr).add (Int.toNat x30.1 * 1)) = some (.int .i16 x60)) rfl (by kernel_rfl) rfl rfl (fun H q61 => at_load Try.underlying52 rfl rfl q61) q61 ?_
        refine wo_take (m' := 511) 8 [true, true, true, true, true] rfl (by kernel_rfl) rfl (by kernel_rfl) ?_
        refine wl_callF (runs_Symbols.calls _ _ _ _ h) enter32 rfl trivial so ?_; intro x62 w63 h so
        obtain ⟨q64, h⟩ := h
        replace t_b35 := pv_bk q64 t_b35 (by simp)
        refine wl_nil ?_
        refine wk_tq trivial ?_
        refine wo_pure (m' := 1023) 9 rfl (by kernel_rfl) rfl rfl (fun H => at_move rfl) ?_
        refine wo_pure (m' := 2047) 10 rfl (by kernel_rfl) rfl rfl (fun H => at_extract rfl rfl) ?_
        refine wo_pure (m' := 4095) 11 rfl (by kernel_rfl) rfl rfl (fun H => at_extract rfl rfl) ?_
        refine wo_pure (m' := 8191) 12 rfl (by kernel_rfl) rfl rfl (fun H => at_assign rfl) ?_
        refine wo_pure (m' := 16383) 13 rfl (by kernel_rfl) rfl rfl (fun H => at_assign rfl) ?_
        refine wo_done (by kernel_rfl) ?_
        refine wk_prune [(2, .pointer (some (⟨b1, 0, none⟩ : Addr))), (3, .pointer (some (⟨b3, 0, none⟩ : Addr))), (4, .pointer (some (⟨b5, 0, none⟩ : Addr))), (5, .pointer (some (⟨b7, 0, none⟩ : Addr))), (6, .pointer (some (⟨b12, 0, none⟩ : Addr))), (7, .pointer (some (⟨b18, 0, none⟩ : Addr))), (8, .pointer (some (⟨b20, 0, none⟩ : Addr))), (10, .pointer (some (⟨b35, 0, none⟩ : Addr))), (11, .slice x62.1.a x62.1.n x62.1.c), (12, .int .i64 x62.2)] ⟨rfl, rfl, rfl, rfl, rfl, rfl, rfl, rfl, rfl, rfl, trivial⟩ (fun f1 => ?_)
        refine wk_then ?_
        refine wc_seq ?_
        refine wc_region ?_
        refine wl_val (at_fieldAddr Try.underlying32 rfl rfl sz25 (by decide) rfl) rfl ?_
        obtain ⟨x65, q66, h⟩ := h
        refine wl_val (at_load Try.underlying25 rfl rfl q66) rfl ?_
        refine wl_val (at_fieldAddr Try.underlying73 rfl rfl sz3 (by decide) rfl) rfl ?_
        refine wl_val (at_load (v := .int .i64 x30.1) Try.underlying3 rfl rfl ((t_b35.cell 0).trans (by first | rfl | simp [List.getElem?_append, ints_len, bools_len]))) rfl ?_
        obtain ⟨q67, q68, p69, q70, h⟩ := h
        refine wl_val (at_ixAddrL Try.underlying25 sz67 (sl_some q70) rfl q67 q68) rfl ?_
        refine wl_val (at_fieldAddr Try.underlying67 rfl rfl sz5 (by decide) rfl) rfl ?_
        obtain ⟨x71, q72, h⟩ := h
        refine wl_val (at_load Try.underlying5 rfl rfl q72) rfl ?_
        refine wl_val (at_fieldAddr Try.underlying32 rfl rfl sz30 (by decide) rfl) rfl ?_
        obtain ⟨q73, q74, h⟩ := h
        refine wl_val (at_ixAddrA Try.underlying30 sz29 rfl rfl q73 q74) rfl ?_
        obtain ⟨x75, x76, q77, h⟩ := h
        refine wl_val (at_loadA (cs := (c29 x75 x76)) Try.underlying29 rfl (by rw [len29]; exact sz29) rfl q77) rfl ?_
        refine wl_callF (huff_New.calls _ _ _ _ h) enter33 rfl trivial so ?_; intro x78 w79 h so
        obtain ⟨q80, h⟩ := h
        replace t_b35 := pv_bk q80 t_b35 (by simp)
        refine wl_val (at_move rfl) rfl ?_
        refine wl_val (at_extract rfl rfl) rfl ?_
        refine wl_val (at_extract rfl rfl) rfl ?_
        refine wl_val (at_assign rfl) rfl ?_
        refine wl_val (at_assign rfl) rfl ?_
        refine wl_nil ?_
        refine wk_prune [(2, .pointer (some (⟨b1, 0, none⟩ : Addr))), (3, .pointer (some (⟨b3, 0, none⟩ : Addr))), (4, .pointer (some (⟨b5, 0, none⟩ : Addr))), (5, .pointer (some (⟨b7, 0, none⟩ : Addr))), (6, .pointer (some (⟨b12, 0, none⟩ : Addr))), (7, .pointer (some (⟨b18, 0, none⟩ : Addr))), (8, .pointer (some (⟨b20, 0, none⟩ : Addr))), (10, .pointer (some (⟨b35, 0, none⟩ : Addr))), (11, .slice x62.1.a x62.1.n x62.1.c), (12, .int .i64 x62.2), (13, .pointer x78.1), (14, .int .i64 x78.2)] ⟨rfl, rfl, rfl, rfl, rfl, rfl, rfl, rfl, rfl, rfl, rfl, rfl, trivial⟩ (fun f1 => ?_)
        refine wk_then ?_
        refine wc_seq ?_
        refine wc_region ?_
        refine wl_val (at_fieldAddr Try.underlying32 rfl rfl sz25 (by decide) rfl) rfl ?_
        obtain ⟨x81, q82, h⟩ := h
        refine wl_val (at_load Try.underlying25 rfl rfl q82) rfl ?_
        refine wl_val (at_fieldAddr Try.underlying73 rfl rfl sz3 (by decide) rfl) rfl ?_
        refine wl_val (at_load (v := .int .i64 x30.1) Try.underlying3 rfl rfl ((t_b35.cell 0).trans (by first | rfl | simp [List.getElem?_append, ints_len, bools_len]))) rfl ?_
        obtain ⟨q83, q84, p85, q86, h⟩ := h
        refine wl_val (at_ixAddrL Try.underlying25 sz67 (sl_some q86) rfl q83 q84) rfl ?_
        refine wl_val (at_fieldAddr Try.underlying67 rfl rfl sz5 (by decide) rfl) rfl ?_
        obtain ⟨x87, q88, h⟩ := h
        refine wl_val (at_load Try.underlying5 rfl rfl q88) rfl ?_
        refine wl_val (at_fieldAddr Try.underlying32 rfl rfl sz30 (by decide) rfl) rfl ?_
        obtain ⟨q89, q90, h⟩ := h
        refine wl_val (at_ixAddrA Try.underlying30 sz29 rfl rfl q89 q90) rfl ?_
        obtain ⟨x91, x92, q93, h⟩ := h
        refine wl_val (at_loadA (cs := (c29 x91 x92)) Try.underlying29 rfl (by rw [len29]; exact sz29) rfl q93) rfl ?_
        refine wl_callF (huff_New.calls _ _ _ _ h) enter33 rfl trivial so ?_; intro x94 w95 h so
        obtain ⟨q96, h⟩ := h
        replace t_b35 := pv_bk q96 t_b35 (by simp)
        refine wl_val (at_move rfl) rfl ?_
        refine wl_val (at_extract rfl rfl) rfl ?_
        refine wl_val (at_extract rfl rfl) rfl ?_
        refine wl_val (at_assign rfl) rfl ?_
        refine wl_val (at_assign rfl) rfl ?_
        refine wl_nil ?_
        refine wk_prune [(3, .pointer (some (⟨b3, 0, none⟩ : Addr))), (4, .pointer (some (⟨b5, 0, none⟩ : Addr))), (5, .pointer (some (⟨b7, 0, none⟩ : Addr))), (6, .pointer (some (⟨b12, 0, none⟩ : Addr))), (7, .pointer (some (⟨b18, 0, none⟩ : Addr))), (8, .pointer (some (⟨b20, 0, none⟩ : Addr))), (10, .pointer (some (⟨b35, 0, none⟩ : Addr))), (11, .slice x62.1.a x62.1.n x62.1.c), (12, .int .i64 x62.2), (13, .pointer x78.1), (14, .int .i64 x78.2), (15, .pointer x94.1), (16, .int .i64 x94.2)] ⟨rfl, rfl, rfl, rfl, rfl, rfl, rfl, rfl, rfl, rfl, rfl, rfl, rfl, trivial⟩ (fun f1 => ?_)
        refine wk_then ?_
        refine wc_seq ?_
        refine wc_seq ?_
        refine wc_joinG (w0 := w32) (fun (H : Hp) => Bk H b35 73 (c73 x30.1 x30.2.1 x30.2.2.1 x30.2.2.2.1 x30.2.2.2.2) ∧ True) (fun (s98 : Bool) => [(3, .pointer (some (⟨b3, 0, none⟩ : Addr))), (4, .pointer (some (⟨b5, 0, none⟩ : Addr))), (5, .pointer (some (⟨b7, 0, none⟩ : Addr))), (6, .pointer (some (⟨b12, 0, none⟩ : Addr))), (7, .pointer (some (⟨b18, 0, none⟩ : Addr))), (8, .pointer (some (⟨b20, 0, none⟩ : Addr))), (10, .pointer (some (⟨b35, 0, none⟩ : Addr))), (11, .slice x62.1.a x62.1.n x62.1.c), (13, .pointer x78.1), (15, .pointer x94.1), (90, .bool s98)]) (fun (s98 : Bool) => []) h ?_ ?_
        · rintro s98 w99 f1 h ⟨t_b35, _⟩ so; refine wk_then ?_
          refine wc_cond rfl h (fun h => ?_) (fun h => ?_)
          · refine wc_seq ?_
            refine wc_region ?_
            refine wl_st (v := .string (⟨#[]⟩ : ByteArray)) h rfl so (fun q1 q2 => ef_store (sz := sz9) rfl rfl rfl q1 q2) ?_; intro w100 h so
            refine wl_st (v := .bool false) h rfl so (fun q1 q2 => ef_store (sz := sz4) rfl rfl rfl q1 q2) ?_; intro w101 h so
            refine wl_nil ?_
            refine wk_prune [(4, .pointer (some (⟨b5, 0, none⟩ : Addr))), (5, .pointer (some (⟨b7, 0, none⟩ : Addr)))] ⟨rfl, rfl, trivial⟩ (fun f1 => ?_)
            refine wk_then ?_
            refine wc_ret ?_
            refine wk_thenR ?_
            refine wk_blkR ?_
            exact wk_rdR h so
          · refine wc_skip ?_
            refine wk_prune [(3, .pointer (some (⟨b3, 0, none⟩ : Addr))), (4, .pointer (some (⟨b5, 0, none⟩ : Addr))), (5, .pointer (some (⟨b7, 0, none⟩ : Addr))), (6, .pointer (some (⟨b12, 0, none⟩ : Addr))), (7, .pointer (some (⟨b18, 0, none⟩ : Addr))), (8, .pointer (some (⟨b20, 0, none⟩ : Addr))), (10, .pointer (some (⟨b35, 0, none⟩ : Addr))), (11, .slice x62.1.a x62.1.n x62.1.c), (13, .pointer x78.1), (15, .pointer x94.1)] ⟨rfl, rfl, rfl, rfl, rfl, rfl, rfl, rfl, rfl, rfl, trivial⟩ (fun f1 => ?_)
            refine wk_then ?_
            refine wc_seq ?_
            refine wc_seq ?_
            refine wc_region ?_
            refine wl_val (at_assign rfl) rfl ?_
            refine wl_nil ?_
            refine wk_prune [(3, .pointer (some (⟨b3, 0, none⟩ : Addr))), (4, .pointer (some (⟨b5, 0, none⟩ : Addr))), (5, .pointer (some (⟨b7, 0, none⟩ : Addr))), (6, .pointer (some (⟨b12, 0, none⟩ : Addr))), (7, .pointer (some (⟨b18, 0, none⟩ : Addr))), (8, .pointer (some (⟨b20, 0, none⟩ : Addr))), (10, .pointer (some (⟨b35, 0, none⟩ : Addr))), (11, .slice x62.1.a x62.1.n x62.1.c), (13, .pointer x78.1), (15, .pointer x94.1), (17, .int .i64 0)] ⟨rfl, rfl, rfl, rfl, rfl, rfl, rfl, rfl, rfl, rfl, rfl, trivial⟩ (fun f1 => ?_)
            refine wk_then ?_
            refine wc_block ?_
            obtain ⟨k102, h⟩ := h
            refine wc_loop (fun k a w => ∃ (s104 : Int) (f1 : Nat → Value), a = ac 147 (en f1 [(3, .pointer (some (⟨b3, 0, none⟩ : Addr))), (4, .pointer (some (⟨b5, 0, none⟩ : Addr))), (5, .pointer (some (⟨b7, 0, none⟩ : Addr))), (6, .pointer (some (⟨b12, 0, none⟩ : Addr))), (7, .pointer (some (⟨b18, 0, none⟩ : Addr))), (8, .pointer (some (⟨b20, 0, none⟩ : Addr))), (10, .pointer (some (⟨b35, 0, none⟩ : Addr))), (11, .slice x62.1.a x62.1.n x62.1.c), (13, .pointer x78.1), (15, .pointer x94.1), (17, .int .i64 s104)]) [] ∧ Sm w32 w ∧ (Bk w.heap b35 73 (c73 x30.1 x30.2.1 x30.2.2.1 x30.2.2.2.1 x30.2.2.2.2) ∧ True) ∧ Fix _ k s104 w.heap) k102 ⟨(0), _, ac_again ⟨rfl, rfl, rfl, rfl, rfl, rfl, rfl, rfl, rfl, rfl, rfl, trivial⟩, so, ⟨t_b35, trivial⟩, h⟩ ?_
            rintro k103 a106 w105 ⟨s104, f1, rfl, so, ⟨t_b35, _⟩, h⟩
            rcases k103 with _ | k103
            · exact h.elim
            replace h := Fix.un h; refine wc_in ?_
            refine wc_seq ?_
            refine wc_seq ?_
            refine wc_region ?_
            refine wl_val (at_move rfl) rfl ?_
            refine wl_val (at_move rfl) rfl ?_
            refine wl_val (at_lenL Try.underlying85 rfl) rfl ?_
            refine wl_val (at_lss rfl rfl) rfl ?_
            refine wl_nil ?_
            refine wk_prune [(3, .pointer (some (⟨b3, 0, none⟩ : Addr))), (4, .pointer (some (⟨b5, 0, none⟩ : Addr))), (5, .pointer (some (⟨b7, 0, none⟩ : Addr))), (6, .pointer (some (⟨b12, 0, none⟩ : Addr))), (7, .pointer (some (⟨b18, 0, none⟩ : Addr))), (8, .pointer (some (⟨b20, 0, none⟩ : Addr))), (10, .pointer (some (⟨b35, 0, none⟩ : Addr))), (11, .slice x62.1.a x62.1.n x62.1.c), (13, .pointer x78.1), (15, .pointer x94.1), (17, .int .i64 s104), (94, .bool (decide (s104 < (x62.1.n : Int))))] ⟨rfl, rfl, rfl, rfl, rfl, rfl, rfl, rfl, rfl, rfl, rfl, rfl, trivial⟩ (fun f1 => ?_)
            refine wk_then ?_
            refine wc_cond rfl h (fun h => ?_) (fun h => ?_)
            · refine wc_skip ?_
              refine wk_prune [(3, .pointer (some (⟨b3, 0, none⟩ : Addr))), (4, .pointer (some (⟨b5, 0, none⟩ : Addr))), (5, .pointer (some (⟨b7, 0, none⟩ : Addr))), (6, .pointer (some (⟨b12, 0, none⟩ : Addr))), (7, .pointer (some (⟨b18, 0, none⟩ : Addr))), (8, .pointer (some (⟨b20, 0, none⟩ : Addr))), (10, .pointer (some (⟨b35, 0, none⟩ : Addr))), (11, .slice x62.1.a x62.1.n x62.1.c), (13, .pointer x78.1), (15, .pointer x94.1), (17, .int .i64 s104)] ⟨rfl, rfl, rfl, rfl, rfl, rfl, rfl, rfl, rfl, rfl, rfl, trivial⟩ (fun f1 => ?_)
              refine wk_then ?_
              refine wc_seq ?_
              refine wc_block ?_
              refine wc_seq ?_
              refine wc_region ?_
              refine wl_val (at_move rfl) rfl ?_
              refine wl_val (at_assign rfl) rfl ?_
              refine wl_nil ?_
              refine wk_prune [(3, .pointer (some (⟨b3, 0, none⟩ : Addr))), (4, .pointer (some (⟨b5, 0, none⟩ : Addr))), (5, .pointer (some (⟨b7, 0, none⟩ : Addr))), (6, .pointer (some (⟨b12, 0, none⟩ : Addr))), (7, .pointer (some (⟨b18, 0, none⟩ : Addr))), (8, .pointer (some (⟨b20, 0, none⟩ : Addr))), (10, .pointer (some (⟨b35, 0, none⟩ : Addr))), (11, .slice x62.1.a x62.1.n x62.1.c), (13, .pointer x78.1), (15, .pointer x94.1), (17, .int .i64 s104), (18, .pointer x94.1)] ⟨rfl, rfl, rfl, rfl, rfl, rfl, rfl, rfl, rfl, rfl, rfl, rfl, trivial⟩ (fun f1 => ?_)
              refine wk_then ?_
              refine wc_seq ?_
              refine wc_joinG (w0 := w32) (fun (H : Hp) => Bk H b35 73 (c73 x30.1 x30.2.1 x30.2.2.1 x30.2.2.2.1 x30.2.2.2.2) ∧ True) (fun (s109 : (Option Addr)) => [(3, .pointer (some (⟨b3, 0, none⟩ : Addr))), (4, .pointer (some (⟨b5, 0, none⟩ : Addr))), (5, .pointer (some (⟨b7, 0, none⟩ : Addr))), (6, .pointer (some (⟨b12, 0, none⟩ : Addr))), (7, .pointer (some (⟨b18, 0, none⟩ : Addr))), (8, .pointer (some (⟨b20, 0, none⟩ : Addr))), (10, .pointer (some (⟨b35, 0, none⟩ : Addr))), (11, .slice x62.1.a x62.1.n x62.1.c), (13, .pointer x78.1), (15, .pointer x94.1), (17, .int .i64 s104), (18, .pointer s109)]) (fun (s109 : (Option Addr)) => []) h ?_ ?_
              · rintro s109 w110 f1 h ⟨t_b35, _⟩ so; refine wk_then ?_
                refine wc_seq ?_
                refine wc_wo [0, 0, 0, 0, 12, 28, 60, 127, 255] mixed (by kernel_rfl) so ?_; intro w111 hw so; rw [← hw] at h t_b35; clear hw
                refine wo_pure (m' := 1) 0 rfl (by kernel_rfl) rfl rfl (fun H => at_move rfl) ?_
                refine wo_pure (m' := 5) 2 rfl (by kernel_rfl) rfl rfl (fun H => at_move rfl) ?_
                refine wo_pure (m' := 13) 3 rfl (by kernel_rfl) rfl rfl (fun H => at_move rfl) ?_
                obtain ⟨q112, q113, p114, q115, h⟩ := h
                refine wo_pure (m' := 29) 4 rfl (by kernel_rfl) rfl rfl (fun H => at_ixAddrL Try.underlying85 sz93 (sl_some q115) rfl q112 q113) ?_
                refine wo_pure (m' := 61) 5 rfl (by kernel_rfl) rfl rfl (fun H => at_fieldAddr Try.underlying93 rfl rfl sz5 (by decide) rfl) ?_
                obtain ⟨x116, q117, h⟩ := h
                refine wo_load (m' := 63) 1 (fun H => cellAt H (⟨b12, 0, none⟩ : Addr) = some (.pointer x116)) rfl (by kernel_rfl) rfl rfl (fun H q117 => at_load Try.underlying82 rfl rfl q117) q117 ?_
                obtain ⟨x118, q119, h⟩ := h
                refine wo_load (m' := 127) 6 (fun H => cellAt H ((p114.add (Int.toNat s104 * 3)).add 0) = some (.int .u8 x118)) rfl (by kernel_rfl) rfl rfl (fun H q119 => at_load Try.underlying5 rfl rfl q119) q119 ?_
                refine wo_take (m' := 255) 7 [true, true] rfl (by kernel_rfl) rfl (by kernel_rfl) ?_
                refine wl_callF (huff_Table_Write.calls _ _ _ _ _ h) enter34 rfl trivial so ?_; intro x120 w121 h so
                obtain ⟨q122, h⟩ := h
                replace t_b35 := pv_bk q122 t_b35 (by simp)
                refine wl_nil ?_
                refine wk_tq trivial ?_
                refine wo_pure (m' := 511) 8 rfl (by kernel_rfl) rfl rfl (fun H => at_assign rfl) ?_
                refine wo_done (by kernel_rfl) ?_
                refine wk_prune [(3, .pointer (some (⟨b3, 0, none⟩ : Addr))), (4, .pointer (some (⟨b5, 0, none⟩ : Addr))), (5, .pointer (some (⟨b7, 0, none⟩ : Addr))), (6, .pointer (some (⟨b12, 0, none⟩ : Addr))), (7, .pointer (some (⟨b18, 0, none⟩ : Addr))), (8, .pointer (some (⟨b20, 0, none⟩ : Addr))), (10, .pointer (some (⟨b35, 0, none⟩ : Addr))), (11, .slice x62.1.a x62.1.n x62.1.c), (13, .pointer x78.1), (15, .pointer x94.1), (17, .int .i64 s104), (19, .bool x120)] ⟨rfl, rfl, rfl, rfl, rfl, rfl, rfl, rfl, rfl, rfl, rfl, rfl, trivial⟩ (fun f1 => ?_)
                refine wk_then ?_
                refine wc_seq ?_
                refine wc_wo [0, 0, 0, 6, 14, 30, 62, 0, 0, 384, 896, 1920, 3968, 8191, 16383] mixed (by kernel_rfl) so ?_; intro w123 hw so; rw [← hw] at h t_b35; clear hw
                refine wo_pure (m' := 2) 1 rfl (by kernel_rfl) rfl rfl (fun H => at_move rfl) ?_
                refine wo_pure (m' := 6) 2 rfl (by kernel_rfl) rfl rfl (fun H => at_move rfl) ?_
                obtain ⟨q124, q125, h⟩ := h
                refine wo_pure (m' := 14) 3 rfl (by kernel_rfl) rfl rfl (fun H => at_ixAddrL Try.underlying85 sz93 (sl_some q115) rfl q124 q125) ?_
                refine wo_pure (m' := 30) 4 rfl (by kernel_rfl) rfl rfl (fun H => at_fieldAddr Try.underlying93 rfl rfl sz91 (by decide) rfl) ?_
                refine wo_pure (m' := 158) 7 rfl (by kernel_rfl) rfl rfl (fun H => at_move rfl) ?_
                refine wo_pure (m' := 414) 8 rfl (by kernel_rfl) rfl rfl (fun H => at_move rfl) ?_
                obtain ⟨q126, q127, h⟩ := h
                refine wo_pure (m' := 926) 9 rfl (by kernel_rfl) rfl rfl (fun H => at_ixAddrL Try.underlying85 sz93 (sl_some q115) rfl q126 q127) ?_
                refine wo_pure (m' := 1950) 10 rfl (by kernel_rfl) rfl rfl (fun H => at_fieldAddr Try.underlying93 rfl rfl sz37 (by decide) rfl) ?_
                obtain ⟨x128, q129, h⟩ := h
                refine wo_load (m' := 1951) 0 (fun H => cellAt H (⟨b12, 0, none⟩ : Addr) = some (.pointer x128)) rfl (by kernel_rfl) rfl rfl (fun H q129 => at_load Try.underlying82 rfl rfl q129) q129 ?_
                obtain ⟨x130, q131, h⟩ := h
                refine wo_load (m' := 1983) 5 (fun H => cellAt H ((p114.add (Int.toNat s104 * 3)).add 2) = some (.int .u16 x130)) rfl (by kernel_rfl) rfl rfl (fun H q131 => at_load Try.underlying91 rfl rfl q131) q131 ?_
                refine wo_pure (m' := 2047) 6 rfl (by kernel_rfl) rfl rfl (fun H => at_conv Try.underlying91 Try.underlying3 rfl) ?_
                obtain ⟨x132, q133, h⟩ := h
                refine wo_load (m' := 4095) 11 (fun H => cellAt H ((p114.add (Int.toNat s104 * 3)).add 1) = some (.int .i8 x132)) rfl (by kernel_rfl) rfl rfl (fun H q133 => at_load Try.underlying37 rfl rfl q133) q133 ?_
                refine wo_pure (m' := 8191) 12 rfl (by kernel_rfl) rfl rfl (fun H => at_conv Try.underlying37 Try.underlying3 rfl) ?_
                refine wo_take (m' := 16383) 13 [true, true, true] rfl (by kernel_rfl) rfl (by kernel_rfl) ?_
                refine wl_callF (bits_Sink_Put.calls _ _ _ _ _ h) enter35 rfl trivial so ?_; intro x134 w135 h so
                obtain ⟨q136, h⟩ := h
                replace t_b35 := pv_bk q136 t_b35 (by simp)
                refine wl_nil ?_
                refine wk_tq trivial ?_
                refine wo_pure (m' := 32767) 14 rfl (by kernel_rfl) rfl rfl (fun H => at_assign rfl) ?_
                refine wo_done (by kernel_rfl) ?_
                refine wk_prune [(3, .pointer (some (⟨b3, 0, none⟩ : Addr))), (4, .pointer (some (⟨b5, 0, none⟩ : Addr))), (5, .pointer (some (⟨b7, 0, none⟩ : Addr))), (6, .pointer (some (⟨b12, 0, none⟩ : Addr))), (7, .pointer (some (⟨b18, 0, none⟩ : Addr))), (8, .pointer (some (⟨b20, 0, none⟩ : Addr))), (10, .pointer (some (⟨b35, 0, none⟩ : Addr))), (11, .slice x62.1.a x62.1.n x62.1.c), (13, .pointer x78.1), (15, .pointer x94.1), (17, .int .i64 s104), (19, .bool x120), (20, .bool x134)] ⟨rfl, rfl, rfl, rfl, rfl, rfl, rfl, rfl, rfl, rfl, rfl, rfl, rfl, trivial⟩ (fun f1 => ?_)
                refine wk_then ?_
                refine wc_seq ?_
                refine wc_joinG (w0 := w32) (fun (H : Hp) => Bk H b35 73 (c73 x30.1 x30.2.1 x30.2.2.1 x30.2.2.2.1 x30.2.2.2.2) ∧ True) (fun (s138 : Bool) => [(3, .pointer (some (⟨b3, 0, none⟩ : Addr))), (4, .pointer (some (⟨b5, 0, none⟩ : Addr))), (5, .pointer (some (⟨b7, 0, none⟩ : Addr))), (6, .pointer (some (⟨b12, 0, none⟩ : Addr))), (7, .pointer (some (⟨b18, 0, none⟩ : Addr))), (8, .pointer (some (⟨b20, 0, none⟩ : Addr))), (10, .pointer (some (⟨b35, 0, none⟩ : Addr))), (11, .slice x62.1.a x62.1.n x62.1.c), (13, .pointer x78.1), (15, .pointer x94.1), (17, .int .i64 s104), (128, .bool s138)]) (fun (s138 : Bool) => []) h ?_ ?_
                · rintro s138 w139 f1 h ⟨t_b35, _⟩ so; refine wk_then ?_
                  refine wc_cond rfl h (fun h => ?_) (fun h => ?_)
                  · refine wc_seq ?_
                    refine wc_region ?_
                    refine wl_st (v := .string (⟨#[]⟩ : ByteArray)) h rfl so (fun q1 q2 => ef_store (sz := sz9) rfl rfl rfl q1 q2) ?_; intro w140 h so
                    refine wl_st (v := .bool false) h rfl so (fun q1 q2 => ef_store (sz := sz4) rfl rfl rfl q1 q2) ?_; intro w141 h so
                    refine wl_nil ?_
                    refine wk_prune [(4, .pointer (some (⟨b5, 0, none⟩ : Addr))), (5, .pointer (some (⟨b7, 0, none⟩ : Addr)))] ⟨rfl, rfl, trivial⟩ (fun f1 => ?_)
                    refine wk_then ?_
                    refine wc_ret ?_
                    refine wk_blkR ?_
                    refine wk_thenR ?_
                    refine wk_thenR ?_
                    refine wk_blkR ?_
                    refine wk_thenR ?_
                    refine wk_blkR ?_
                    exact wk_rdR h so
                  · refine wc_skip ?_
                    refine wk_blkN ?_
                    refine wk_prune [(3, .pointer (some (⟨b3, 0, none⟩ : Addr))), (4, .pointer (some (⟨b5, 0, none⟩ : Addr))), (5, .pointer (some (⟨b7, 0, none⟩ : Addr))), (6, .pointer (some (⟨b12, 0, none⟩ : Addr))), (7, .pointer (some (⟨b18, 0, none⟩ : Addr))), (8, .pointer (some (⟨b20, 0, none⟩ : Addr))), (10, .pointer (some (⟨b35, 0, none⟩ : Addr))), (11, .slice x62.1.a x62.1.n x62.1.c), (13, .pointer x78.1), (15, .pointer x94.1), (17, .int .i64 s104)] ⟨rfl, rfl, rfl, rfl, rfl, rfl, rfl, rfl, rfl, rfl, rfl, trivial⟩ (fun f1 => ?_)
                    refine wk_then ?_
                    refine wc_region ?_
                    refine wl_val (at_move rfl) rfl ?_
                    refine wl_val (at_add rfl rfl) rfl ?_
                    refine wl_val (at_assign rfl) rfl ?_
                    refine wl_nil ?_
                    exact wk_again ⟨((IntKind.wrap .i64 (s104 + 1))), _, ac_again ⟨rfl, rfl, rfl, rfl, rfl, rfl, rfl, rfl, rfl, rfl, rfl, trivial⟩, so, ⟨t_b35, trivial⟩, h⟩
                · intro J137 h hJ137
                  refine wc_region ?_
                  refine wl_val (at_move rfl) rfl ?_
                  refine wl_val (at_not rfl) rfl ?_
                  refine wl_val (at_move rfl) rfl ?_
                  refine bif_ h (fun hb h => ?_) (fun hb h => ?_)
                  · refine wl_set (t := 125) (v := .bool true) (congrArg Value.bool hb) ?_; clear hb
                    refine wl_off (t := 125) rfl (by decide) rfl ?_
                    refine wl_off (t := 125) rfl (by decide) rfl ?_
                    refine wl_val (at_pick_t rfl rfl) rfl ?_
                    refine wl_nil ?_
                    exact wk_prune [(3, .pointer (some (⟨b3, 0, none⟩ : Addr))), (4, .pointer (some (⟨b5, 0, none⟩ : Addr))), (5, .pointer (some (⟨b7, 0, none⟩ : Addr))), (6, .pointer (some (⟨b12, 0, none⟩ : Addr))), (7, .pointer (some (⟨b18, 0, none⟩ : Addr))), (8, .pointer (some (⟨b20, 0, none⟩ : Addr))), (10, .pointer (some (⟨b35, 0, none⟩ : Addr))), (11, .slice x62.1.a x62.1.n x62.1.c), (13, .pointer x78.1), (15, .pointer x94.1), (17, .int .i64 s104), (128, .bool true)] ⟨rfl, rfl, rfl, rfl, rfl, rfl, rfl, rfl, rfl, rfl, rfl, rfl, trivial⟩ (fun f1 => hJ137 (true) _ f1 h ⟨t_b35, trivial⟩ so)
                  · refine wl_set (t := 125) (v := .bool false) (congrArg Value.bool hb) ?_; clear hb
                    refine wl_on (t := 125) rfl (by decide) rfl ?_
                    refine wl_val (at_move rfl) rfl ?_
                    refine wl_on (t := 125) rfl (by decide) rfl ?_
                    refine wl_val (at_not rfl) rfl ?_
                    refine wl_val (at_pick_f rfl rfl) rfl ?_
                    refine wl_nil ?_
                    exact wk_prune [(3, .pointer (some (⟨b3, 0, none⟩ : Addr))), (4, .pointer (some (⟨b5, 0, none⟩ : Addr))), (5, .pointer (some (⟨b7, 0, none⟩ : Addr))), (6, .pointer (some (⟨b12, 0, none⟩ : Addr))), (7, .pointer (some (⟨b18, 0, none⟩ : Addr))), (8, .pointer (some (⟨b20, 0, none⟩ : Addr))), (10, .pointer (some (⟨b35, 0, none⟩ : Addr))), (11, .slice x62.1.a x62.1.n x62.1.c), (13, .pointer x78.1), (15, .pointer x94.1), (17, .int .i64 s104), (128, .bool (!x134))] ⟨rfl, rfl, rfl, rfl, rfl, rfl, rfl, rfl, rfl, rfl, rfl, rfl, trivial⟩ (fun f1 => hJ137 ((!x134)) _ f1 h ⟨t_b35, trivial⟩ so)
              · intro J108 h hJ108
                refine wc_seq ?_
                refine wc_region ?_
                refine wl_val (at_move rfl) rfl ?_
                refine wl_val (at_eql rfl rfl) rfl ?_
                refine wl_nil ?_
                refine wk_prune [(3, .pointer (some (⟨b3, 0, none⟩ : Addr))), (4, .pointer (some (⟨b5, 0, none⟩ : Addr))), (5, .pointer (some (⟨b7, 0, none⟩ : Addr))), (6, .pointer (some (⟨b12, 0, none⟩ : Addr))), (7, .pointer (some (⟨b18, 0, none⟩ : Addr))), (8, .pointer (some (⟨b20, 0, none⟩ : Addr))), (10, .pointer (some (⟨b35, 0, none⟩ : Addr))), (11, .slice x62.1.a x62.1.n x62.1.c), (13, .pointer x78.1), (15, .pointer x94.1), (17, .int .i64 s104), (18, .pointer x94.1), (99, .bool (s104 == 0))] ⟨rfl, rfl, rfl, rfl, rfl, rfl, rfl, rfl, rfl, rfl, rfl, rfl, rfl, trivial⟩ (fun f1 => ?_)
                refine wk_then ?_
                refine wc_cond rfl h (fun h => ?_) (fun h => ?_)
                · refine wc_region ?_
                  refine wl_val (at_move rfl) rfl ?_
                  refine wl_val (at_assign rfl) rfl ?_
                  refine wl_nil ?_
                  exact wk_prune [(3, .pointer (some (⟨b3, 0, none⟩ : Addr))), (4, .pointer (some (⟨b5, 0, none⟩ : Addr))), (5, .pointer (some (⟨b7, 0, none⟩ : Addr))), (6, .pointer (some (⟨b12, 0, none⟩ : Addr))), (7, .pointer (some (⟨b18, 0, none⟩ : Addr))), (8, .pointer (some (⟨b20, 0, none⟩ : Addr))), (10, .pointer (some (⟨b35, 0, none⟩ : Addr))), (11, .slice x62.1.a x62.1.n x62.1.c), (13, .pointer x78.1), (15, .pointer x94.1), (17, .int .i64 s104), (18, .pointer x78.1)] ⟨rfl, rfl, rfl, rfl, rfl, rfl, rfl, rfl, rfl, rfl, rfl, rfl, trivial⟩ (fun f1 => hJ108 (x78.1) _ f1 h ⟨t_b35, trivial⟩ so)
                · refine wc_skip ?_
                  exact wk_prune [(3, .pointer (some (⟨b3, 0, none⟩ : Addr))), (4, .pointer (some (⟨b5, 0, none⟩ : Addr))), (5, .pointer (some (⟨b7, 0, none⟩ : Addr))), (6, .pointer (some (⟨b12, 0, none⟩ : Addr))), (7, .pointer (some (⟨b18, 0, none⟩ : Addr))), (8, .pointer (some (⟨b20, 0, none⟩ : Addr))), (10, .pointer (some (⟨b35, 0, none⟩ : Addr))), (11, .slice x62.1.a x62.1.n x62.1.c), (13, .pointer x78.1), (15, .pointer x94.1), (17, .int .i64 s104), (18, .pointer x94.1)] ⟨rfl, rfl, rfl, rfl, rfl, rfl, rfl, rfl, rfl, rfl, rfl, rfl, trivial⟩ (fun f1 => hJ108 (x94.1) _ f1 h ⟨t_b35, trivial⟩ so)
            · refine wc_exit ?_
              refine wk_thenE ?_
              refine wk_thenE ?_
              refine wk_blkE ?_
              refine wk_prune [(3, .pointer (some (⟨b3, 0, none⟩ : Addr))), (7, .pointer (some (⟨b18, 0, none⟩ : Addr))), (8, .pointer (some (⟨b20, 0, none⟩ : Addr))), (10, .pointer (some (⟨b35, 0, none⟩ : Addr)))] ⟨rfl, rfl, rfl, rfl, trivial⟩ (fun f1 => ?_)
              refine wk_then ?_
              refine wc_seq ?_
              refine wc_wo [0, 1, 0, 0, 12, 28, 60, 127, 255] mixed (by kernel_rfl) so ?_; intro w142 hw so; rw [← hw] at h t_b35; clear hw
              refine wo_pure (m' := 1) 0 rfl (by kernel_rfl) rfl rfl (fun H => at_fieldAddr Try.underlying73 rfl rfl sz3 (by decide) rfl) ?_
              have q143 : cellAt w142.heap (⟨b35, 0, none⟩ : Addr) = some (.int .i64 x30.1) := (t_b35.cell 0).trans (by first | rfl | simp [List.getElem?_append, ints_len, bools_len])
              refine wo_load (m' := 3) 1 (fun H => cellAt H (⟨b35, 0, none⟩ : Addr) = some (.int .i64 x30.1)) rfl (by kernel_rfl) rfl rfl (fun H q143 => at_load (v := .int .i64 x30.1) Try.underlying3 rfl rfl (q143)) q143 ?_
              obtain ⟨x144, q145, h⟩ := h
              refine wo_load (m' := 7) 2 (fun H => cellAt H (⟨b3, 0, none⟩ : Addr) = some (.slice x144.a x144.n x144.c)) rfl (by kernel_rfl) rfl rfl (fun H q145 => at_load Try.underlying38 rfl rfl q145) q145 ?_
              obtain ⟨x146, q147, h⟩ := h
              refine wo_load (m' := 15) 3 (fun H => cellAt H (⟨b20, 0, none⟩ : Addr) = some (.int .i64 x146)) rfl (by kernel_rfl) rfl rfl (fun H q147 => at_load Try.underlying3 rfl rfl q147) q147 ?_
              obtain ⟨q148, q149, p150, q151, h⟩ := h
              refine wo_pure (m' := 31) 4 rfl (by kernel_rfl) rfl rfl (fun H => at_ixAddrL Try.underlying38 sz54 (sl_some q151) rfl q148 q149) ?_
              obtain ⟨q152, q153, h⟩ := h
              refine wo_pure (m' := 63) 5 rfl (by kernel_rfl) rfl rfl (fun H => at_ixAddrA Try.underlying54 sz52 rfl rfl q152 q153) ?_
              obtain ⟨x154, q155, h⟩ := h
              refine wo_load (m' := 127) 6 (fun H => cellAt H ((p150.add (Int.toNat x146 * 64)).add (Int.toNat 0 * 1)) = some (.int .i16 x154)) rfl (by kernel_rfl) rfl rfl (fun H q155 => at_load Try.underlying52 rfl rfl q155) q155 ?_
              obtain ⟨q156, q157, h⟩ := h
              refine wo_pure (m' := 255) 7 rfl (by kernel_rfl) rfl rfl (fun H => at_ixAddrA Try.underlying84 sz52 rfl rfl q156 q157) ?_
              refine wo_take (m' := 511) 8 [true, true, true, true] rfl (by kernel_rfl) rfl (by kernel_rfl) ?_
              refine wl_st (v := .int .i16 x154) h rfl so (fun q1 q2 => ef_store (sz := sz52) rfl rfl rfl q1 q2) ?_; intro w158 h so
              obtain ⟨q159, h⟩ := h
              replace t_b35 := pv_bk q159 t_b35 (by simp)
              refine wl_nil ?_
              refine wk_tq trivial ?_
              refine wo_done (by kernel_rfl) ?_
              refine wk_prune [(8, .pointer (some (⟨b20, 0, none⟩ : Addr)))] ⟨rfl, trivial⟩ (fun f1 => ?_)
              refine wk_then ?_
              refine wc_region ?_
              obtain ⟨x160, q161, h⟩ := h
              refine wl_val (at_load Try.underlying3 rfl rfl q161) rfl ?_
              refine wl_val (at_add rfl rfl) rfl ?_
              refine wl_st (v := .int .i64 (IntKind.wrap .i64 (x160 + 1))) h rfl so (fun q1 q2 => ef_store (sz := sz3) rfl rfl rfl q1 q2) ?_; intro w162 h so
              refine wl_nil ?_
              refine wk_blkN ?_
              exact wk_rdN q27 h so
        · intro J97 h hJ97
          refine wc_region ?_
          refine wl_val (at_move rfl) rfl ?_
          refine wl_val (at_neq rfl rfl) rfl ?_
          refine wl_val (at_move rfl) rfl ?_
          refine bif_ h (fun hb h => ?_) (fun hb h => ?_)
          · refine wl_set (t := 83) (v := .bool true) (congrArg Value.bool hb) ?_; clear hb
            refine wl_off (t := 83) rfl (by decide) rfl ?_
            refine wl_off (t := 83) rfl (by decide) rfl ?_
            refine wl_val (at_pick_t rfl rfl) rfl ?_
            refine wl_val (at_move rfl) rfl ?_
            refine wl_off (t := 87) rfl (by decide) rfl ?_
            refine wl_off (t := 87) rfl (by decide) rfl ?_
            refine wl_val (at_pick_t rfl rfl) rfl ?_
            refine wl_nil ?_
            exact wk_prune [(3, .pointer (some (⟨b3, 0, none⟩ : Addr))), (4, .pointer (some (⟨b5, 0, none⟩ : Addr))), (5, .pointer (some (⟨b7, 0, none⟩ : Addr))), (6, .pointer (some (⟨b12, 0, none⟩ : Addr))), (7, .pointer (some (⟨b18, 0, none⟩ : Addr))), (8, .pointer (some (⟨b20, 0, none⟩ : Addr))), (10, .pointer (some (⟨b35, 0, none⟩ : Addr))), (11, .slice x62.1.a x62.1.n x62.1.c), (13, .pointer x78.1), (15, .pointer x94.1), (90, .bool true)] ⟨rfl, rfl, rfl, rfl, rfl, rfl, rfl, rfl, rfl, rfl, rfl, trivial⟩ (fun f1 => hJ97 (true) _ f1 h ⟨t_b35, trivial⟩ so)
          · refine wl_set (t := 83) (v := .bool false) (congrArg Value.bool hb) ?_; clear hb
            refine wl_on (t := 83) rfl (by decide) rfl ?_
            refine wl_val (at_move rfl) rfl ?_
            refine wl_on (t := 83) rfl (by decide) rfl ?_
            refine wl_val (at_neq rfl rfl) rfl ?_
            refine wl_val (at_pick_f rfl rfl) rfl ?_
            refine wl_val (at_move rfl) rfl ?_
            refine bif_ h (fun hb h => ?_) (fun hb h => ?_)
            · refine wl_set (t := 87) (v := .bool true) (congrArg Value.bool hb) ?_; clear hb
              refine wl_off (t := 87) rfl (by decide) rfl ?_
              refine wl_off (t := 87) rfl (by decide) rfl ?_
              refine wl_val (at_pick_t rfl rfl) rfl ?_
              refine wl_nil ?_
              exact wk_prune [(3, .pointer (some (⟨b3, 0, none⟩ : Addr))), (4, .pointer (some (⟨b5, 0, none⟩ : Addr))), (5, .pointer (some (⟨b7, 0, none⟩ : Addr))), (6, .pointer (some (⟨b12, 0, none⟩ : Addr))), (7, .pointer (some (⟨b18, 0, none⟩ : Addr))), (8, .pointer (some (⟨b20, 0, none⟩ : Addr))), (10, .pointer (some (⟨b35, 0, none⟩ : Addr))), (11, .slice x62.1.a x62.1.n x62.1.c), (13, .pointer x78.1), (15, .pointer x94.1), (90, .bool true)] ⟨rfl, rfl, rfl, rfl, rfl, rfl, rfl, rfl, rfl, rfl, rfl, trivial⟩ (fun f1 => hJ97 (true) _ f1 h ⟨t_b35, trivial⟩ so)
            · refine wl_set (t := 87) (v := .bool false) (congrArg Value.bool hb) ?_; clear hb
              refine wl_on (t := 87) rfl (by decide) rfl ?_
              refine wl_val (at_move rfl) rfl ?_
              refine wl_on (t := 87) rfl (by decide) rfl ?_
              refine wl_val (at_neq rfl rfl) rfl ?_
              refine wl_val (at_pick_f rfl rfl) rfl ?_
              refine wl_nil ?_
              exact wk_prune [(3, .pointer (some (⟨b3, 0, none⟩ : Addr))), (4, .pointer (some (⟨b5, 0, none⟩ : Addr))), (5, .pointer (some (⟨b7, 0, none⟩ : Addr))), (6, .pointer (some (⟨b12, 0, none⟩ : Addr))), (7, .pointer (some (⟨b18, 0, none⟩ : Addr))), (8, .pointer (some (⟨b20, 0, none⟩ : Addr))), (10, .pointer (some (⟨b35, 0, none⟩ : Addr))), (11, .slice x62.1.a x62.1.n x62.1.c), (13, .pointer x78.1), (15, .pointer x94.1), (90, .bool (x94.2 != 0))] ⟨rfl, rfl, rfl, rfl, rfl, rfl, rfl, rfl, rfl, rfl, rfl, trivial⟩ (fun f1 => hJ97 ((x94.2 != 0)) _ f1 h ⟨t_b35, trivial⟩ so)
    · rintro _ w33 ⟨_, rfl, h, q163⟩; replace so := so.trans q163
      rcases h with h | h
      · refine rp_none q27 h so ?_; intro w164 h so
        refine wk_blkN ?_
        refine wk_prune [(3, .pointer (some (⟨b3, 0, none⟩ : Addr))), (4, .pointer (some (⟨b5, 0, none⟩ : Addr))), (5, .pointer (some (⟨b7, 0, none⟩ : Addr))), (6, .pointer (some (⟨b12, 0, none⟩ : Addr))), (8, .pointer (some (⟨b20, 0, none⟩ : Addr)))] ⟨rfl, rfl, rfl, rfl, rfl, trivial⟩ (fun f1 => ?_)
        refine wk_then ?_
        refine wc_seq ?_
        refine wc_region ?_
        obtain ⟨x165, q166, h⟩ := h
        refine wl_val (at_load Try.underlying82 rfl rfl q166) rfl ?_
        refine wl_callF (bits_Sink_Pad.calls _ _ _ h) enter36 rfl trivial so ?_; intro x167 w168 h so
        refine wl_nil ?_
        refine wk_prune [(3, .pointer (some (⟨b3, 0, none⟩ : Addr))), (4, .pointer (some (⟨b5, 0, none⟩ : Addr))), (5, .pointer (some (⟨b7, 0, none⟩ : Addr))), (6, .pointer (some (⟨b12, 0, none⟩ : Addr))), (8, .pointer (some (⟨b20, 0, none⟩ : Addr)))] ⟨rfl, rfl, rfl, rfl, rfl, trivial⟩ (fun f1 => ?_)
        refine wk_then ?_
        refine wc_seq ?_
        refine wc_wo [0, 1, 0, 0, 8, 28, 3, 127] mixed (by kernel_rfl) so ?_; intro w169 hw so; rw [← hw] at h; clear hw
        obtain ⟨x170, q171, h⟩ := h
        refine wo_load (m' := 1) 0 (fun H => cellAt H (⟨b12, 0, none⟩ : Addr) = some (.pointer x170)) rfl (by kernel_rfl) rfl rfl (fun H q171 => at_load Try.underlying82 rfl rfl q171) q171 ?_
        obtain ⟨x172, q173, h⟩ := h
        refine wo_load (m' := 5) 2 (fun H => cellAt H (⟨b20, 0, none⟩ : Addr) = some (.int .i64 x172)) rfl (by kernel_rfl) rfl rfl (fun H q173 => at_load Try.underlying3 rfl rfl q173) q173 ?_
        obtain ⟨x174, q175, h⟩ := h
        refine wo_load (m' := 13) 3 (fun H => cellAt H (⟨b3, 0, none⟩ : Addr) = some (.slice x174.a x174.n x174.c)) rfl (by kernel_rfl) rfl rfl (fun H q175 => at_load Try.underlying38 rfl rfl q175) q175 ?_
        refine wo_pure (m' := 29) 4 rfl (by kernel_rfl) rfl rfl (fun H => at_lenL Try.underlying38 rfl) ?_
        refine wo_pure (m' := 61) 5 rfl (by kernel_rfl) rfl rfl (fun H => at_eql rfl rfl) ?_
        refine wo_take (m' := 63) 1 [false, false, true] rfl (by kernel_rfl) rfl (by kernel_rfl) ?_
        refine wl_callF (bits_Sink_Text.calls _ _ _ h) enter37 rfl trivial so ?_; intro x176 w177 h so
        refine wl_nil ?_
        obtain ⟨q178, q179, h⟩ := h
        refine wk_tq ⟨q178, q179, trivial⟩ ?_
        refine wo_take (m' := 127) 6 [false, false] rfl (by kernel_rfl) rfl (by kernel_rfl) ?_
        refine wl_st (v := .string x176) h rfl so (fun q1 q2 => ef_store (sz := sz9) rfl rfl rfl q1 q2) ?_; intro w180 h so
        refine wl_nil ?_
        obtain ⟨q181, q182, h⟩ := h
        refine wk_tq ⟨q181, q182, trivial⟩ ?_
        refine wo_take (m' := 255) 7 [true, true] rfl (by kernel_rfl) rfl (by kernel_rfl) ?_
        refine wl_st (v := .bool (x172 == (x174.n : Int))) h rfl so (fun q1 q2 => ef_store (sz := sz4) rfl rfl rfl q1 q2) ?_; intro w183 h so
        refine wl_nil ?_
        refine wk_tq trivial ?_
        refine wo_done (by kernel_rfl) ?_
        refine wk_prune [(4, .pointer (some (⟨b5, 0, none⟩ : Addr))), (5, .pointer (some (⟨b7, 0, none⟩ : Addr)))] ⟨rfl, rfl, trivial⟩ (fun f1 => ?_)
        refine wk_then ?_
        refine wc_ret ?_
        refine wk_tk h so ?_; intro w184 h so
        obtain ⟨x186, q185, h⟩ := h
        obtain ⟨x188, q187, h⟩ := h
        exact wk_retR2 (x := (x186, x188)) rfl ⟨by decide, _, rfl, loadVar_one Try.underlying9 rfl q185⟩ ⟨by decide, _, rfl, loadVar_one Try.underlying4 rfl q187⟩ rfl so h
      · refine rp_jump h so ?_; intro w189 h so; refine wc_ret ?_
        refine wk_blkR ?_
        refine wk_thenR ?_
        refine wk_tk h so ?_; intro w190 h so
        obtain ⟨x192, q191, h⟩ := h
        obtain ⟨x194, q193, h⟩ := h
        exact wk_retR2 (x := (x192, x194)) rfl ⟨by decide, _, rfl, loadVar_one Try.underlying9 rfl q191⟩ ⟨by decide, _, rfl, loadVar_one Try.underlying4 rfl q193⟩ rfl so h
end Go.Proofs.Ytlfdfikgbdgfdaa.G
