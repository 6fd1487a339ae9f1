/- Of this text what the row needs. -/
import Derived.Test.YtlfdfikgbdgfdaaQSpanBelievedGF
import Derived.Test.YtlfdfikgbdgfdaaQSpanBelievedKbits
import Derived.Test.YtlfdfikgbdgfdaaQSpanBelievedKgeom
import Derived.Test.YtlfdfikgbdgfdaaQSpanBelievedKhuff
import Derived.Test.YtlfdfikgbdgfdaaQSpanBelievedKruns
import Derived.Test.YtlfdfikgbdgfdaaQSpanBelievedKspan
namespace Go.Proofs.Ytlfdfikgbdgfdaa.G
open Go.RowKit
set_option linter.unusedVariables false
set_option linter.unusedSimpArgs false
def mosaiclaw17_example.enc : Int × Int × Int × Sl × Sl × (Ints 16) × Sl × (Ints 16) × Sl × (Ints 16) × Sl × (Ints 16) × Sl × (Ints 16) × Sl × (Ints 16) × Sl × (Ints 16) × Sl × (Ints 16) × Sl × Int × Int → Value := fun r => .agg (c32 r.1 r.2.1 r.2.2.1 r.2.2.2.1 r.2.2.2.2.1 r.2.2.2.2.2.1 r.2.2.2.2.2.2.1 r.2.2.2.2.2.2.2.1 r.2.2.2.2.2.2.2.2.1 r.2.2.2.2.2.2.2.2.2.1 r.2.2.2.2.2.2.2.2.2.2.1 r.2.2.2.2.2.2.2.2.2.2.2.1 r.2.2.2.2.2.2.2.2.2.2.2.2.1 r.2.2.2.2.2.2.2.2.2.2.2.2.2.1 r.2.2.2.2.2.2.2.2.2.2.2.2.2.2.1 r.2.2.2.2.2.2.2.2.2.2.2.2.2.2.2.1 r.2.2.2.2.2.2.2.2.2.2.2.2.2.2.2.2.1 r.2.2.2.2.2.2.2.2.2.2.2.2.2.2.2.2.2.1 r.2.2.2.2.2.2.2.2.2.2.2.2.2.2.2.2.2.2.1 r.2.2.2.2.2.2.2.2.2.2.2.2.2.2.2.2.2.2.2.1 r.2.2.2.2.2.2.2.2.2.2.2.2.2.2.2.2.2.2.2.2.1 r.2.2.2.2.2.2.2.2.2.2.2.2.2.2.2.2.2.2.2.2.2.1 r.2.2.2.2.2.2.2.2.2.2.2.2.2.2.2.2.2.2.2.2.2.2).toArray
def mosaiclaw17_example.s (H0 : Hp) (Q : (Int × Int × Int × Sl × Sl × (Ints 16) × Sl × (Ints 16) × Sl × (Ints 16) × Sl × (Ints 16) × Sl × (Ints 16) × Sl × (Ints 16) × Sl × (Ints 16) × Sl × (Ints 16) × Sl × Int × Int) → Hp → Prop) : Prop :=
  Gn [] H0 (fun (b1 : Nat) (H2 : Hp) => nw H2 98 (c98 1 1 1 0) (fun p3 H4 => Pv [b1] H2 H4 ∧ (nw H4 67 (c67 0 0 0) (fun p8 H9 => Pv [b1] H4 H9 ∧ (Gn [] H9 (fun (b13 : Nat) (H15 : Hp) => Bk H15 b13 32 (c32 0 8 8 ⟨(some p3), 1, 1⟩ ⟨(some p8), 1, 1⟩ (zInts 16) ⟨none, 0, 0⟩ (zInts 16) ⟨none, 0, 0⟩ (zInts 16) ⟨none, 0, 0⟩ (zInts 16) ⟨none, 0, 0⟩ (zInts 16) ⟨none, 0, 0⟩ (zInts 16) ⟨none, 0, 0⟩ (zInts 16) ⟨none, 0, 0⟩ (zInts 16) ⟨none, 0, 0⟩ 0 1) → (st H15 (⟨b13, 5, none⟩ : Addr) (.int .u8 1) (fun H16 => Pv [b1] H15 H16 ∧ (st H16 (⟨b13, 6, none⟩ : Addr) (.int .u8 1) (fun H18 => Pv [b1] H16 H18 ∧ (nw H18 5 [.int .u8 0, .int .u8 3] (fun p20 H21 => Pv [b1] H18 H21 ∧ (st H21 (⟨b13, 21, none⟩ : Addr) (.slice (some p20) 2 2) (fun H25 => Pv [b1] H21 H25 ∧ (st H25 (⟨b13, 73, none⟩ : Addr) (.int .u8 1) (fun H27 => Pv [b1] H25 H27 ∧ (nw H27 5 [.int .u8 0] (fun p29 H30 => Pv [b1] H27 H30 ∧ (st H30 (⟨b13, 89, none⟩ : Addr) (.slice (some p29) 1 1) (fun H34 => Pv [b1] H30 H34 ∧ (∃ x36 : Int, ∃ x37 : Int, ∃ x38 : Int, ∃ x39 : Sl, ∃ x40 : Sl, ∃ x41 : Ints 16, ∃ x42 : Sl, ∃ x43 : Ints 16, ∃ x44 : Sl, ∃ x45 : Ints 16, ∃ x46 : Sl, ∃ x47 : Ints 16, ∃ x48 : Sl, ∃ x49 : Ints 16, ∃ x50 : Sl, ∃ x51 : Ints 16, ∃ x52 : Sl, ∃ x53 : Ints 16, ∃ x54 : Sl, ∃ x55 : Ints 16, ∃ x56 : Sl, ∃ x57 : Int, ∃ x58 : Int, ldA H34 (⟨b13, 0, none⟩ : Addr) (c32 x36 x37 x38 x39 x40 x41 x42 x43 x44 x45 x46 x47 x48 x49 x50 x51 x52 x53 x54 x55 x56 x57 x58) ∧ (Gr [b1] H34 (fun (H60 : Hp) => Q (x36, x37, x38, x39, x40, x41, x42, x43, x44, x45, x46, x47, x48, x49, x50, x51, x52, x53, x54, x55, x56, x57, x58) H60)))))))))))))))))))))))
set_option maxRecDepth 20000 in
set_option maxHeartbeats 4000000 in
theorem mosaiclaw17_example.calls (w0 : World) (Q : (Int × Int × Int × Sl × Sl × (Ints 16) × Sl × (Ints 16) × Sl × (Ints 16) × Sl × (Ints 16) × Sl × (Ints 16) × Sl × (Ints 16) × Sl × (Ints 16) × Sl × (Ints 16) × Sl × Int × Int) → Hp → Prop) (h : mosaiclaw17_example.s w0.heap Q) :
    Ca Try.prog 23 #[] w0 (Rt mosaiclaw17_example.enc Q w0) := by
  refine ca_start (c := _) Try.func23 rfl Try.ntmps23 rfl ?_
  have so : Sm w0 w0 := Sm.refl w0
  unfold mosaiclaw17_example.s at h
  refine wc_prune [] trivial (fun f1 => ?_)
  refine wc_seq ?_
  refine wc_region ?_
  refine wl_newT (T := 32) (cs := (c32 0 0 0 ⟨none, 0, 0⟩ ⟨none, 0, 0⟩ (zInts 16) ⟨none, 0, 0⟩ (zInts 16) ⟨none, 0, 0⟩ (zInts 16) ⟨none, 0, 0⟩ (zInts 16) ⟨none, 0, 0⟩ (zInts 16) ⟨none, 0, 0⟩ (zInts 16) ⟨none, 0, 0⟩ (zInts 16) ⟨none, 0, 0⟩ (zInts 16) ⟨none, 0, 0⟩ 0 0)) (ef_alloc zero32 rfl) rfl so ?_; intro b1 w2 hb_b1 t_b1 k_b1 so
  have g_b1 := Nat.le_of_eq hb_b1.symm
  have hc := k_b1.ch (F := [])
  refine wl_nil ?_
  refine wk_prune [(0, .pointer (some (⟨b1, 0, none⟩ : Addr)))] ⟨rfl, trivial⟩ (fun f1 => ?_)
  refine wk_then ?_
  refine wc_seq ?_
  refine wc_region ?_
  refine wl_val (at_build (cs := (c98 1 1 1 0)) (ps := [(0, .int .u8 1), (1, .int .u8 1), (2, .int .u8 1)]) rfl (fun w => by simp [Instr.build, Instr.fill, go_sem, Try.underlying98, z98])) rfl ?_
  obtain ⟨i6, i6a, i6b, i6c, i6d⟩ := info98
  replace h := h b1 _ hc g_b1 t_b1.lt; clear hc
  refine wl_newS (ef_buildSlice (cs := (c98 1 1 1 0)) (ps := [(0, .agg (c98 1 1 1 0).toArray)]) Try.underlying22 i6a i6b rfl (by rw [i6c]; decide) (by rw [i6c]; exact fill_full (vs := [.agg (c98 1 1 1 0).toArray]) rfl (by simp [Value.cells]) (by simp [Value.cells, len98]) rfl (by simp))) rfl so (one98 _ _ _ _) h ?_; intro p3 w4 h r5 so
  obtain ⟨q7, h⟩ := h
  replace t_b1 := pv_bk q7 t_b1 (by simp)
  refine wl_val (at_build (cs := (c24 0 8 8 ⟨(some p3), 1, 1⟩)) (ps := [(1, .int .i64 8), (2, .int .i64 8), (3, .slice (some p3) 1 1)]) rfl (fun w => by simp [Instr.build, Instr.fill, go_sem, Try.underlying24, z24])) rfl ?_
  refine wl_val (at_build (cs := (c67 0 0 0)) (ps := []) rfl (fun w => by simp [Instr.build, Instr.fill, go_sem, Try.underlying67, z67])) rfl ?_
  obtain ⟨i11, i11a, i11b, i11c, i11d⟩ := info67
  refine wl_newS (ef_buildSlice (cs := (c67 0 0 0)) (ps := [(0, .agg (c67 0 0 0).toArray)]) Try.underlying25 i11a i11b rfl (by rw [i11c]; decide) (by rw [i11c]; exact fill_full (vs := [.agg (c67 0 0 0).toArray]) rfl (by simp [Value.cells]) (by simp [Value.cells, len67]) rfl (by simp))) rfl so (one67 _ _ _) h ?_; intro p8 w9 h r10 so
  obtain ⟨q12, h⟩ := h
  replace t_b1 := pv_bk q12 t_b1 (by simp)
  refine wl_val (at_build (cs := (c32 0 8 8 ⟨(some p3), 1, 1⟩ ⟨(some p8), 1, 1⟩ (zInts 16) ⟨none, 0, 0⟩ (zInts 16) ⟨none, 0, 0⟩ (zInts 16) ⟨none, 0, 0⟩ (zInts 16) ⟨none, 0, 0⟩ (zInts 16) ⟨none, 0, 0⟩ (zInts 16) ⟨none, 0, 0⟩ (zInts 16) ⟨none, 0, 0⟩ (zInts 16) ⟨none, 0, 0⟩ 0 1)) (ps := [(0, .agg (c24 0 8 8 ⟨(some p3), 1, 1⟩).toArray), (1, .slice (some p8) 1 1), (5, .int .i64 1)]) rfl (build_struct (szs := [4, 1, 68, 68, 1, 1]) (vs := [.agg (c24 0 0 0 ⟨none, 0, 0⟩).toArray, .slice none 0 0, .agg (c30 (zInts 16) ⟨none, 0, 0⟩ (zInts 16) ⟨none, 0, 0⟩ (zInts 16) ⟨none, 0, 0⟩ (zInts 16) ⟨none, 0, 0⟩).toArray, .agg (c30 (zInts 16) ⟨none, 0, 0⟩ (zInts 16) ⟨none, 0, 0⟩ (zInts 16) ⟨none, 0, 0⟩ (zInts 16) ⟨none, 0, 0⟩).toArray, .int .i64 0, .int .i64 0]) (cs := (c32 0 8 8 ⟨(some p3), 1, 1⟩ ⟨(some p8), 1, 1⟩ (zInts 16) ⟨none, 0, 0⟩ (zInts 16) ⟨none, 0, 0⟩ (zInts 16) ⟨none, 0, 0⟩ (zInts 16) ⟨none, 0, 0⟩ (zInts 16) ⟨none, 0, 0⟩ (zInts 16) ⟨none, 0, 0⟩ (zInts 16) ⟨none, 0, 0⟩ (zInts 16) ⟨none, 0, 0⟩ 0 1)) zero32 (by first | rfl | simp [z32, c32, c24, len24, c30, len30, Value.cells, ints_len, bools_len, List.flatMap]) Try.underlying32 (by kernel_rfl) (by simp [z32, c32, c24, len24, c30, len30, Value.cells, ints_len, bools_len]) (by simp [z32, c32, c24, len24, c30, len30, Value.cells, ints_len, bools_len]) (by first | rfl | simp [z32, c32, c24, len24, c30, len30, Value.cells, ints_len, bools_len, List.set, List.flatMap, mkI, mkB, ints, bools]))) rfl ?_
  refine wl_newT (T := 32) (cs := (c32 0 0 0 ⟨none, 0, 0⟩ ⟨none, 0, 0⟩ (zInts 16) ⟨none, 0, 0⟩ (zInts 16) ⟨none, 0, 0⟩ (zInts 16) ⟨none, 0, 0⟩ (zInts 16) ⟨none, 0, 0⟩ (zInts 16) ⟨none, 0, 0⟩ (zInts 16) ⟨none, 0, 0⟩ (zInts 16) ⟨none, 0, 0⟩ (zInts 16) ⟨none, 0, 0⟩ 0 0)) (ef_alloc zero32 rfl) rfl so ?_; intro b13 w14 hb_b13 t_b13 k_b13 so
  have g_b13 := Nat.le_of_eq hb_b13.symm
  have hc := k_b13.ch (F := [])
  have n_b1_b13 : b1 ≠ b13 := fun e => by have := t_b1.lt; omega
  replace t_b1 := t_b1.keep k_b13
  refine wl_stWT (vs := (c32 0 8 8 ⟨(some p3), 1, 1⟩ ⟨(some p8), 1, 1⟩ (zInts 16) ⟨none, 0, 0⟩ (zInts 16) ⟨none, 0, 0⟩ (zInts 16) ⟨none, 0, 0⟩ (zInts 16) ⟨none, 0, 0⟩ (zInts 16) ⟨none, 0, 0⟩ (zInts 16) ⟨none, 0, 0⟩ (zInts 16) ⟨none, 0, 0⟩ (zInts 16) ⟨none, 0, 0⟩ 0 1)) t_b13 (by first | (rw [len32, len32]) | (rw [len32]) | rfl) rfl so (fun q => ef_storeA (p := (⟨b13, 0, none⟩ : Addr)) (cs := (c32 0 8 8 ⟨(some p3), 1, 1⟩ ⟨(some p8), 1, 1⟩ (zInts 16) ⟨none, 0, 0⟩ (zInts 16) ⟨none, 0, 0⟩ (zInts 16) ⟨none, 0, 0⟩ (zInts 16) ⟨none, 0, 0⟩ (zInts 16) ⟨none, 0, 0⟩ (zInts 16) ⟨none, 0, 0⟩ (zInts 16) ⟨none, 0, 0⟩ (zInts 16) ⟨none, 0, 0⟩ 0 1)) (by rw [len32]; exact sz32) rfl rfl (one32 _ _ _ _ _ _ _ _ _ _ _ _ _ _ _ _ _ _ _ _ _ _ _) q) ?_; intro w15 t_b13 s_w15 so
  replace t_b1 := t_b1.same s_w15 (n_b1_b13)
  replace hc := ch_same hc s_w15 (.inr g_b13)
  refine wl_nil ?_
  refine wk_prune [(0, .pointer (some (⟨b1, 0, none⟩ : Addr))), (1, .pointer (some (⟨b13, 0, none⟩ : Addr)))] ⟨rfl, rfl, trivial⟩ (fun f1 => ?_)
  refine wk_then ?_
  refine wc_seq ?_
  refine wc_region ?_
  refine wl_val (at_fieldAddr Try.underlying32 rfl rfl sz30 (by decide) rfl) rfl ?_
  refine wl_val (at_ixAddrA Try.underlying30 sz29 rfl rfl (by decide) (by decide)) rfl ?_
  refine wl_val (at_fieldAddr Try.underlying29 rfl rfl sz26 (by decide) rfl) rfl ?_
  refine wl_val (at_ixAddrA Try.underlying26 sz5 rfl rfl (by decide) (by decide)) rfl ?_
  replace h := h b13 _ hc g_b13 t_b13.lt; clear hc
  replace h := h t_b13
  refine wl_st (v := .int .u8 1) h rfl so (fun q1 q2 => ef_store (sz := sz5) rfl rfl rfl q1 q2) ?_; intro w16 h so
  obtain ⟨q17, h⟩ := h
  replace t_b1 := pv_bk q17 t_b1 (by simp)
  refine wl_nil ?_
  refine wk_prune [(0, .pointer (some (⟨b1, 0, none⟩ : Addr))), (1, .pointer (some (⟨b13, 0, none⟩ : Addr)))] ⟨rfl, rfl, trivial⟩ (fun f1 => ?_)
  refine wk_then ?_
  refine wc_seq ?_
  refine wc_region ?_
  refine wl_val (at_fieldAddr Try.underlying32 rfl rfl sz30 (by decide) rfl) rfl ?_
  refine wl_val (at_ixAddrA Try.underlying30 sz29 rfl rfl (by decide) (by decide)) rfl ?_
  refine wl_val (at_fieldAddr Try.underlying29 rfl rfl sz26 (by decide) rfl) rfl ?_
  refine wl_val (at_ixAddrA Try.underlying26 sz5 rfl rfl (by decide) (by decide)) rfl ?_
  refine wl_st (v := .int .u8 1) h rfl so (fun q1 q2 => ef_store (sz := sz5) rfl rfl rfl q1 q2) ?_; intro w18 h so
  obtain ⟨q19, h⟩ := h
  replace t_b1 := pv_bk q19 t_b1 (by simp)
  refine wl_nil ?_
  refine wk_prune [(0, .pointer (some (⟨b1, 0, none⟩ : Addr))), (1, .pointer (some (⟨b13, 0, none⟩ : Addr)))] ⟨rfl, rfl, trivial⟩ (fun f1 => ?_)
  refine wk_then ?_
  refine wc_seq ?_
  refine wc_region ?_
  obtain ⟨i23, i23a, i23b, i23c, i23d⟩ := info5
  refine wl_newS (ef_buildSlice (cs := [.int .u8 0, .int .u8 3]) (ps := [(0, .int .u8 0), (1, .int .u8 3)]) Try.underlying27 i23a i23b rfl (by rw [i23c]; decide) (by rw [i23c]; exact fill_full (vs := [.int .u8 0, .int .u8 3]) rfl (by simp [Value.cells]) (by simp [Value.cells]) rfl (by simp))) rfl so (ones_cons rfl (ones_cons rfl ones_nil)) h ?_; intro p20 w21 h r22 so
  obtain ⟨q24, h⟩ := h
  replace t_b1 := pv_bk q24 t_b1 (by simp)
  refine wl_val (at_fieldAddr Try.underlying32 rfl rfl sz30 (by decide) rfl) rfl ?_
  refine wl_val (at_ixAddrA Try.underlying30 sz29 rfl rfl (by decide) (by decide)) rfl ?_
  refine wl_val (at_fieldAddr Try.underlying29 rfl rfl sz27 (by decide) rfl) rfl ?_
  refine wl_st (v := .slice (some p20) 2 2) h rfl so (fun q1 q2 => ef_store (sz := sz27) rfl rfl rfl q1 q2) ?_; intro w25 h so
  obtain ⟨q26, h⟩ := h
  replace t_b1 := pv_bk q26 t_b1 (by simp)
  refine wl_nil ?_
  refine wk_prune [(0, .pointer (some (⟨b1, 0, none⟩ : Addr))), (1, .pointer (some (⟨b13, 0, none⟩ : Addr)))] ⟨rfl, rfl, trivial⟩ (fun f1 => ?_)
  refine wk_then ?_
  refine wc_seq ?_
  refine wc_region ?_
  refine wl_val (at_fieldAddr Try.underlying32 rfl rfl sz30 (by decide) rfl) rfl ?_
  refine wl_val (at_ixAddrA Try.underlying30 sz29 rfl rfl (by decide) (by decide)) rfl ?_
  refine wl_val (at_fieldAddr Try.underlying29 rfl rfl sz26 (by decide) rfl) rfl ?_
  refine wl_val (at_ixAddrA Try.underlying26 sz5 rfl rfl (by decide) (by decide)) rfl ?_
  refine wl_st (v := .int .u8 1) h rfl so (fun q1 q2 => ef_store (sz := sz5) rfl rfl rfl q1 q2) ?_; intro w27 h so
  obtain ⟨q28, h⟩ := h
  replace t_b1 := pv_bk q28 t_b1 (by simp)
  refine wl_nil ?_
  refine wk_prune [(0, .pointer (some (⟨b1, 0, none⟩ : Addr))), (1, .pointer (some (⟨b13, 0, none⟩ : Addr)))] ⟨rfl, rfl, trivial⟩ (fun f1 => ?_)
  refine wk_then ?_
  refine wc_seq ?_
  refine wc_region ?_
  obtain ⟨i32, i32a, i32b, i32c, i32d⟩ := info5
  refine wl_newS (ef_buildSlice (cs := [.int .u8 0]) (ps := [(0, .int .u8 0)]) Try.underlying27 i32a i32b rfl (by rw [i32c]; decide) (by rw [i32c]; exact fill_full (vs := [.int .u8 0]) rfl (by simp [Value.cells]) (by simp [Value.cells]) rfl (by simp))) rfl so (ones_cons rfl ones_nil) h ?_; intro p29 w30 h r31 so
  obtain ⟨q33, h⟩ := h
  replace t_b1 := pv_bk q33 t_b1 (by simp)
  refine wl_val (at_fieldAddr Try.underlying32 rfl rfl sz30 (by decide) rfl) rfl ?_
  refine wl_val (at_ixAddrA Try.underlying30 sz29 rfl rfl (by decide) (by decide)) rfl ?_
  refine wl_val (at_fieldAddr Try.underlying29 rfl rfl sz27 (by decide) rfl) rfl ?_
  refine wl_st (v := .slice (some p29) 1 1) h rfl so (fun q1 q2 => ef_store (sz := sz27) rfl rfl rfl q1 q2) ?_; intro w34 h so
  obtain ⟨q35, h⟩ := h
  replace t_b1 := pv_bk q35 t_b1 (by simp)
  refine wl_nil ?_
  refine wk_prune [(0, .pointer (some (⟨b1, 0, none⟩ : Addr))), (1, .pointer (some (⟨b13, 0, none⟩ : Addr)))] ⟨rfl, rfl, trivial⟩ (fun f1 => ?_)
  refine wk_then ?_
  refine wc_seq ?_
  refine wc_region ?_
  obtain ⟨x36, x37, x38, x39, x40, x41, x42, x43, x44, x45, x46, x47, x48, x49, x50, x51, x52, x53, x54, x55, x56, x57, x58, q59, h⟩ := h
  refine wl_val (at_loadA (cs := (c32 x36 x37 x38 x39 x40 x41 x42 x43 x44 x45 x46 x47 x48 x49 x50 x51 x52 x53 x54 x55 x56 x57 x58)) Try.underlying32 rfl (by rw [len32]; exact sz32) rfl q59) rfl ?_
  refine wl_stWT (vs := (c32 x36 x37 x38 x39 x40 x41 x42 x43 x44 x45 x46 x47 x48 x49 x50 x51 x52 x53 x54 x55 x56 x57 x58)) t_b1 (by first | (rw [len32, len32]) | (rw [len32]) | rfl) rfl so (fun q => ef_storeA (p := (⟨b1, 0, none⟩ : Addr)) (cs := (c32 x36 x37 x38 x39 x40 x41 x42 x43 x44 x45 x46 x47 x48 x49 x50 x51 x52 x53 x54 x55 x56 x57 x58)) (by rw [len32]; exact sz32) rfl rfl (one32 _ _ _ _ _ _ _ _ _ _ _ _ _ _ _ _ _ _ _ _ _ _ _) q) ?_; intro w60 t_b1 s_w60 so
  have hc := s_w60.ch
  refine wl_nil ?_
  refine wk_prune [(0, .pointer (some (⟨b1, 0, none⟩ : Addr)))] ⟨rfl, trivial⟩ (fun f1 => ?_)
  refine wk_then ?_
  refine wc_ret ?_
  replace h := h _ hc; clear hc
  exact wk_retR1 (x := (x36, x37, x38, x39, x40, x41, x42, x43, x44, x45, x46, x47, x48, x49, x50, x51, x52, x53, x54, x55, x56, x57, x58)) rfl ⟨by decide, _, rfl, loadVar_agg (cs := (c32 x36 x37 x38 x39 x40 x41 x42 x43 x44 x45 x46 x47 x48 x49 x50 x51 x52 x53 x54 x55 x56 x57 x58)) Try.underlying32 rfl (by rw [len32]; exact sz32) (ldA_full t_b1)⟩ rfl so h
def mosaiclaw17_alive.enc : Bool → Value := fun r => .bool r
def mosaiclaw17_alive.s (H0 : Hp) (Q : Bool → Hp → Prop) : Prop :=
  mosaiclaw17_example.s H0 (fun x1 H2 => Gn [] H2 (fun (b3 : Nat) (H5 : Hp) => span_Decode.s (⟨#[179]⟩ : ByteArray) 0 1 x1.1 x1.2.1 x1.2.2.1 x1.2.2.2.1 x1.2.2.2.2.1 x1.2.2.2.2.2.1 x1.2.2.2.2.2.2.1 x1.2.2.2.2.2.2.2.1 x1.2.2.2.2.2.2.2.2.1 x1.2.2.2.2.2.2.2.2.2.1 x1.2.2.2.2.2.2.2.2.2.2.1 x1.2.2.2.2.2.2.2.2.2.2.2.1 x1.2.2.2.2.2.2.2.2.2.2.2.2.1 x1.2.2.2.2.2.2.2.2.2.2.2.2.2.1 x1.2.2.2.2.2.2.2.2.2.2.2.2.2.2.1 x1.2.2.2.2.2.2.2.2.2.2.2.2.2.2.2.1 x1.2.2.2.2.2.2.2.2.2.2.2.2.2.2.2.2.1 x1.2.2.2.2.2.2.2.2.2.2.2.2.2.2.2.2.2.1 x1.2.2.2.2.2.2.2.2.2.2.2.2.2.2.2.2.2.2.1 x1.2.2.2.2.2.2.2.2.2.2.2.2.2.2.2.2.2.2.2.1 x1.2.2.2.2.2.2.2.2.2.2.2.2.2.2.2.2.2.2.2.2.1 x1.2.2.2.2.2.2.2.2.2.2.2.2.2.2.2.2.2.2.2.2.2.1 x1.2.2.2.2.2.2.2.2.2.2.2.2.2.2.2.2.2.2.2.2.2.2 H5 (fun x6 H7 => Pv [b3] H5 H7 ∧ (Gn [] H7 (fun (b9 : Nat) (H11 : Hp) => span_Decode.s (⟨#[180]⟩ : ByteArray) 0 1 x1.1 x1.2.1 x1.2.2.1 x1.2.2.2.1 x1.2.2.2.2.1 x1.2.2.2.2.2.1 x1.2.2.2.2.2.2.1 x1.2.2.2.2.2.2.2.1 x1.2.2.2.2.2.2.2.2.1 x1.2.2.2.2.2.2.2.2.2.1 x1.2.2.2.2.2.2.2.2.2.2.1 x1.2.2.2.2.2.2.2.2.2.2.2.1 x1.2.2.2.2.2.2.2.2.2.2.2.2.1 x1.2.2.2.2.2.2.2.2.2.2.2.2.2.1 x1.2.2.2.2.2.2.2.2.2.2.2.2.2.2.1 x1.2.2.2.2.2.2.2.2.2.2.2.2.2.2.2.1 x1.2.2.2.2.2.2.2.2.2.2.2.2.2.2.2.2.1 x1.2.2.2.2.2.2.2.2.2.2.2.2.2.2.2.2.2.1 x1.2.2.2.2.2.2.2.2.2.2.2.2.2.2.2.2.2.2.1 x1.2.2.2.2.2.2.2.2.2.2.2.2.2.2.2.2.2.2.2.1 x1.2.2.2.2.2.2.2.2.2.2.2.2.2.2.2.2.2.2.2.2.1 x1.2.2.2.2.2.2.2.2.2.2.2.2.2.2.2.2.2.2.2.2.2.1 x1.2.2.2.2.2.2.2.2.2.2.2.2.2.2.2.2.2.2.2.2.2.2 H11 (fun x12 H13 => Pv [b3, b9] H11 H13 ∧ (Gn [] H13 (fun (b15 : Nat) (H17 : Hp) => span_Decode.s (⟨#[128]⟩ : ByteArray) 0 1 x1.1 x1.2.1 x1.2.2.1 x1.2.2.2.1 x1.2.2.2.2.1 x1.2.2.2.2.2.1 x1.2.2.2.2.2.2.1 x1.2.2.2.2.2.2.2.1 x1.2.2.2.2.2.2.2.2.1 x1.2.2.2.2.2.2.2.2.2.1 x1.2.2.2.2.2.2.2.2.2.2.1 x1.2.2.2.2.2.2.2.2.2.2.2.1 x1.2.2.2.2.2.2.2.2.2.2.2.2.1 x1.2.2.2.2.2.2.2.2.2.2.2.2.2.1 x1.2.2.2.2.2.2.2.2.2.2.2.2.2.2.1 x1.2.2.2.2.2.2.2.2.2.2.2.2.2.2.2.1 x1.2.2.2.2.2.2.2.2.2.2.2.2.2.2.2.2.1 x1.2.2.2.2.2.2.2.2.2.2.2.2.2.2.2.2.2.1 x1.2.2.2.2.2.2.2.2.2.2.2.2.2.2.2.2.2.2.1 x1.2.2.2.2.2.2.2.2.2.2.2.2.2.2.2.2.2.2.2.1 x1.2.2.2.2.2.2.2.2.2.2.2.2.2.2.2.2.2.2.2.2.1 x1.2.2.2.2.2.2.2.2.2.2.2.2.2.2.2.2.2.2.2.2.2.1 x1.2.2.2.2.2.2.2.2.2.2.2.2.2.2.2.2.2.2.2.2.2.2 H17 (fun x18 H19 => Pv [b9, b15] H17 H19 ∧ (Gn [] H19 (fun (b21 : Nat) (H23 : Hp) => Join (fun (s25 : Bool) (H26 : Hp) => Join (fun (s28 : Bool) (H29 : Hp) => if s25 = true then (if s28 = true then (if (x18.2.2.2.2 == 0) = true then (Q (x18.1 == 3) H29) else (Q false H29)) else (Q false H29)) else (Q false H29)) (fun (J27 : Bool → Hp → Prop) => if (x12.2.2.2.2 == 0) = true then (if (x12.1 == 4) = true then (if (x12.2.1 == 0) = true then (J27 (((x12.2.2.2.1.n : Int) == 0)) H26) else (J27 (false) H26)) else (J27 (false) H26)) else (J27 (false) H26))) (fun (J24 : Bool → Hp → Prop) => if (x6.2.2.2.2 == 0) = true then (if (x6.1 == 1) = true then (if (x6.2.1 == 1) = true then (if (x6.2.2.1 == 6) = true then (if ((x6.2.2.2.1.n : Int) == 1) = true then (0 ≤ (0 : Int) ∧ (0 : Int) < (x6.2.2.2.1.n : Int) ∧ someA x6.2.2.2.1.a (fun p32 => ∃ x34 : Ints 64, ldA H23 (p32.add (Int.toNat 0 * 64)) (c54 x34) ∧ (J24 ((x34.1 == (mkI (n := 64) [6, 0, 0, 0, 0, 0, 0, 0, 0, 0, 0, 0, 0, 0, 0, 0, 0, 0, 0, 0, 0, 0, 0, 0, 0, 0, 0, 0, 0, 0, 0, 0, 0, 0, 0, 0, 0, 0, 0, 0, 0, 0, 0, 0, 0, 0, 0, 0, 0, 0, 0, 0, 0, 0, 0, 0, 0, 0, 0, 0, 0, 0, 0, 0] (by rfl)).1)) H23))) else (J24 (false) H23)) else (J24 (false) H23)) else (J24 (false) H23)) else (J24 (false) H23)) else (J24 (false) H23)))))))))))))
set_option maxRecDepth 20000 in
set_option maxHeartbeats 4000000 in
theorem mosaiclaw17_alive.calls (w0 : World) (Q : Bool → Hp → Prop) (h : mosaiclaw17_alive.s w0.heap Q) :
    Ca Try.prog 11 #[] w0 (Rt mosaiclaw17_alive.enc Q w0) := by
  refine ca_start (c := _) Try.func11 rfl Try.ntmps11 rfl ?_
  have so : Sm w0 w0 := Sm.refl w0
  unfold mosaiclaw17_alive.s at h
  refine wc_prune [] trivial (fun f1 => ?_)
  refine wc_seq ?_
  refine wc_region ?_
  refine wl_val (at_assign rfl) rfl ?_
  refine wl_nil ?_
  refine wk_prune [] trivial (fun f1 => ?_)
  refine wk_then ?_
  refine wc_seq ?_
  refine wc_region ?_
  refine wl_callF (mosaiclaw17_example.calls _ _ h) enter23 rfl trivial so ?_; intro x1 w2 h so
  refine wl_newT (T := 32) (cs := (c32 0 0 0 ⟨none, 0, 0⟩ ⟨none, 0, 0⟩ (zInts 16) ⟨none, 0, 0⟩ (zInts 16) ⟨none, 0, 0⟩ (zInts 16) ⟨none, 0, 0⟩ (zInts 16) ⟨none, 0, 0⟩ (zInts 16) ⟨none, 0, 0⟩ (zInts 16) ⟨none, 0, 0⟩ (zInts 16) ⟨none, 0, 0⟩ (zInts 16) ⟨none, 0, 0⟩ 0 0)) (ef_alloc zero32 rfl) rfl so ?_; intro b3 w4 hb_b3 t_b3 k_b3 so
  have g_b3 := Nat.le_of_eq hb_b3.symm
  have hc := k_b3.ch (F := [])
  refine wl_stWT (vs := (c32 x1.1 x1.2.1 x1.2.2.1 x1.2.2.2.1 x1.2.2.2.2.1 x1.2.2.2.2.2.1 x1.2.2.2.2.2.2.1 x1.2.2.2.2.2.2.2.1 x1.2.2.2.2.2.2.2.2.1 x1.2.2.2.2.2.2.2.2.2.1 x1.2.2.2.2.2.2.2.2.2.2.1 x1.2.2.2.2.2.2.2.2.2.2.2.1 x1.2.2.2.2.2.2.2.2.2.2.2.2.1 x1.2.2.2.2.2.2.2.2.2.2.2.2.2.1 x1.2.2.2.2.2.2.2.2.2.2.2.2.2.2.1 x1.2.2.2.2.2.2.2.2.2.2.2.2.2.2.2.1 x1.2.2.2.2.2.2.2.2.2.2.2.2.2.2.2.2.1 x1.2.2.2.2.2.2.2.2.2.2.2.2.2.2.2.2.2.1 x1.2.2.2.2.2.2.2.2.2.2.2.2.2.2.2.2.2.2.1 x1.2.2.2.2.2.2.2.2.2.2.2.2.2.2.2.2.2.2.2.1 x1.2.2.2.2.2.2.2.2.2.2.2.2.2.2.2.2.2.2.2.2.1 x1.2.2.2.2.2.2.2.2.2.2.2.2.2.2.2.2.2.2.2.2.2.1 x1.2.2.2.2.2.2.2.2.2.2.2.2.2.2.2.2.2.2.2.2.2.2)) t_b3 (by first | (rw [len32, len32]) | (rw [len32]) | rfl) rfl so (fun q => ef_storeA (p := (⟨b3, 0, none⟩ : Addr)) (cs := (c32 x1.1 x1.2.1 x1.2.2.1 x1.2.2.2.1 x1.2.2.2.2.1 x1.2.2.2.2.2.1 x1.2.2.2.2.2.2.1 x1.2.2.2.2.2.2.2.1 x1.2.2.2.2.2.2.2.2.1 x1.2.2.2.2.2.2.2.2.2.1 x1.2.2.2.2.2.2.2.2.2.2.1 x1.2.2.2.2.2.2.2.2.2.2.2.1 x1.2.2.2.2.2.2.2.2.2.2.2.2.1 x1.2.2.2.2.2.2.2.2.2.2.2.2.2.1 x1.2.2.2.2.2.2.2.2.2.2.2.2.2.2.1 x1.2.2.2.2.2.2.2.2.2.2.2.2.2.2.2.1 x1.2.2.2.2.2.2.2.2.2.2.2.2.2.2.2.2.1 x1.2.2.2.2.2.2.2.2.2.2.2.2.2.2.2.2.2.1 x1.2.2.2.2.2.2.2.2.2.2.2.2.2.2.2.2.2.2.1 x1.2.2.2.2.2.2.2.2.2.2.2.2.2.2.2.2.2.2.2.1 x1.2.2.2.2.2.2.2.2.2.2.2.2.2.2.2.2.2.2.2.2.1 x1.2.2.2.2.2.2.2.2.2.2.2.2.2.2.2.2.2.2.2.2.2.1 x1.2.2.2.2.2.2.2.2.2.2.2.2.2.2.2.2.2.2.2.2.2.2)) (by rw [len32]; exact sz32) rfl rfl (one32 _ _ _ _ _ _ _ _ _ _ _ _ _ _ _ _ _ _ _ _ _ _ _) q) ?_; intro w5 t_b3 s_w5 so
  replace hc := ch_same hc s_w5 (.inr g_b3)
  refine wl_nil ?_
  refine wk_prune [(1, .pointer (some (⟨b3, 0, none⟩ : Addr)))] ⟨rfl, trivial⟩ (fun f1 => ?_)
  refine wk_then ?_
  refine wc_seq ?_
  refine wc_region ?_
  refine wl_val (at_loadA (cs := (c32 x1.1 x1.2.1 x1.2.2.1 x1.2.2.2.1 x1.2.2.2.2.1 x1.2.2.2.2.2.1 x1.2.2.2.2.2.2.1 x1.2.2.2.2.2.2.2.1 x1.2.2.2.2.2.2.2.2.1 x1.2.2.2.2.2.2.2.2.2.1 x1.2.2.2.2.2.2.2.2.2.2.1 x1.2.2.2.2.2.2.2.2.2.2.2.1 x1.2.2.2.2.2.2.2.2.2.2.2.2.1 x1.2.2.2.2.2.2.2.2.2.2.2.2.2.1 x1.2.2.2.2.2.2.2.2.2.2.2.2.2.2.1 x1.2.2.2.2.2.2.2.2.2.2.2.2.2.2.2.1 x1.2.2.2.2.2.2.2.2.2.2.2.2.2.2.2.2.1 x1.2.2.2.2.2.2.2.2.2.2.2.2.2.2.2.2.2.1 x1.2.2.2.2.2.2.2.2.2.2.2.2.2.2.2.2.2.2.1 x1.2.2.2.2.2.2.2.2.2.2.2.2.2.2.2.2.2.2.2.1 x1.2.2.2.2.2.2.2.2.2.2.2.2.2.2.2.2.2.2.2.2.1 x1.2.2.2.2.2.2.2.2.2.2.2.2.2.2.2.2.2.2.2.2.2.1 x1.2.2.2.2.2.2.2.2.2.2.2.2.2.2.2.2.2.2.2.2.2.2)) Try.underlying32 rfl (by rw [len32]; exact sz32) rfl (ldA_full t_b3)) rfl ?_
  replace h := h b3 _ hc g_b3 t_b3.lt; clear hc
  refine wl_callF (span_Decode.calls _ _ _ _ _ _ _ _ _ _ _ _ _ _ _ _ _ _ _ _ _ _ _ _ _ _ _ _ h) enter13 rfl trivial so ?_; intro x6 w7 h so
  obtain ⟨q8, h⟩ := h
  replace t_b3 := pv_bk q8 t_b3 (by simp)
  refine wl_val (at_move rfl) rfl ?_
  refine wl_val (at_extract rfl rfl) rfl ?_
  refine wl_val (at_extract rfl rfl) rfl ?_
  refine wl_newT (T := 40) (cs := (c40 0 0 0 ⟨none, 0, 0⟩)) (ef_alloc zero40 rfl) rfl so ?_; intro b9 w10 hb_b9 t_b9 k_b9 so
  have g_b9 := Nat.le_of_eq hb_b9.symm
  have hc := k_b9.ch (F := [])
  have n_b3_b9 : b3 ≠ b9 := fun e => by have := t_b3.lt; omega
  replace t_b3 := t_b3.keep k_b9
  refine wl_stWT (vs := (c40 x6.1 x6.2.1 x6.2.2.1 x6.2.2.2.1)) t_b9 (by first | (rw [len40, len40]) | (rw [len40]) | rfl) rfl so (fun q => ef_storeA (p := (⟨b9, 0, none⟩ : Addr)) (cs := (c40 x6.1 x6.2.1 x6.2.2.1 x6.2.2.2.1)) (by rw [len40]; exact sz40) rfl rfl (one40 _ _ _ _) q) ?_; intro w11 t_b9 s_w11 so
  replace t_b3 := t_b3.same s_w11 (n_b3_b9)
  replace hc := ch_same hc s_w11 (.inr g_b9)
  refine wl_val (at_assign rfl) rfl ?_
  refine wl_nil ?_
  refine wk_prune [(1, .pointer (some (⟨b3, 0, none⟩ : Addr))), (2, .pointer (some (⟨b9, 0, none⟩ : Addr))), (3, .int .i64 x6.2.2.2.2)] ⟨rfl, rfl, rfl, trivial⟩ (fun f1 => ?_)
  refine wk_then ?_
  refine wc_seq ?_
  refine wc_region ?_
  refine wl_val (at_loadA (cs := (c32 x1.1 x1.2.1 x1.2.2.1 x1.2.2.2.1 x1.2.2.2.2.1 x1.2.2.2.2.2.1 x1.2.2.2.2.2.2.1 x1.2.2.2.2.2.2.2.1 x1.2.2.2.2.2.2.2.2.1 x1.2.2.2.2.2.2.2.2.2.1 x1.2.2.2.2.2.2.2.2.2.2.1 x1.2.2.2.2.2.2.2.2.2.2.2.1 x1.2.2.2.2.2.2.2.2.2.2.2.2.1 x1.2.2.2.2.2.2.2.2.2.2.2.2.2.1 x1.2.2.2.2.2.2.2.2.2.2.2.2.2.2.1 x1.2.2.2.2.2.2.2.2.2.2.2.2.2.2.2.1 x1.2.2.2.2.2.2.2.2.2.2.2.2.2.2.2.2.1 x1.2.2.2.2.2.2.2.2.2.2.2.2.2.2.2.2.2.1 x1.2.2.2.2.2.2.2.2.2.2.2.2.2.2.2.2.2.2.1 x1.2.2.2.2.2.2.2.2.2.2.2.2.2.2.2.2.2.2.2.1 x1.2.2.2.2.2.2.2.2.2.2.2.2.2.2.2.2.2.2.2.2.1 x1.2.2.2.2.2.2.2.2.2.2.2.2.2.2.2.2.2.2.2.2.2.1 x1.2.2.2.2.2.2.2.2.2.2.2.2.2.2.2.2.2.2.2.2.2.2)) Try.underlying32 rfl (by rw [len32]; exact sz32) rfl (ldA_full t_b3)) rfl ?_
  replace h := h b9 _ hc g_b9 t_b9.lt; clear hc
  refine wl_callF (span_Decode.calls _ _ _ _ _ _ _ _ _ _ _ _ _ _ _ _ _ _ _ _ _ _ _ _ _ _ _ _ h) enter13 rfl trivial so ?_; intro x12 w13 h so
  obtain ⟨q14, h⟩ := h
  replace t_b3 := pv_bk q14 t_b3 (by simp)
  replace t_b9 := pv_bk q14 t_b9 (by simp)
  refine wl_val (at_move rfl) rfl ?_
  refine wl_val (at_extract rfl rfl) rfl ?_
  refine wl_val (at_extract rfl rfl) rfl ?_
  refine wl_newT (T := 40) (cs := (c40 0 0 0 ⟨none, 0, 0⟩)) (ef_alloc zero40 rfl) rfl so ?_; intro b15 w16 hb_b15 t_b15 k_b15 so
  have g_b15 := Nat.le_of_eq hb_b15.symm
  have hc := k_b15.ch (F := [])
  have n_b3_b15 : b3 ≠ b15 := fun e => by have := t_b3.lt; omega
  replace t_b3 := t_b3.keep k_b15
  have n_b9_b15 : b9 ≠ b15 := fun e => by have := t_b9.lt; omega
  replace t_b9 := t_b9.keep k_b15
  refine wl_stWT (vs := (c40 x12.1 x12.2.1 x12.2.2.1 x12.2.2.2.1)) t_b15 (by first | (rw [len40, len40]) | (rw [len40]) | rfl) rfl so (fun q => ef_storeA (p := (⟨b15, 0, none⟩ : Addr)) (cs := (c40 x12.1 x12.2.1 x12.2.2.1 x12.2.2.2.1)) (by rw [len40]; exact sz40) rfl rfl (one40 _ _ _ _) q) ?_; intro w17 t_b15 s_w17 so
  replace t_b3 := t_b3.same s_w17 (n_b3_b15)
  replace t_b9 := t_b9.same s_w17 (n_b9_b15)
  replace hc := ch_same hc s_w17 (.inr g_b15)
  refine wl_val (at_assign rfl) rfl ?_
  refine wl_nil ?_
  refine wk_prune [(1, .pointer (some (⟨b3, 0, none⟩ : Addr))), (2, .pointer (some (⟨b9, 0, none⟩ : Addr))), (3, .int .i64 x6.2.2.2.2), (4, .pointer (some (⟨b15, 0, none⟩ : Addr))), (5, .int .i64 x12.2.2.2.2)] ⟨rfl, rfl, rfl, rfl, rfl, trivial⟩ (fun f1 => ?_)
  refine wk_then ?_
  refine wc_seq ?_
  refine wc_region ?_
  refine wl_val (at_loadA (cs := (c32 x1.1 x1.2.1 x1.2.2.1 x1.2.2.2.1 x1.2.2.2.2.1 x1.2.2.2.2.2.1 x1.2.2.2.2.2.2.1 x1.2.2.2.2.2.2.2.1 x1.2.2.2.2.2.2.2.2.1 x1.2.2.2.2.2.2.2.2.2.1 x1.2.2.2.2.2.2.2.2.2.2.1 x1.2.2.2.2.2.2.2.2.2.2.2.1 x1.2.2.2.2.2.2.2.2.2.2.2.2.1 x1.2.2.2.2.2.2.2.2.2.2.2.2.2.1 x1.2.2.2.2.2.2.2.2.2.2.2.2.2.2.1 x1.2.2.2.2.2.2.2.2.2.2.2.2.2.2.2.1 x1.2.2.2.2.2.2.2.2.2.2.2.2.2.2.2.2.1 x1.2.2.2.2.2.2.2.2.2.2.2.2.2.2.2.2.2.1 x1.2.2.2.2.2.2.2.2.2.2.2.2.2.2.2.2.2.2.1 x1.2.2.2.2.2.2.2.2.2.2.2.2.2.2.2.2.2.2.2.1 x1.2.2.2.2.2.2.2.2.2.2.2.2.2.2.2.2.2.2.2.2.1 x1.2.2.2.2.2.2.2.2.2.2.2.2.2.2.2.2.2.2.2.2.2.1 x1.2.2.2.2.2.2.2.2.2.2.2.2.2.2.2.2.2.2.2.2.2.2)) Try.underlying32 rfl (by rw [len32]; exact sz32) rfl (ldA_full t_b3)) rfl ?_
  replace h := h b15 _ hc g_b15 t_b15.lt; clear hc
  refine wl_callF (span_Decode.calls _ _ _ _ _ _ _ _ _ _ _ _ _ _ _ _ _ _ _ _ _ _ _ _ _ _ _ _ h) enter13 rfl trivial so ?_; intro x18 w19 h so
  obtain ⟨q20, h⟩ := h
  replace t_b9 := pv_bk q20 t_b9 (by simp)
  replace t_b15 := pv_bk q20 t_b15 (by simp)
  refine wl_val (at_move rfl) rfl ?_
  refine wl_val (at_extract rfl rfl) rfl ?_
  refine wl_val (at_extract rfl rfl) rfl ?_
  refine wl_newT (T := 40) (cs := (c40 0 0 0 ⟨none, 0, 0⟩)) (ef_alloc zero40 rfl) rfl so ?_; intro b21 w22 hb_b21 t_b21 k_b21 so
  have g_b21 := Nat.le_of_eq hb_b21.symm
  have hc := k_b21.ch (F := [])
  have n_b9_b21 : b9 ≠ b21 := fun e => by have := t_b9.lt; omega
  replace t_b9 := t_b9.keep k_b21
  have n_b15_b21 : b15 ≠ b21 := fun e => by have := t_b15.lt; omega
  replace t_b15 := t_b15.keep k_b21
  refine wl_stWT (vs := (c40 x18.1 x18.2.1 x18.2.2.1 x18.2.2.2.1)) t_b21 (by first | (rw [len40, len40]) | (rw [len40]) | rfl) rfl so (fun q => ef_storeA (p := (⟨b21, 0, none⟩ : Addr)) (cs := (c40 x18.1 x18.2.1 x18.2.2.1 x18.2.2.2.1)) (by rw [len40]; exact sz40) rfl rfl (one40 _ _ _ _) q) ?_; intro w23 t_b21 s_w23 so
  replace t_b9 := t_b9.same s_w23 (n_b9_b21)
  replace t_b15 := t_b15.same s_w23 (n_b15_b21)
  replace hc := ch_same hc s_w23 (.inr g_b21)
  refine wl_val (at_assign rfl) rfl ?_
  refine wl_nil ?_
  refine wk_prune [(2, .pointer (some (⟨b9, 0, none⟩ : Addr))), (3, .int .i64 x6.2.2.2.2), (4, .pointer (some (⟨b15, 0, none⟩ : Addr))), (5, .int .i64 x12.2.2.2.2), (6, .pointer (some (⟨b21, 0, none⟩ : Addr))), (7, .int .i64 x18.2.2.2.2)] ⟨rfl, rfl, rfl, rfl, rfl, rfl, trivial⟩ (fun f1 => ?_)
  refine wk_then ?_
  replace h := h b21 _ hc g_b21 t_b21.lt; clear hc
  refine wc_seq ?_
  refine wc_joinG (w0 := w0) (fun (H : Hp) => Bk H b15 40 (c40 x12.1 x12.2.1 x12.2.2.1 x12.2.2.2.1) ∧ Bk H b21 40 (c40 x18.1 x18.2.1 x18.2.2.1 x18.2.2.2.1) ∧ True) (fun (s25 : Bool) => [(4, .pointer (some (⟨b15, 0, none⟩ : Addr))), (5, .int .i64 x12.2.2.2.2), (6, .pointer (some (⟨b21, 0, none⟩ : Addr))), (7, .int .i64 x18.2.2.2.2), (8, .bool s25)]) (fun (s25 : Bool) => []) h ?_ ?_
  · rintro s25 w26 f1 h ⟨t_b15, t_b21, _⟩ so; refine wk_then ?_
    refine wc_seq ?_
    refine wc_joinG (w0 := w0) (fun (H : Hp) => Bk H b21 40 (c40 x18.1 x18.2.1 x18.2.2.1 x18.2.2.2.1) ∧ True) (fun (s28 : Bool) => [(6, .pointer (some (⟨b21, 0, none⟩ : Addr))), (7, .int .i64 x18.2.2.2.2), (8, .bool s25), (9, .bool s28)]) (fun (s28 : Bool) => []) h ?_ ?_
    · rintro s28 w29 f1 h ⟨t_b21, _⟩ so; refine wk_then ?_
      refine wc_seq ?_
      refine wc_region ?_
      refine wl_val (at_move rfl) rfl ?_
      refine wl_val (at_move rfl) rfl ?_
      refine bif_ h (fun hb h => ?_) (fun hb h => ?_)
      · refine wl_set (t := 76) (v := .bool true) (congrArg Value.bool hb) ?_; clear hb
        refine wl_on (t := 76) rfl (by decide) rfl ?_
        refine wl_val (at_move rfl) rfl ?_
        refine wl_val (at_pick_t rfl rfl) rfl ?_
        refine wl_val (at_move rfl) rfl ?_
        refine bif_ h (fun hb h => ?_) (fun hb h => ?_)
        · refine wl_set (t := 79) (v := .bool true) (congrArg Value.bool hb) ?_; clear hb
          refine wl_on (t := 79) rfl (by decide) rfl ?_
          refine wl_val (at_move rfl) rfl ?_
          refine wl_on (t := 79) rfl (by decide) rfl ?_
          refine wl_val (at_eql rfl rfl) rfl ?_
          refine wl_val (at_pick_t rfl rfl) rfl ?_
          refine wl_val (at_move rfl) rfl ?_
          refine bif_ h (fun hb h => ?_) (fun hb h => ?_)
          · refine wl_set (t := 83) (v := .bool true) (congrArg Value.bool hb) ?_; clear hb
            refine wl_on (t := 83) rfl (by decide) rfl ?_
            refine wl_val (at_fieldAddr Try.underlying40 rfl rfl sz37 (by decide) rfl) rfl ?_
            refine wl_on (t := 83) rfl (by decide) rfl ?_
            refine wl_val (at_load (v := .int .i8 x18.1) Try.underlying37 rfl rfl ((t_b21.cell 0).trans (by first | rfl | simp [List.getElem?_append, ints_len, bools_len]))) rfl ?_
            refine wl_on (t := 83) rfl (by decide) rfl ?_
            refine wl_val (at_eql rfl rfl) rfl ?_
            refine wl_val (at_pick_t rfl rfl) rfl ?_
            refine wl_val (at_assign rfl) rfl ?_
            refine wl_nil ?_
            refine wk_prune [(0, .bool (x18.1 == 3))] ⟨rfl, trivial⟩ (fun f1 => ?_)
            refine wk_then ?_
            refine wc_ret ?_
            exact wk_ret1 (x := (x18.1 == 3)) rfl (by decide) rfl so h
          · refine wl_set (t := 83) (v := .bool false) (congrArg Value.bool hb) ?_; clear hb
            refine wl_off (t := 83) rfl (by decide) rfl ?_
            refine wl_off (t := 83) rfl (by decide) rfl ?_
            refine wl_off (t := 83) rfl (by decide) rfl ?_
            refine wl_val (at_pick_f rfl rfl) rfl ?_
            refine wl_val (at_assign rfl) rfl ?_
            refine wl_nil ?_
            refine wk_prune [(0, .bool false)] ⟨rfl, trivial⟩ (fun f1 => ?_)
            refine wk_then ?_
            refine wc_ret ?_
            exact wk_ret1 (x := false) rfl (by decide) rfl so h
        · refine wl_set (t := 79) (v := .bool false) (congrArg Value.bool hb) ?_; clear hb
          refine wl_off (t := 79) rfl (by decide) rfl ?_
          refine wl_off (t := 79) rfl (by decide) rfl ?_
          refine wl_val (at_pick_f rfl rfl) rfl ?_
          refine wl_val (at_move rfl) rfl ?_
          refine wl_off (t := 83) rfl (by decide) rfl ?_
          refine wl_off (t := 83) rfl (by decide) rfl ?_
          refine wl_off (t := 83) rfl (by decide) rfl ?_
          refine wl_val (at_pick_f rfl rfl) rfl ?_
          refine wl_val (at_assign rfl) rfl ?_
          refine wl_nil ?_
          refine wk_prune [(0, .bool false)] ⟨rfl, trivial⟩ (fun f1 => ?_)
          refine wk_then ?_
          refine wc_ret ?_
          exact wk_ret1 (x := false) rfl (by decide) rfl so h
      · refine wl_set (t := 76) (v := .bool false) (congrArg Value.bool hb) ?_; clear hb
        refine wl_off (t := 76) rfl (by decide) rfl ?_
        refine wl_val (at_pick_f rfl rfl) rfl ?_
        refine wl_val (at_move rfl) rfl ?_
        refine wl_off (t := 79) rfl (by decide) rfl ?_
        refine wl_off (t := 79) rfl (by decide) rfl ?_
        refine wl_val (at_pick_f rfl rfl) rfl ?_
        refine wl_val (at_move rfl) rfl ?_
        refine wl_off (t := 83) rfl (by decide) rfl ?_
        refine wl_off (t := 83) rfl (by decide) rfl ?_
        refine wl_off (t := 83) rfl (by decide) rfl ?_
        refine wl_val (at_pick_f rfl rfl) rfl ?_
        refine wl_val (at_assign rfl) rfl ?_
        refine wl_nil ?_
        refine wk_prune [(0, .bool false)] ⟨rfl, trivial⟩ (fun f1 => ?_)
        refine wk_then ?_
        refine wc_ret ?_
        exact wk_ret1 (x := false) rfl (by decide) rfl so h
    · intro J27 h hJ27
      refine wc_region ?_
      refine wl_val (at_move rfl) rfl ?_
      refine wl_val (at_eql rfl rfl) rfl ?_
      refine wl_val (at_move rfl) rfl ?_
      refine bif_ h (fun hb h => ?_) (fun hb h => ?_)
      · refine wl_set (t := 59) (v := .bool true) (congrArg Value.bool hb) ?_; clear hb
        refine wl_on (t := 59) rfl (by decide) rfl ?_
        refine wl_val (at_fieldAddr Try.underlying40 rfl rfl sz37 (by decide) rfl) rfl ?_
        refine wl_on (t := 59) rfl (by decide) rfl ?_
        refine wl_val (at_load (v := .int .i8 x12.1) Try.underlying37 rfl rfl ((t_b15.cell 0).trans (by first | rfl | simp [List.getElem?_append, ints_len, bools_len]))) rfl ?_
        refine wl_on (t := 59) rfl (by decide) rfl ?_
        refine wl_val (at_eql rfl rfl) rfl ?_
        refine wl_val (at_pick_t rfl rfl) rfl ?_
        refine wl_val (at_move rfl) rfl ?_
        refine bif_ h (fun hb h => ?_) (fun hb h => ?_)
        · refine wl_set (t := 64) (v := .bool true) (congrArg Value.bool hb) ?_; clear hb
          refine wl_on (t := 64) rfl (by decide) rfl ?_
          refine wl_val (at_fieldAddr Try.underlying40 rfl rfl sz3 (by decide) rfl) rfl ?_
          refine wl_on (t := 64) rfl (by decide) rfl ?_
          refine wl_val (at_load (v := .int .i64 x12.2.1) Try.underlying3 rfl rfl ((t_b15.cell 1).trans (by first | rfl | simp [List.getElem?_append, ints_len, bools_len]))) rfl ?_
          refine wl_on (t := 64) rfl (by decide) rfl ?_
          refine wl_val (at_eql rfl rfl) rfl ?_
          refine wl_val (at_pick_t rfl rfl) rfl ?_
          refine wl_val (at_move rfl) rfl ?_
          refine bif_ h (fun hb h => ?_) (fun hb h => ?_)
          · refine wl_set (t := 69) (v := .bool true) (congrArg Value.bool hb) ?_; clear hb
            refine wl_on (t := 69) rfl (by decide) rfl ?_
            refine wl_val (at_fieldAddr Try.underlying40 rfl rfl sz38 (by decide) rfl) rfl ?_
            refine wl_on (t := 69) rfl (by decide) rfl ?_
            refine wl_val (at_load (v := .slice x12.2.2.2.1.a x12.2.2.2.1.n x12.2.2.2.1.c) Try.underlying38 rfl rfl ((t_b15.cell 3).trans (by first | rfl | simp [List.getElem?_append, ints_len, bools_len]))) rfl ?_
            refine wl_on (t := 69) rfl (by decide) rfl ?_
            refine wl_val (at_lenL Try.underlying38 rfl) rfl ?_
            refine wl_on (t := 69) rfl (by decide) rfl ?_
            refine wl_val (at_eql rfl rfl) rfl ?_
            refine wl_val (at_pick_t rfl rfl) rfl ?_
            refine wl_val (at_assign rfl) rfl ?_
            refine wl_nil ?_
            exact wk_prune [(6, .pointer (some (⟨b21, 0, none⟩ : Addr))), (7, .int .i64 x18.2.2.2.2), (8, .bool s25), (9, .bool ((x12.2.2.2.1.n : Int) == 0))] ⟨rfl, rfl, rfl, rfl, trivial⟩ (fun f1 => hJ27 (((x12.2.2.2.1.n : Int) == 0)) _ f1 h ⟨t_b21, trivial⟩ so)
          · refine wl_set (t := 69) (v := .bool false) (congrArg Value.bool hb) ?_; clear hb
            refine wl_off (t := 69) rfl (by decide) rfl ?_
            refine wl_off (t := 69) rfl (by decide) rfl ?_
            refine wl_off (t := 69) rfl (by decide) rfl ?_
            refine wl_off (t := 69) rfl (by decide) rfl ?_
            refine wl_val (at_pick_f rfl rfl) rfl ?_
            refine wl_val (at_assign rfl) rfl ?_
            refine wl_nil ?_
            exact wk_prune [(6, .pointer (some (⟨b21, 0, none⟩ : Addr))), (7, .int .i64 x18.2.2.2.2), (8, .bool s25), (9, .bool false)] ⟨rfl, rfl, rfl, rfl, trivial⟩ (fun f1 => hJ27 (false) _ f1 h ⟨t_b21, trivial⟩ so)
        · refine wl_set (t := 64) (v := .bool false) (congrArg Value.bool hb) ?_; clear hb
          refine wl_off (t := 64) rfl (by decide) rfl ?_
          refine wl_off (t := 64) rfl (by decide) rfl ?_
          refine wl_off (t := 64) rfl (by decide) rfl ?_
          refine wl_val (at_pick_f rfl rfl) rfl ?_
          refine wl_val (at_move rfl) rfl ?_
          refine wl_off (t := 69) rfl (by decide) rfl ?_
          refine wl_off (t := 69) rfl (by decide) rfl ?_
          refine wl_off (t := 69) rfl (by decide) rfl ?_
          refine wl_off (t := 69) rfl (by decide) rfl ?_
          refine wl_val (at_pick_f rfl rfl) rfl ?_
          refine wl_val (at_assign rfl) rfl ?_
          refine wl_nil ?_
          exact wk_prune [(6, .pointer (some (⟨b21, 0, none⟩ : Addr))), (7, .int .i64 x18.2.2.2.2), (8, .bool s25), (9, .bool false)] ⟨rfl, rfl, rfl, rfl, trivial⟩ (fun f1 => hJ27 (false) _ f1 h ⟨t_b21, trivial⟩ so)
      · refine wl_set (t := 59) (v := .bool false) (congrArg Value.bool hb) ?_; clear hb
        refine wl_off (t := 59) rfl (by decide) rfl ?_
        refine wl_off (t := 59) rfl (by decide) rfl ?_
        refine wl_off (t := 59) rfl (by decide) rfl ?_
        refine wl_val (at_pick_f rfl rfl) rfl ?_
        refine wl_val (at_move rfl) rfl ?_
        refine wl_off (t := 64) rfl (by decide) rfl ?_
        refine wl_off (t := 64) rfl (by decide) rfl ?_
        refine wl_off (t := 64) rfl (by decide) rfl ?_
        refine wl_val (at_pick_f rfl rfl) rfl ?_
        refine wl_val (at_move rfl) rfl ?_
        refine wl_off (t := 69) rfl (by decide) rfl ?_
        refine wl_off (t := 69) rfl (by decide) rfl ?_
        refine wl_off (t := 69) rfl (by decide) rfl ?_
        refine wl_off (t := 69) rfl (by decide) rfl ?_
        refine wl_val (at_pick_f rfl rfl) rfl ?_
        refine wl_val (at_assign rfl) rfl ?_
        refine wl_nil ?_
        exact wk_prune [(6, .pointer (some (⟨b21, 0, none⟩ : Addr))), (7, .int .i64 x18.2.2.2.2), (8, .bool s25), (9, .bool false)] ⟨rfl, rfl, rfl, rfl, trivial⟩ (fun f1 => hJ27 (false) _ f1 h ⟨t_b21, trivial⟩ so)
  · intro J24 h hJ24
    refine wc_region ?_
    refine wl_val (at_move rfl) rfl ?_
    refine wl_val (at_eql rfl rfl) rfl ?_
    refine wl_val (at_move rfl) rfl ?_
    refine bif_ h (fun hb h => ?_) (fun hb h => ?_)
    · refine wl_set (t := 28) (v := .bool true) (congrArg Value.bool hb) ?_; clear hb
      refine wl_on (t := 28) rfl (by decide) rfl ?_
      refine wl_val (at_fieldAddr Try.underlying40 rfl rfl sz37 (by decide) rfl) rfl ?_
      refine wl_on (t := 28) rfl (by decide) rfl ?_
      refine wl_val (at_load (v := .int .i8 x6.1) Try.underlying37 rfl rfl ((t_b9.cell 0).trans (by first | rfl | simp [List.getElem?_append, ints_len, bools_len]))) rfl ?_
      refine wl_on (t := 28) rfl (by decide) rfl ?_
      refine wl_val (at_eql rfl rfl) rfl ?_
      refine wl_val (at_pick_t rfl rfl) rfl ?_
      refine wl_val (at_move rfl) rfl ?_
      refine bif_ h (fun hb h => ?_) (fun hb h => ?_)
      · refine wl_set (t := 33) (v := .bool true) (congrArg Value.bool hb) ?_; clear hb
        refine wl_on (t := 33) rfl (by decide) rfl ?_
        refine wl_val (at_fieldAddr Try.underlying40 rfl rfl sz3 (by decide) rfl) rfl ?_
        refine wl_on (t := 33) rfl (by decide) rfl ?_
        refine wl_val (at_load (v := .int .i64 x6.2.1) Try.underlying3 rfl rfl ((t_b9.cell 1).trans (by first | rfl | simp [List.getElem?_append, ints_len, bools_len]))) rfl ?_
        refine wl_on (t := 33) rfl (by decide) rfl ?_
        refine wl_val (at_eql rfl rfl) rfl ?_
        refine wl_val (at_pick_t rfl rfl) rfl ?_
        refine wl_val (at_move rfl) rfl ?_
        refine bif_ h (fun hb h => ?_) (fun hb h => ?_)
        · refine wl_set (t := 38) (v := .bool true) (congrArg Value.bool hb) ?_; clear hb
          refine wl_on (t := 38) rfl (by decide) rfl ?_
          refine wl_val (at_fieldAddr Try.underlying40 rfl rfl sz3 (by decide) rfl) rfl ?_
          refine wl_on (t := 38) rfl (by decide) rfl ?_
          refine wl_val (at_load (v := .int .i64 x6.2.2.1) Try.underlying3 rfl rfl ((t_b9.cell 2).trans (by first | rfl | simp [List.getElem?_append, ints_len, bools_len]))) rfl ?_
          refine wl_on (t := 38) rfl (by decide) rfl ?_
          refine wl_val (at_eql rfl rfl) rfl ?_
          refine wl_val (at_pick_t rfl rfl) rfl ?_
          refine wl_val (at_move rfl) rfl ?_
          refine bif_ h (fun hb h => ?_) (fun hb h => ?_)
          · refine wl_set (t := 43) (v := .bool true) (congrArg Value.bool hb) ?_; clear hb
            refine wl_on (t := 43) rfl (by decide) rfl ?_
            refine wl_val (at_fieldAddr Try.underlying40 rfl rfl sz38 (by decide) rfl) rfl ?_
            refine wl_on (t := 43) rfl (by decide) rfl ?_
            refine wl_val (at_load (v := .slice x6.2.2.2.1.a x6.2.2.2.1.n x6.2.2.2.1.c) Try.underlying38 rfl rfl ((t_b9.cell 3).trans (by first | rfl | simp [List.getElem?_append, ints_len, bools_len]))) rfl ?_
            refine wl_on (t := 43) rfl (by decide) rfl ?_
            refine wl_val (at_lenL Try.underlying38 rfl) rfl ?_
            refine wl_on (t := 43) rfl (by decide) rfl ?_
            refine wl_val (at_eql rfl rfl) rfl ?_
            refine wl_val (at_pick_t rfl rfl) rfl ?_
            refine wl_val (at_move rfl) rfl ?_
            refine bif_ h (fun hb h => ?_) (fun hb h => ?_)
            · refine wl_set (t := 49) (v := .bool true) (congrArg Value.bool hb) ?_; clear hb
              refine wl_on (t := 49) rfl (by decide) rfl ?_
              refine wl_val (at_fieldAddr Try.underlying40 rfl rfl sz38 (by decide) rfl) rfl ?_
              refine wl_on (t := 49) rfl (by decide) rfl ?_
              refine wl_val (at_load (v := .slice x6.2.2.2.1.a x6.2.2.2.1.n x6.2.2.2.1.c) Try.underlying38 rfl rfl ((t_b9.cell 3).trans (by first | rfl | simp [List.getElem?_append, ints_len, bools_len]))) rfl ?_
              refine wl_on (t := 49) rfl (by decide) rfl ?_
              obtain ⟨q30, q31, p32, q33, h⟩ := h
              refine wl_val (at_ixAddrL Try.underlying38 sz54 (sl_some q33) rfl q30 q31) rfl ?_
              refine wl_on (t := 49) rfl (by decide) rfl ?_
              obtain ⟨x34, q35, h⟩ := h
              refine wl_val (at_loadA (cs := (c54 x34)) Try.underlying54 rfl (by rw [len54]; exact sz54) rfl q35) rfl ?_
              refine wl_on (t := 49) rfl (by decide) rfl ?_
              refine wl_val (at_build (cs := (c54 (mkI (n := 64) [6, 0, 0, 0, 0, 0, 0, 0, 0, 0, 0, 0, 0, 0, 0, 0, 0, 0, 0, 0, 0, 0, 0, 0, 0, 0, 0, 0, 0, 0, 0, 0, 0, 0, 0, 0, 0, 0, 0, 0, 0, 0, 0, 0, 0, 0, 0, 0, 0, 0, 0, 0, 0, 0, 0, 0, 0, 0, 0, 0, 0, 0, 0, 0] (by rfl)))) (ps := [(0, .int .i16 6)]) rfl (build_array (vs := [.int .i16 0, .int .i16 0, .int .i16 0, .int .i16 0, .int .i16 0, .int .i16 0, .int .i16 0, .int .i16 0, .int .i16 0, .int .i16 0, .int .i16 0, .int .i16 0, .int .i16 0, .int .i16 0, .int .i16 0, .int .i16 0, .int .i16 0, .int .i16 0, .int .i16 0, .int .i16 0, .int .i16 0, .int .i16 0, .int .i16 0, .int .i16 0, .int .i16 0, .int .i16 0, .int .i16 0, .int .i16 0, .int .i16 0, .int .i16 0, .int .i16 0, .int .i16 0, .int .i16 0, .int .i16 0, .int .i16 0, .int .i16 0, .int .i16 0, .int .i16 0, .int .i16 0, .int .i16 0, .int .i16 0, .int .i16 0, .int .i16 0, .int .i16 0, .int .i16 0, .int .i16 0, .int .i16 0, .int .i16 0, .int .i16 0, .int .i16 0, .int .i16 0, .int .i16 0, .int .i16 0, .int .i16 0, .int .i16 0, .int .i16 0, .int .i16 0, .int .i16 0, .int .i16 0, .int .i16 0, .int .i16 0, .int .i16 0, .int .i16 0, .int .i16 0]) (cs := (c54 (mkI (n := 64) [6, 0, 0, 0, 0, 0, 0, 0, 0, 0, 0, 0, 0, 0, 0, 0, 0, 0, 0, 0, 0, 0, 0, 0, 0, 0, 0, 0, 0, 0, 0, 0, 0, 0, 0, 0, 0, 0, 0, 0, 0, 0, 0, 0, 0, 0, 0, 0, 0, 0, 0, 0, 0, 0, 0, 0, 0, 0, 0, 0, 0, 0, 0, 0] (by rfl)))) zero54 (by first | rfl | simp [z54, c54, Value.cells, ints_len, bools_len, List.flatMap]) Try.underlying54 sz52 (by first | rfl | simp [z54, c54, Value.cells, ints_len, bools_len]) (by simp [z54, c54, Value.cells, ints_len, bools_len]) (by first | rfl | simp [z54, c54, Value.cells, ints_len, bools_len, List.set, List.flatMap, mkI, mkB, ints, bools]))) rfl ?_
              refine wl_on (t := 49) rfl (by decide) rfl ?_
              refine wl_val (at_eqlA (xs := (c54 x34)) (ys := (c54 (mkI (n := 64) [6, 0, 0, 0, 0, 0, 0, 0, 0, 0, 0, 0, 0, 0, 0, 0, 0, 0, 0, 0, 0, 0, 0, 0, 0, 0, 0, 0, 0, 0, 0, 0, 0, 0, 0, 0, 0, 0, 0, 0, 0, 0, 0, 0, 0, 0, 0, 0, 0, 0, 0, 0, 0, 0, 0, 0, 0, 0, 0, 0, 0, 0, 0, 0] (by rfl)))) rfl rfl (by kernel_rfl) (eqv_ints Try.underlying54 Try.underlying52 sz52)) rfl ?_
              refine wl_val (at_pick_t rfl rfl) rfl ?_
              refine wl_val (at_assign rfl) rfl ?_
              refine wl_nil ?_
              exact wk_prune [(4, .pointer (some (⟨b15, 0, none⟩ : Addr))), (5, .int .i64 x12.2.2.2.2), (6, .pointer (some (⟨b21, 0, none⟩ : Addr))), (7, .int .i64 x18.2.2.2.2), (8, .bool (x34.1 == (mkI (n := 64) [6, 0, 0, 0, 0, 0, 0, 0, 0, 0, 0, 0, 0, 0, 0, 0, 0, 0, 0, 0, 0, 0, 0, 0, 0, 0, 0, 0, 0, 0, 0, 0, 0, 0, 0, 0, 0, 0, 0, 0, 0, 0, 0, 0, 0, 0, 0, 0, 0, 0, 0, 0, 0, 0, 0, 0, 0, 0, 0, 0, 0, 0, 0, 0] (by rfl)).1))] ⟨rfl, rfl, rfl, rfl, rfl, trivial⟩ (fun f1 => hJ24 ((x34.1 == (mkI (n := 64) [6, 0, 0, 0, 0, 0, 0, 0, 0, 0, 0, 0, 0, 0, 0, 0, 0, 0, 0, 0, 0, 0, 0, 0, 0, 0, 0, 0, 0, 0, 0, 0, 0, 0, 0, 0, 0, 0, 0, 0, 0, 0, 0, 0, 0, 0, 0, 0, 0, 0, 0, 0, 0, 0, 0, 0, 0, 0, 0, 0, 0, 0, 0, 0] (by rfl)).1)) _ f1 h ⟨t_b15, t_b21, trivial⟩ so)
            · refine wl_set (t := 49) (v := .bool false) (congrArg Value.bool hb) ?_; clear hb
              refine wl_off (t := 49) rfl (by decide) rfl ?_
              refine wl_off (t := 49) rfl (by decide) rfl ?_
              refine wl_off (t := 49) rfl (by decide) rfl ?_
              refine wl_off (t := 49) rfl (by decide) rfl ?_
              refine wl_off (t := 49) rfl (by decide) rfl ?_
              refine wl_off (t := 49) rfl (by decide) rfl ?_
              refine wl_val (at_pick_f rfl rfl) rfl ?_
              refine wl_val (at_assign rfl) rfl ?_
              refine wl_nil ?_
              exact wk_prune [(4, .pointer (some (⟨b15, 0, none⟩ : Addr))), (5, .int .i64 x12.2.2.2.2), (6, .pointer (some (⟨b21, 0, none⟩ : Addr))), (7, .int .i64 x18.2.2.2.2), (8, .bool false)] ⟨rfl, rfl, rfl, rfl, rfl, trivial⟩ (fun f1 => hJ24 (false) _ f1 h ⟨t_b15, t_b21, trivial⟩ so)
          · refine wl_set (t := 43) (v := .bool false) (congrArg Value.bool hb) ?_; clear hb
            refine wl_off (t := 43) rfl (by decide) rfl ?_
            refine wl_off (t := 43) rfl (by decide) rfl ?_
            refine wl_off (t := 43) rfl (by decide) rfl ?_
            refine wl_off (t := 43) rfl (by decide) rfl ?_
            refine wl_val (at_pick_f rfl rfl) rfl ?_
            refine wl_val (at_move rfl) rfl ?_
            refine wl_off (t := 49) rfl (by decide) rfl ?_
            refine wl_off (t := 49) rfl (by decide) rfl ?_
            refine wl_off (t := 49) rfl (by decide) rfl ?_
            refine wl_off (t := 49) rfl (by decide) rfl ?_
            refine wl_off (t := 49) rfl (by decide) rfl ?_
            refine wl_off (t := 49) rfl (by decide) rfl ?_
            refine wl_val (at_pick_f rfl rfl) rfl ?_
            refine wl_val (at_assign rfl) rfl ?_
            refine wl_nil ?_
            exact wk_prune [(4, .pointer (some (⟨b15, 0, none⟩ : Addr))), (5, .int .i64 x12.2.2.2.2), (6, .pointer (some (⟨b21, 0, none⟩ : Addr))), (7, .int .i64 x18.2.2.2.2), (8, .bool false)] ⟨rfl, rfl, rfl, rfl, rfl, trivial⟩ (fun f1 => hJ24 (false) _ f1 h ⟨t_b15, t_b21, trivial⟩ so)
        · refine wl_set (t := 38) (v := .bool false) (congrArg Value.bool hb) ?_; clear hb
          refine wl_off (t := 38) rfl (by decide) rfl ?_
          refine wl_off (t := 38) rfl (by decide) rfl ?_
          refine wl_off (t := 38) rfl (by decide) rfl ?_
          refine wl_val (at_pick_f rfl rfl) rfl ?_
          refine wl_val (at_move rfl) rfl ?_
          refine wl_off (t := 43) rfl (by decide) rfl ?_
          refine wl_off (t := 43) rfl (by decide) rfl ?_
          refine wl_off (t := 43) rfl (by decide) rfl ?_
          refine wl_off (t := 43) rfl (by decide) rfl ?_
          refine wl_val (at_pick_f rfl rfl) rfl ?_
          refine wl_val (at_move rfl) rfl ?_
          refine wl_off (t := 49) rfl (by decide) rfl ?_
          refine wl_off (t := 49) rfl (by decide) rfl ?_
          refine wl_off (t := 49) rfl (by decide) rfl ?_
          refine wl_off (t := 49) rfl (by decide) rfl ?_
          refine wl_off (t := 49) rfl (by decide) rfl ?_
          refine wl_off (t := 49) rfl (by decide) rfl ?_
          refine wl_val (at_pick_f rfl rfl) rfl ?_
          refine wl_val (at_assign rfl) rfl ?_
          refine wl_nil ?_
          exact wk_prune [(4, .pointer (some (⟨b15, 0, none⟩ : Addr))), (5, .int .i64 x12.2.2.2.2), (6, .pointer (some (⟨b21, 0, none⟩ : Addr))), (7, .int .i64 x18.2.2.2.2), (8, .bool false)] ⟨rfl, rfl, rfl, rfl, rfl, trivial⟩ (fun f1 => hJ24 (false) _ f1 h ⟨t_b15, t_b21, trivial⟩ so)
      · refine wl_set (t := 33) (v := .bool false) (congrArg Value.bool hb) ?_; clear hb
        refine wl_off (t := 33) rfl (by decide) rfl ?_
        refine wl_off (t := 33) rfl (by decide) rfl ?_
        refine wl_off (t := 33) rfl (by decide) rfl ?_
        refine wl_val (at_pick_f rfl rfl) rfl ?_
        refine wl_val (at_move rfl) rfl ?_
        refine wl_off (t := 38) rfl (by decide) rfl ?_
        refine wl_off (t := 38) rfl (by decide) rfl ?_
        refine wl_off (t := 38) rfl (by decide) rfl ?_
        refine wl_val (at_pick_f rfl rfl) rfl ?_
        refine wl_val (at_move rfl) rfl ?_
        refine wl_off (t := 43) rfl (by decide) rfl ?_
        refine wl_off (t := 43) rfl (by decide) rfl ?_
        refine wl_off (t := 43) rfl (by decide) rfl ?_
        refine wl_off (t := 43) rfl (by decide) rfl ?_
        refine wl_val (at_pick_f rfl rfl) rfl ?_
        refine wl_val (at_move rfl) rfl ?_
        refine wl_off (t := 49) rfl (by decide) rfl ?_
        refine wl_off (t := 49) rfl (by decide) rfl ?_
        refine wl_off (t := 49) rfl (by decide) rfl ?_
        refine wl_off (t := 49) rfl (by decide) rfl ?_
        refine wl_off (t := 49) rfl (by decide) rfl ?_
        refine wl_off (t := 49) rfl (by decide) rfl ?_
        refine wl_val (at_pick_f rfl rfl) rfl ?_
        refine wl_val (at_assign rfl) rfl ?_
        refine wl_nil ?_
        exact wk_prune [(4, .pointer (some (⟨b15, 0, none⟩ : Addr))), (5, .int .i64 x12.2.2.2.2), (6, .pointer (some (⟨b21, 0, none⟩ : Addr))), (7, .int .i64 x18.2.2.2.2), (8, .bool false)] ⟨rfl, rfl, rfl, rfl, rfl, trivial⟩ (fun f1 => hJ24 (false) _ f1 h ⟨t_b15, t_b21, trivial⟩ so)
    · refine wl_set (t := 28) (v := .bool false) (congrArg Value.bool hb) ?_; clear hb
      refine wl_off (t := 28) rfl (by decide) rfl ?_
      refine wl_off (t := 28) rfl (by decide) rfl ?_
      refine wl_off (t := 28) rfl (by decide) rfl ?_
      refine wl_val (at_pick_f rfl rfl) rfl ?_
      refine wl_val (at_move rfl) rfl ?_
      refine wl_off (t := 33) rfl (by decide) rfl ?_
      refine wl_off (t := 33) rfl (by decide) rfl ?_
      refine wl_off (t := 33) rfl (by decide) rfl ?_
      refine wl_val (at_pick_f rfl rfl) rfl ?_
      refine wl_val (at_move rfl) rfl ?_
      refine wl_off (t := 38) rfl (by decide) rfl ?_
      refine wl_off (t := 38) rfl (by decide) rfl ?_
      refine wl_off (t := 38) rfl (by decide) rfl ?_
      refine wl_val (at_pick_f rfl rfl) rfl ?_
      refine wl_val (at_move rfl) rfl ?_
      refine wl_off (t := 43) rfl (by decide) rfl ?_
      refine wl_off (t := 43) rfl (by decide) rfl ?_
      refine wl_off (t := 43) rfl (by decide) rfl ?_
      refine wl_off (t := 43) rfl (by decide) rfl ?_
      refine wl_val (at_pick_f rfl rfl) rfl ?_
      refine wl_val (at_move rfl) rfl ?_
      refine wl_off (t := 49) rfl (by decide) rfl ?_
      refine wl_off (t := 49) rfl (by decide) rfl ?_
      refine wl_off (t := 49) rfl (by decide) rfl ?_
      refine wl_off (t := 49) rfl (by decide) rfl ?_
      refine wl_off (t := 49) rfl (by decide) rfl ?_
      refine wl_off (t := 49) rfl (by decide) rfl ?_
      refine wl_val (at_pick_f rfl rfl) rfl ?_
      refine wl_val (at_assign rfl) rfl ?_
      refine wl_nil ?_
      exact wk_prune [(4, .pointer (some (⟨b15, 0, none⟩ : Addr))), (5, .int .i64 x12.2.2.2.2), (6, .pointer (some (⟨b21, 0, none⟩ : Addr))), (7, .int .i64 x18.2.2.2.2), (8, .bool false)] ⟨rfl, rfl, rfl, rfl, rfl, trivial⟩ (fun f1 => hJ24 (false) _ f1 h ⟨t_b15, t_b21, trivial⟩ so)
def mosaiclaw17_large.enc : Bool → Value := fun r => .bool r
def mosaiclaw17_large.s (a0_0 : Int) (a0_1 : Int) (a0_2 : Int) (a0_3 : Sl) (a0_4 : Sl) (a0_5 : Ints 16) (a0_6 : Sl) (a0_7 : Ints 16) (a0_8 : Sl) (a0_9 : Ints 16) (a0_10 : Sl) (a0_11 : Ints 16) (a0_12 : Sl) (a0_13 : Ints 16) (a0_14 : Sl) (a0_15 : Ints 16) (a0_16 : Sl) (a0_17 : Ints 16) (a0_18 : Sl) (a0_19 : Ints 16) (a0_20 : Sl) (a0_21 : Int) (a0_22 : Int) (H0 : Hp) (Q : Bool → Hp → Prop) : Prop :=
  Gn [] H0 (fun (b1 : Nat) (H2 : Hp) => Q (decide ((3000 : Int) < a0_22)) H2)
set_option maxRecDepth 20000 in
set_option maxHeartbeats 4000000 in
theorem mosaiclaw17_large.calls (a0_0 : Int) (a0_1 : Int) (a0_2 : Int) (a0_3 : Sl) (a0_4 : Sl) (a0_5 : Ints 16) (a0_6 : Sl) (a0_7 : Ints 16) (a0_8 : Sl) (a0_9 : Ints 16) (a0_10 : Sl) (a0_11 : Ints 16) (a0_12 : Sl) (a0_13 : Ints 16) (a0_14 : Sl) (a0_15 : Ints 16) (a0_16 : Sl) (a0_17 : Ints 16) (a0_18 : Sl) (a0_19 : Ints 16) (a0_20 : Sl) (a0_21 : Int) (a0_22 : Int) (w0 : World) (Q : Bool → Hp → Prop) (h : mosaiclaw17_large.s a0_0 a0_1 a0_2 a0_3 a0_4 a0_5 a0_6 a0_7 a0_8 a0_9 a0_10 a0_11 a0_12 a0_13 a0_14 a0_15 a0_16 a0_17 a0_18 a0_19 a0_20 a0_21 a0_22 w0.heap Q) :
    Ca Try.prog 12 #[.agg (c32 a0_0 a0_1 a0_2 a0_3 a0_4 a0_5 a0_6 a0_7 a0_8 a0_9 a0_10 a0_11 a0_12 a0_13 a0_14 a0_15 a0_16 a0_17 a0_18 a0_19 a0_20 a0_21 a0_22).toArray] w0 (Rt mosaiclaw17_large.enc Q w0) := by
  refine ca_start (c := _) Try.func12 rfl Try.ntmps12 rfl ?_
  have so : Sm w0 w0 := Sm.refl w0
  unfold mosaiclaw17_large.s at h
  refine wc_prune [(0, .agg (c32 a0_0 a0_1 a0_2 a0_3 a0_4 a0_5 a0_6 a0_7 a0_8 a0_9 a0_10 a0_11 a0_12 a0_13 a0_14 a0_15 a0_16 a0_17 a0_18 a0_19 a0_20 a0_21 a0_22).toArray)] ⟨rfl, trivial⟩ (fun f1 => ?_)
  refine wc_seq ?_
  refine wc_region ?_
  refine wl_newT (T := 32) (cs := (c32 a0_0 a0_1 a0_2 a0_3 a0_4 a0_5 a0_6 a0_7 a0_8 a0_9 a0_10 a0_11 a0_12 a0_13 a0_14 a0_15 a0_16 a0_17 a0_18 a0_19 a0_20 a0_21 a0_22)) (ef_box rfl rfl) rfl so ?_; intro b1 w2 hb_b1 t_b1 k_b1 so
  have g_b1 := Nat.le_of_eq hb_b1.symm
  have hc := k_b1.ch (F := [])
  refine wl_val (at_assign rfl) rfl ?_
  refine wl_nil ?_
  refine wk_prune [(1, .pointer (some (⟨b1, 0, none⟩ : Addr)))] ⟨rfl, trivial⟩ (fun f1 => ?_)
  refine wk_then ?_
  refine wc_seq ?_
  refine wc_region ?_
  refine wl_val (at_fieldAddr Try.underlying32 rfl rfl sz3 (by decide) rfl) rfl ?_
  refine wl_val (at_load (v := .int .i64 a0_22) Try.underlying3 rfl rfl ((t_b1.cell 142).trans (by first | rfl | simp [List.getElem?_append, ints_len, bools_len]))) rfl ?_
  refine wl_val (at_gtr rfl rfl) rfl ?_
  refine wl_val (at_assign rfl) rfl ?_
  refine wl_nil ?_
  refine wk_prune [(2, .bool (decide ((3000 : Int) < a0_22)))] ⟨rfl, trivial⟩ (fun f1 => ?_)
  refine wk_then ?_
  refine wc_ret ?_
  replace h := h b1 _ hc g_b1 t_b1.lt; clear hc
  exact wk_ret1 (x := (decide ((3000 : Int) < a0_22))) rfl (by decide) rfl so h
def mosaiclaw17_same.enc : Bool → Value := fun r => .bool r
def mosaiclaw17_written.enc : ByteArray × Bool → Value := fun r => .tuple #[.string r.1, .bool r.2]
end Go.Proofs.Ytlfdfikgbdgfdaa.G
