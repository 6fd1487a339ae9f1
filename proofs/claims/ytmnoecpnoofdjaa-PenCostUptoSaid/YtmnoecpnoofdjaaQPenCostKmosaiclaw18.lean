/- Of this text what the row needs. -/
import Derived.Test.YtmnoecpnoofdjaaQPenCostKshelf
import Derived.Test.YtmnoecpnoofdjaaQPenCostKhuff
import Derived.Test.YtmnoecpnoofdjaaQPenCostKpen
namespace Go.Proofs.Ytmnoecpnoofdjaa.G
open Go.RowKit
set_option linter.unusedVariables false
set_option linter.unusedSimpArgs false
def mosaiclaw18_small.enc : Int × Int × Int × Sl × Sl × (Ints 16) × Sl × (Ints 16) × Sl × (Ints 16) × Sl × (Ints 16) × Sl × (Ints 16) × Sl × (Ints 16) × Sl × (Ints 16) × Sl × (Ints 16) × Sl × Int × Int → Value := fun r => .agg (c32 r.1 r.2.1 r.2.2.1 r.2.2.2.1 r.2.2.2.2.1 r.2.2.2.2.2.1 r.2.2.2.2.2.2.1 r.2.2.2.2.2.2.2.1 r.2.2.2.2.2.2.2.2.1 r.2.2.2.2.2.2.2.2.2.1 r.2.2.2.2.2.2.2.2.2.2.1 r.2.2.2.2.2.2.2.2.2.2.2.1 r.2.2.2.2.2.2.2.2.2.2.2.2.1 r.2.2.2.2.2.2.2.2.2.2.2.2.2.1 r.2.2.2.2.2.2.2.2.2.2.2.2.2.2.1 r.2.2.2.2.2.2.2.2.2.2.2.2.2.2.2.1 r.2.2.2.2.2.2.2.2.2.2.2.2.2.2.2.2.1 r.2.2.2.2.2.2.2.2.2.2.2.2.2.2.2.2.2.1 r.2.2.2.2.2.2.2.2.2.2.2.2.2.2.2.2.2.2.1 r.2.2.2.2.2.2.2.2.2.2.2.2.2.2.2.2.2.2.2.1 r.2.2.2.2.2.2.2.2.2.2.2.2.2.2.2.2.2.2.2.2.1 r.2.2.2.2.2.2.2.2.2.2.2.2.2.2.2.2.2.2.2.2.2.1 r.2.2.2.2.2.2.2.2.2.2.2.2.2.2.2.2.2.2.2.2.2.2).toArray
def mosaiclaw18_small.s (H0 : Hp) (Q : (Int × Int × Int × Sl × Sl × (Ints 16) × Sl × (Ints 16) × Sl × (Ints 16) × Sl × (Ints 16) × Sl × (Ints 16) × Sl × (Ints 16) × Sl × (Ints 16) × Sl × (Ints 16) × Sl × Int × Int) → Hp → Prop) : Prop :=
  Gn [] H0 (fun (b1 : Nat) (H2 : Hp) => nw H2 100 (c100 1 1 1 0) (fun p3 H4 => Pv [b1] H2 H4 ∧ (nw H4 76 (c76 0 0 0) (fun p8 H9 => Pv [b1] H4 H9 ∧ (Gn [] H9 (fun (b13 : Nat) (H15 : Hp) => nw H15 5 [.int .u8 0, .int .u8 3] (fun p16 H17 => Pv [b1, b13] H15 H17 ∧ (Gr [b13] H17 (fun (H21 : Hp) => nw H21 5 [.int .u8 0] (fun p22 H23 => Pv [b1, b13] H21 H23 ∧ (Gr [b1, b13] H23 (fun (H28 : Hp) => Q (0, 8, 8, ⟨(some p3), 1, 1⟩, ⟨(some p8), 1, 1⟩, (mkI (n := 16) [1, 1, 0, 0, 0, 0, 0, 0, 0, 0, 0, 0, 0, 0, 0, 0] (by rfl)), ⟨(some p16), 2, 2⟩, (zInts 16), ⟨none, 0, 0⟩, (zInts 16), ⟨none, 0, 0⟩, (zInts 16), ⟨none, 0, 0⟩, (mkI (n := 16) [1, 0, 0, 0, 0, 0, 0, 0, 0, 0, 0, 0, 0, 0, 0, 0] (by rfl)), ⟨(some p22), 1, 1⟩, (zInts 16), ⟨none, 0, 0⟩, (zInts 16), ⟨none, 0, 0⟩, (zInts 16), ⟨none, 0, 0⟩, 0, 1) H28))))))))))))
set_option maxRecDepth 20000 in
set_option maxHeartbeats 4000000 in
theorem mosaiclaw18_small.calls (w0 : World) (Q : (Int × Int × Int × Sl × Sl × (Ints 16) × Sl × (Ints 16) × Sl × (Ints 16) × Sl × (Ints 16) × Sl × (Ints 16) × Sl × (Ints 16) × Sl × (Ints 16) × Sl × (Ints 16) × Sl × Int × Int) → Hp → Prop) (h : mosaiclaw18_small.s w0.heap Q) :
    Ca Try.prog 13 #[] w0 (Rt mosaiclaw18_small.enc Q w0) := by
  refine ca_start (c := _) Try.func13 rfl Try.ntmps13 rfl ?_
  have so : Sm w0 w0 := Sm.refl w0
  unfold mosaiclaw18_small.s at h
  refine wc_prune [] trivial (fun f1 => ?_)
  refine wc_seq ?_
  refine wc_region ?_
  refine wl_newT (T := 32) (cs := (c32 0 0 0 ⟨none, 0, 0⟩ ⟨none, 0, 0⟩ (zInts 16) ⟨none, 0, 0⟩ (zInts 16) ⟨none, 0, 0⟩ (zInts 16) ⟨none, 0, 0⟩ (zInts 16) ⟨none, 0, 0⟩ (zInts 16) ⟨none, 0, 0⟩ (zInts 16) ⟨none, 0, 0⟩ (zInts 16) ⟨none, 0, 0⟩ (zInts 16) ⟨none, 0, 0⟩ 0 0)) (ef_alloc zero32 rfl) rfl so ?_; intro b1 w2 hb_b1 t_b1 k_b1 so
  have g_b1 := Nat.le_of_eq hb_b1.symm
  have hc := k_b1.ch (F := [])
  refine wl_nil ?_
  refine wk_prune [(0, .pointer (some (⟨b1, 0, none⟩ : Addr)))] ⟨rfl, trivial⟩ (fun f1 => ?_)
  refine wk_then ?_
  refine wc_seq ?_
  refine wc_region ?_
  refine wl_val (at_build (cs := (c100 1 1 1 0)) (ps := [(0, .int .u8 1), (1, .int .u8 1), (2, .int .u8 1)]) rfl (fun w => by simp [Instr.build, Instr.fill, go_sem, Try.underlying100, z100] <;> rfl)) rfl ?_
  obtain ⟨i6, i6a, i6b, i6c, i6d⟩ := info100
  replace h := h b1 _ hc g_b1 t_b1.lt; clear hc
  refine wl_newS (ef_buildSlice (cs := (c100 1 1 1 0)) (ps := [(0, .agg (c100 1 1 1 0).toArray)]) Try.underlying22 i6a i6b rfl (by rw [i6c]; decide) (by rw [i6c]; exact fill_full (vs := [.agg (c100 1 1 1 0).toArray]) rfl (by simp [Value.cells]) (by simp [Value.cells, len100]) rfl (by simp))) rfl so (one100 _ _ _ _) h ?_; intro p3 w4 h r5 so
  obtain ⟨q7, h⟩ := h
  replace t_b1 := pv_bk q7 t_b1 (by simp)
  refine wl_val (at_build (cs := (c24 0 8 8 ⟨(some p3), 1, 1⟩)) (ps := [(1, .int .i64 8), (2, .int .i64 8), (3, .slice (some p3) 1 1)]) rfl (fun w => by simp [Instr.build, Instr.fill, go_sem, Try.underlying24, z24] <;> rfl)) rfl ?_
  refine wl_val (at_build (cs := (c76 0 0 0)) (ps := []) rfl (fun w => by simp [Instr.build, Instr.fill, go_sem, Try.underlying76, z76] <;> rfl)) rfl ?_
  obtain ⟨i11, i11a, i11b, i11c, i11d⟩ := info76
  refine wl_newS (ef_buildSlice (cs := (c76 0 0 0)) (ps := [(0, .agg (c76 0 0 0).toArray)]) Try.underlying25 i11a i11b rfl (by rw [i11c]; decide) (by rw [i11c]; exact fill_full (vs := [.agg (c76 0 0 0).toArray]) rfl (by simp [Value.cells]) (by simp [Value.cells, len76]) rfl (by simp))) rfl so (one76 _ _ _) h ?_; intro p8 w9 h r10 so
  obtain ⟨q12, h⟩ := h
  replace t_b1 := pv_bk q12 t_b1 (by simp)
  refine wl_val (at_build (cs := (c32 0 8 8 ⟨(some p3), 1, 1⟩ ⟨(some p8), 1, 1⟩ (zInts 16) ⟨none, 0, 0⟩ (zInts 16) ⟨none, 0, 0⟩ (zInts 16) ⟨none, 0, 0⟩ (zInts 16) ⟨none, 0, 0⟩ (zInts 16) ⟨none, 0, 0⟩ (zInts 16) ⟨none, 0, 0⟩ (zInts 16) ⟨none, 0, 0⟩ (zInts 16) ⟨none, 0, 0⟩ 0 1)) (ps := [(0, .agg (c24 0 8 8 ⟨(some p3), 1, 1⟩).toArray), (1, .slice (some p8) 1 1), (5, .int .i64 1)]) rfl (build_struct (szs := [4, 1, 68, 68, 1, 1]) (vs := [.agg (c24 0 0 0 ⟨none, 0, 0⟩).toArray, .slice none 0 0, .agg (c30 (zInts 16) ⟨none, 0, 0⟩ (zInts 16) ⟨none, 0, 0⟩ (zInts 16) ⟨none, 0, 0⟩ (zInts 16) ⟨none, 0, 0⟩).toArray, .agg (c30 (zInts 16) ⟨none, 0, 0⟩ (zInts 16) ⟨none, 0, 0⟩ (zInts 16) ⟨none, 0, 0⟩ (zInts 16) ⟨none, 0, 0⟩).toArray, .int .i64 0, .int .i64 0]) (cs := (c32 0 8 8 ⟨(some p3), 1, 1⟩ ⟨(some p8), 1, 1⟩ (zInts 16) ⟨none, 0, 0⟩ (zInts 16) ⟨none, 0, 0⟩ (zInts 16) ⟨none, 0, 0⟩ (zInts 16) ⟨none, 0, 0⟩ (zInts 16) ⟨none, 0, 0⟩ (zInts 16) ⟨none, 0, 0⟩ (zInts 16) ⟨none, 0, 0⟩ (zInts 16) ⟨none, 0, 0⟩ 0 1)) zero32 (by first | rfl | simp [z32, c32, c24, len24, c30, len30, Value.cells, ints_len, bools_len, List.flatMap]) Try.underlying32 (by kernel_rfl) (by simp [z32, c32, c24, len24, c30, len30, Value.cells, ints_len, bools_len]) (by simp [z32, c32, c24, len24, c30, len30, Value.cells, ints_len, bools_len]) (by first | rfl | simp [z32, c32, c24, len24, c30, len30, Value.cells, ints_len, bools_len, List.set, List.flatMap, mkI, mkB, ints, bools]))) rfl ?_
  refine wl_newT (T := 32) (cs := (c32 0 0 0 ⟨none, 0, 0⟩ ⟨none, 0, 0⟩ (zInts 16) ⟨none, 0, 0⟩ (zInts 16) ⟨none, 0, 0⟩ (zInts 16) ⟨none, 0, 0⟩ (zInts 16) ⟨none, 0, 0⟩ (zInts 16) ⟨none, 0, 0⟩ (zInts 16) ⟨none, 0, 0⟩ (zInts 16) ⟨none, 0, 0⟩ (zInts 16) ⟨none, 0, 0⟩ 0 0)) (ef_alloc zero32 rfl) rfl so ?_; intro b13 w14 hb_b13 t_b13 k_b13 so
  have g_b13 := Nat.le_of_eq hb_b13.symm
  have hc := k_b13.ch (F := [])
  have n_b1_b13 : b1 ≠ b13 := fun e => by have := t_b1.lt; omega
  replace t_b1 := t_b1.keep k_b13
  refine wl_stWT (vs := (c32 0 8 8 ⟨(some p3), 1, 1⟩ ⟨(some p8), 1, 1⟩ (zInts 16) ⟨none, 0, 0⟩ (zInts 16) ⟨none, 0, 0⟩ (zInts 16) ⟨none, 0, 0⟩ (zInts 16) ⟨none, 0, 0⟩ (zInts 16) ⟨none, 0, 0⟩ (zInts 16) ⟨none, 0, 0⟩ (zInts 16) ⟨none, 0, 0⟩ (zInts 16) ⟨none, 0, 0⟩ 0 1)) t_b13 (by first | (rw [len32, len32]) | (rw [len32]) | rfl) rfl so (fun q => ef_storeA (p := (⟨b13, 0, none⟩ : Addr)) (cs := (c32 0 8 8 ⟨(some p3), 1, 1⟩ ⟨(some p8), 1, 1⟩ (zInts 16) ⟨none, 0, 0⟩ (zInts 16) ⟨none, 0, 0⟩ (zInts 16) ⟨none, 0, 0⟩ (zInts 16) ⟨none, 0, 0⟩ (zInts 16) ⟨none, 0, 0⟩ (zInts 16) ⟨none, 0, 0⟩ (zInts 16) ⟨none, 0, 0⟩ (zInts 16) ⟨none, 0, 0⟩ 0 1)) (by rw [len32]; exact sz32) rfl rfl (one32 _ _ _ _ _ _ _ _ _ _ _ _ _ _ _ _ _ _ _ _ _ _ _) q) ?_; intro w15 t_b13 s_w15 so
  replace t_b1 := t_b1.same s_w15 (n_b1_b13)
  replace hc := ch_same hc s_w15 (.inr g_b13)
  refine wl_nil ?_
  refine wk_prune [(0, .pointer (some (⟨b1, 0, none⟩ : Addr))), (1, .pointer (some (⟨b13, 0, none⟩ : Addr)))] ⟨rfl, rfl, trivial⟩ (fun f1 => ?_)
  refine wk_then ?_
  refine wc_seq ?_
  refine wc_region ?_
  refine wl_val (at_build (cs := (c26 (mkI (n := 16) [1, 1, 0, 0, 0, 0, 0, 0, 0, 0, 0, 0, 0, 0, 0, 0] (by rfl)))) (ps := [(0, .int .u8 1), (1, .int .u8 1)]) rfl (build_array (vs := [.int .u8 0, .int .u8 0, .int .u8 0, .int .u8 0, .int .u8 0, .int .u8 0, .int .u8 0, .int .u8 0, .int .u8 0, .int .u8 0, .int .u8 0, .int .u8 0, .int .u8 0, .int .u8 0, .int .u8 0, .int .u8 0]) (cs := (c26 (mkI (n := 16) [1, 1, 0, 0, 0, 0, 0, 0, 0, 0, 0, 0, 0, 0, 0, 0] (by rfl)))) zero26 (by first | rfl | simp [z26, c26, Value.cells, ints_len, bools_len, List.flatMap]) Try.underlying26 sz5 (by first | rfl | simp [z26, c26, Value.cells, ints_len, bools_len]) (by simp [z26, c26, Value.cells, ints_len, bools_len]) (by first | rfl | simp [z26, c26, Value.cells, ints_len, bools_len, List.set, List.flatMap, mkI, mkB, ints, bools]))) rfl ?_
  obtain ⟨i19, i19a, i19b, i19c, i19d⟩ := info5
  replace h := h b13 _ hc g_b13 t_b13.lt; clear hc
  refine wl_newS (ef_buildSlice (cs := [.int .u8 0, .int .u8 3]) (ps := [(0, .int .u8 0), (1, .int .u8 3)]) Try.underlying27 i19a i19b rfl (by rw [i19c]; decide) (by rw [i19c]; exact fill_full (vs := [.int .u8 0, .int .u8 3]) rfl (by simp [Value.cells]) (by simp [Value.cells]) rfl (by simp))) rfl so (ones_cons rfl (ones_cons rfl ones_nil)) h ?_; intro p16 w17 h r18 so
  obtain ⟨q20, h⟩ := h
  replace t_b1 := pv_bk q20 t_b1 (by simp)
  replace t_b13 := pv_bk q20 t_b13 (by simp)
  refine wl_val (at_build (cs := (c29 (mkI (n := 16) [1, 1, 0, 0, 0, 0, 0, 0, 0, 0, 0, 0, 0, 0, 0, 0] (by rfl)) ⟨(some p16), 2, 2⟩)) (ps := [(0, .agg (c26 (mkI (n := 16) [1, 1, 0, 0, 0, 0, 0, 0, 0, 0, 0, 0, 0, 0, 0, 0] (by rfl))).toArray), (1, .slice (some p16) 2 2)]) rfl (build_struct (szs := [16, 1]) (vs := [.agg (c26 (zInts 16)).toArray, .slice none 0 0]) (cs := (c29 (mkI (n := 16) [1, 1, 0, 0, 0, 0, 0, 0, 0, 0, 0, 0, 0, 0, 0, 0] (by rfl)) ⟨(some p16), 2, 2⟩)) zero29 (by first | rfl | simp [z29, c29, c26, len26, Value.cells, ints_len, bools_len, List.flatMap]) Try.underlying29 (by kernel_rfl) (by simp [z29, c29, c26, len26, Value.cells, ints_len, bools_len]) (by simp [z29, c29, c26, len26, Value.cells, ints_len, bools_len]) (by first | rfl | simp [z29, c29, c26, len26, Value.cells, ints_len, bools_len, List.set, List.flatMap, mkI, mkB, ints, bools]))) rfl ?_
  refine wl_val (at_fieldAddr Try.underlying32 rfl rfl sz30 (by decide) rfl) rfl ?_
  refine wl_val (at_ixAddrA Try.underlying30 sz29 rfl rfl (by decide) (by decide)) rfl ?_
  refine wl_stAT (vs := (c29 (mkI (n := 16) [1, 1, 0, 0, 0, 0, 0, 0, 0, 0, 0, 0, 0, 0, 0, 0] (by rfl)) ⟨(some p16), 2, 2⟩)) (cs' := (c32 0 8 8 ⟨(some p3), 1, 1⟩ ⟨(some p8), 1, 1⟩ (mkI (n := 16) [1, 1, 0, 0, 0, 0, 0, 0, 0, 0, 0, 0, 0, 0, 0, 0] (by rfl)) ⟨(some p16), 2, 2⟩ (zInts 16) ⟨none, 0, 0⟩ (zInts 16) ⟨none, 0, 0⟩ (zInts 16) ⟨none, 0, 0⟩ (zInts 16) ⟨none, 0, 0⟩ (zInts 16) ⟨none, 0, 0⟩ (zInts 16) ⟨none, 0, 0⟩ (zInts 16) ⟨none, 0, 0⟩ 0 1)) t_b13 (by first | decide | (rw [len29, len32]; decide) | simp [ints_len, bools_len]) (by first | rfl | simp [ints_len, bools_len, List.take_append, List.drop_append]) rfl so (fun q => ef_storeA (p := (⟨b13, 5, none⟩ : Addr)) (cs := (c29 (mkI (n := 16) [1, 1, 0, 0, 0, 0, 0, 0, 0, 0, 0, 0, 0, 0, 0, 0] (by rfl)) ⟨(some p16), 2, 2⟩)) (by rw [len29]; exact sz29) rfl rfl (one29 _ _) q) ?_; intro w21 t_b13 s_w21 so
  replace t_b1 := t_b1.same s_w21 (n_b1_b13)
  have hc := s_w21.ch
  refine wl_nil ?_
  refine wk_prune [(0, .pointer (some (⟨b1, 0, none⟩ : Addr))), (1, .pointer (some (⟨b13, 0, none⟩ : Addr)))] ⟨rfl, rfl, trivial⟩ (fun f1 => ?_)
  refine wk_then ?_
  refine wc_seq ?_
  refine wc_region ?_
  refine wl_val (at_build (cs := (c26 (mkI (n := 16) [1, 0, 0, 0, 0, 0, 0, 0, 0, 0, 0, 0, 0, 0, 0, 0] (by rfl)))) (ps := [(0, .int .u8 1)]) rfl (build_array (vs := [.int .u8 0, .int .u8 0, .int .u8 0, .int .u8 0, .int .u8 0, .int .u8 0, .int .u8 0, .int .u8 0, .int .u8 0, .int .u8 0, .int .u8 0, .int .u8 0, .int .u8 0, .int .u8 0, .int .u8 0, .int .u8 0]) (cs := (c26 (mkI (n := 16) [1, 0, 0, 0, 0, 0, 0, 0, 0, 0, 0, 0, 0, 0, 0, 0] (by rfl)))) zero26 (by first | rfl | simp [z26, c26, Value.cells, ints_len, bools_len, List.flatMap]) Try.underlying26 sz5 (by first | rfl | simp [z26, c26, Value.cells, ints_len, bools_len]) (by simp [z26, c26, Value.cells, ints_len, bools_len]) (by first | rfl | simp [z26, c26, Value.cells, ints_len, bools_len, List.set, List.flatMap, mkI, mkB, ints, bools]))) rfl ?_
  obtain ⟨i25, i25a, i25b, i25c, i25d⟩ := info5
  replace h := h _ hc; clear hc
  refine wl_newS (ef_buildSlice (cs := [.int .u8 0]) (ps := [(0, .int .u8 0)]) Try.underlying27 i25a i25b rfl (by rw [i25c]; decide) (by rw [i25c]; exact fill_full (vs := [.int .u8 0]) rfl (by simp [Value.cells]) (by simp [Value.cells]) rfl (by simp))) rfl so (ones_cons rfl ones_nil) h ?_; intro p22 w23 h r24 so
  obtain ⟨q26, h⟩ := h
  replace t_b1 := pv_bk q26 t_b1 (by simp)
  replace t_b13 := pv_bk q26 t_b13 (by simp)
  refine wl_val (at_build (cs := (c29 (mkI (n := 16) [1, 0, 0, 0, 0, 0, 0, 0, 0, 0, 0, 0, 0, 0, 0, 0] (by rfl)) ⟨(some p22), 1, 1⟩)) (ps := [(0, .agg (c26 (mkI (n := 16) [1, 0, 0, 0, 0, 0, 0, 0, 0, 0, 0, 0, 0, 0, 0, 0] (by rfl))).toArray), (1, .slice (some p22) 1 1)]) rfl (build_struct (szs := [16, 1]) (vs := [.agg (c26 (zInts 16)).toArray, .slice none 0 0]) (cs := (c29 (mkI (n := 16) [1, 0, 0, 0, 0, 0, 0, 0, 0, 0, 0, 0, 0, 0, 0, 0] (by rfl)) ⟨(some p22), 1, 1⟩)) zero29 (by first | rfl | simp [z29, c29, c26, len26, Value.cells, ints_len, bools_len, List.flatMap]) Try.underlying29 (by kernel_rfl) (by simp [z29, c29, c26, len26, Value.cells, ints_len, bools_len]) (by simp [z29, c29, c26, len26, Value.cells, ints_len, bools_len]) (by first | rfl | simp [z29, c29, c26, len26, Value.cells, ints_len, bools_len, List.set, List.flatMap, mkI, mkB, ints, bools]))) rfl ?_
  refine wl_val (at_fieldAddr Try.underlying32 rfl rfl sz30 (by decide) rfl) rfl ?_
  refine wl_val (at_ixAddrA Try.underlying30 sz29 rfl rfl (by decide) (by decide)) rfl ?_
  refine wl_stAT (vs := (c29 (mkI (n := 16) [1, 0, 0, 0, 0, 0, 0, 0, 0, 0, 0, 0, 0, 0, 0, 0] (by rfl)) ⟨(some p22), 1, 1⟩)) (cs' := (c32 0 8 8 ⟨(some p3), 1, 1⟩ ⟨(some p8), 1, 1⟩ (mkI (n := 16) [1, 1, 0, 0, 0, 0, 0, 0, 0, 0, 0, 0, 0, 0, 0, 0] (by rfl)) ⟨(some p16), 2, 2⟩ (zInts 16) ⟨none, 0, 0⟩ (zInts 16) ⟨none, 0, 0⟩ (zInts 16) ⟨none, 0, 0⟩ (mkI (n := 16) [1, 0, 0, 0, 0, 0, 0, 0, 0, 0, 0, 0, 0, 0, 0, 0] (by rfl)) ⟨(some p22), 1, 1⟩ (zInts 16) ⟨none, 0, 0⟩ (zInts 16) ⟨none, 0, 0⟩ (zInts 16) ⟨none, 0, 0⟩ 0 1)) t_b13 (by first | decide | (rw [len29, len32]; decide) | simp [ints_len, bools_len]) (by first | rfl | simp [ints_len, bools_len, List.take_append, List.drop_append]) rfl so (fun q => ef_storeA (p := (⟨b13, 73, none⟩ : Addr)) (cs := (c29 (mkI (n := 16) [1, 0, 0, 0, 0, 0, 0, 0, 0, 0, 0, 0, 0, 0, 0, 0] (by rfl)) ⟨(some p22), 1, 1⟩)) (by rw [len29]; exact sz29) rfl rfl (one29 _ _) q) ?_; intro w27 t_b13 s_w27 so
  replace t_b1 := t_b1.same s_w27 (n_b1_b13)
  have hc := s_w27.ch
  refine wl_nil ?_
  refine wk_prune [(0, .pointer (some (⟨b1, 0, none⟩ : Addr))), (1, .pointer (some (⟨b13, 0, none⟩ : Addr)))] ⟨rfl, rfl, trivial⟩ (fun f1 => ?_)
  refine wk_then ?_
  refine wc_seq ?_
  refine wc_region ?_
  refine wl_val (at_loadA (cs := (c32 0 8 8 ⟨(some p3), 1, 1⟩ ⟨(some p8), 1, 1⟩ (mkI (n := 16) [1, 1, 0, 0, 0, 0, 0, 0, 0, 0, 0, 0, 0, 0, 0, 0] (by rfl)) ⟨(some p16), 2, 2⟩ (zInts 16) ⟨none, 0, 0⟩ (zInts 16) ⟨none, 0, 0⟩ (zInts 16) ⟨none, 0, 0⟩ (mkI (n := 16) [1, 0, 0, 0, 0, 0, 0, 0, 0, 0, 0, 0, 0, 0, 0, 0] (by rfl)) ⟨(some p22), 1, 1⟩ (zInts 16) ⟨none, 0, 0⟩ (zInts 16) ⟨none, 0, 0⟩ (zInts 16) ⟨none, 0, 0⟩ 0 1)) Try.underlying32 rfl (by rw [len32]; exact sz32) rfl (ldA_full t_b13)) rfl ?_
  refine wl_stWT (vs := (c32 0 8 8 ⟨(some p3), 1, 1⟩ ⟨(some p8), 1, 1⟩ (mkI (n := 16) [1, 1, 0, 0, 0, 0, 0, 0, 0, 0, 0, 0, 0, 0, 0, 0] (by rfl)) ⟨(some p16), 2, 2⟩ (zInts 16) ⟨none, 0, 0⟩ (zInts 16) ⟨none, 0, 0⟩ (zInts 16) ⟨none, 0, 0⟩ (mkI (n := 16) [1, 0, 0, 0, 0, 0, 0, 0, 0, 0, 0, 0, 0, 0, 0, 0] (by rfl)) ⟨(some p22), 1, 1⟩ (zInts 16) ⟨none, 0, 0⟩ (zInts 16) ⟨none, 0, 0⟩ (zInts 16) ⟨none, 0, 0⟩ 0 1)) t_b1 (by first | (rw [len32, len32]) | (rw [len32]) | rfl) rfl so (fun q => ef_storeA (p := (⟨b1, 0, none⟩ : Addr)) (cs := (c32 0 8 8 ⟨(some p3), 1, 1⟩ ⟨(some p8), 1, 1⟩ (mkI (n := 16) [1, 1, 0, 0, 0, 0, 0, 0, 0, 0, 0, 0, 0, 0, 0, 0] (by rfl)) ⟨(some p16), 2, 2⟩ (zInts 16) ⟨none, 0, 0⟩ (zInts 16) ⟨none, 0, 0⟩ (zInts 16) ⟨none, 0, 0⟩ (mkI (n := 16) [1, 0, 0, 0, 0, 0, 0, 0, 0, 0, 0, 0, 0, 0, 0, 0] (by rfl)) ⟨(some p22), 1, 1⟩ (zInts 16) ⟨none, 0, 0⟩ (zInts 16) ⟨none, 0, 0⟩ (zInts 16) ⟨none, 0, 0⟩ 0 1)) (by rw [len32]; exact sz32) rfl rfl (one32 _ _ _ _ _ _ _ _ _ _ _ _ _ _ _ _ _ _ _ _ _ _ _) q) ?_; intro w28 t_b1 s_w28 so
  replace t_b13 := t_b13.same s_w28 (Ne.symm n_b1_b13)
  replace hc := ch_more hc s_w28
  refine wl_nil ?_
  refine wk_prune [(0, .pointer (some (⟨b1, 0, none⟩ : Addr)))] ⟨rfl, trivial⟩ (fun f1 => ?_)
  refine wk_then ?_
  refine wc_ret ?_
  replace h := h _ hc; clear hc
  exact wk_retR1 (x := (0, 8, 8, ⟨(some p3), 1, 1⟩, ⟨(some p8), 1, 1⟩, (mkI (n := 16) [1, 1, 0, 0, 0, 0, 0, 0, 0, 0, 0, 0, 0, 0, 0, 0] (by rfl)), ⟨(some p16), 2, 2⟩, (zInts 16), ⟨none, 0, 0⟩, (zInts 16), ⟨none, 0, 0⟩, (zInts 16), ⟨none, 0, 0⟩, (mkI (n := 16) [1, 0, 0, 0, 0, 0, 0, 0, 0, 0, 0, 0, 0, 0, 0, 0] (by rfl)), ⟨(some p22), 1, 1⟩, (zInts 16), ⟨none, 0, 0⟩, (zInts 16), ⟨none, 0, 0⟩, (zInts 16), ⟨none, 0, 0⟩, 0, 1)) rfl ⟨by decide, _, rfl, loadVar_agg (cs := (c32 0 8 8 ⟨(some p3), 1, 1⟩ ⟨(some p8), 1, 1⟩ (mkI (n := 16) [1, 1, 0, 0, 0, 0, 0, 0, 0, 0, 0, 0, 0, 0, 0, 0] (by rfl)) ⟨(some p16), 2, 2⟩ (zInts 16) ⟨none, 0, 0⟩ (zInts 16) ⟨none, 0, 0⟩ (zInts 16) ⟨none, 0, 0⟩ (mkI (n := 16) [1, 0, 0, 0, 0, 0, 0, 0, 0, 0, 0, 0, 0, 0, 0, 0] (by rfl)) ⟨(some p22), 1, 1⟩ (zInts 16) ⟨none, 0, 0⟩ (zInts 16) ⟨none, 0, 0⟩ (zInts 16) ⟨none, 0, 0⟩ 0 1)) Try.underlying32 rfl (by rw [len32]; exact sz32) (ldA_full t_b1)⟩ rfl so h
def mosaiclaw18_awake.enc : Bool → Value := fun r => .bool r
def mosaiclaw18_awake.s (H0 : Hp) (Q : Bool → Hp → Prop) : Prop :=
  mosaiclaw18_small.s H0 (fun x1 H2 => nw H2 57 (c57 (mkI (n := 64) [6, 0, 0, 0, 0, 0, 0, 0, 0, 0, 0, 0, 0, 0, 0, 0, 0, 0, 0, 0, 0, 0, 0, 0, 0, 0, 0, 0, 0, 0, 0, 0, 0, 0, 0, 0, 0, 0, 0, 0, 0, 0, 0, 0, 0, 0, 0, 0, 0, 0, 0, 0, 0, 0, 0, 0, 0, 0, 0, 0, 0, 0, 0, 0] (by rfl))) (fun p3 H4 => pen_Encode.s x1.1 x1.2.1 x1.2.2.1 x1.2.2.2.1 x1.2.2.2.2.1 x1.2.2.2.2.2.1 x1.2.2.2.2.2.2.1 x1.2.2.2.2.2.2.2.1 x1.2.2.2.2.2.2.2.2.1 x1.2.2.2.2.2.2.2.2.2.1 x1.2.2.2.2.2.2.2.2.2.2.1 x1.2.2.2.2.2.2.2.2.2.2.2.1 x1.2.2.2.2.2.2.2.2.2.2.2.2.1 x1.2.2.2.2.2.2.2.2.2.2.2.2.2.1 x1.2.2.2.2.2.2.2.2.2.2.2.2.2.2.1 x1.2.2.2.2.2.2.2.2.2.2.2.2.2.2.2.1 x1.2.2.2.2.2.2.2.2.2.2.2.2.2.2.2.2.1 x1.2.2.2.2.2.2.2.2.2.2.2.2.2.2.2.2.2.1 x1.2.2.2.2.2.2.2.2.2.2.2.2.2.2.2.2.2.2.1 x1.2.2.2.2.2.2.2.2.2.2.2.2.2.2.2.2.2.2.2.1 x1.2.2.2.2.2.2.2.2.2.2.2.2.2.2.2.2.2.2.2.2.1 x1.2.2.2.2.2.2.2.2.2.2.2.2.2.2.2.2.2.2.2.2.2.1 x1.2.2.2.2.2.2.2.2.2.2.2.2.2.2.2.2.2.2.2.2.2.2 ⟨(some p3), 1, 1⟩ H4 (fun x7 H8 => mosaiclaw18_small.s H8 (fun x9 H10 => nw H10 57 (c57 (mkI (n := 64) [2, 0, 0, 0, 0, 0, 0, 0, 0, 0, 0, 0, 0, 0, 0, 0, 0, 0, 0, 0, 0, 0, 0, 0, 0, 0, 0, 0, 0, 0, 0, 0, 0, 0, 0, 0, 0, 0, 0, 0, 0, 0, 0, 0, 0, 0, 0, 0, 0, 0, 0, 0, 0, 0, 0, 0, 0, 0, 0, 0, 0, 0, 0, 0] (by rfl))) (fun p11 H12 => pen_Encode.s x9.1 x9.2.1 x9.2.2.1 x9.2.2.2.1 x9.2.2.2.2.1 x9.2.2.2.2.2.1 x9.2.2.2.2.2.2.1 x9.2.2.2.2.2.2.2.1 x9.2.2.2.2.2.2.2.2.1 x9.2.2.2.2.2.2.2.2.2.1 x9.2.2.2.2.2.2.2.2.2.2.1 x9.2.2.2.2.2.2.2.2.2.2.2.1 x9.2.2.2.2.2.2.2.2.2.2.2.2.1 x9.2.2.2.2.2.2.2.2.2.2.2.2.2.1 x9.2.2.2.2.2.2.2.2.2.2.2.2.2.2.1 x9.2.2.2.2.2.2.2.2.2.2.2.2.2.2.2.1 x9.2.2.2.2.2.2.2.2.2.2.2.2.2.2.2.2.1 x9.2.2.2.2.2.2.2.2.2.2.2.2.2.2.2.2.2.1 x9.2.2.2.2.2.2.2.2.2.2.2.2.2.2.2.2.2.2.1 x9.2.2.2.2.2.2.2.2.2.2.2.2.2.2.2.2.2.2.2.1 x9.2.2.2.2.2.2.2.2.2.2.2.2.2.2.2.2.2.2.2.2.1 x9.2.2.2.2.2.2.2.2.2.2.2.2.2.2.2.2.2.2.2.2.2.1 x9.2.2.2.2.2.2.2.2.2.2.2.2.2.2.2.2.2.2.2.2.2.2 ⟨(some p11), 1, 1⟩ H12 (fun x15 H16 => mosaiclaw18_small.s H16 (fun x17 H18 => nw H18 57 (c57 (mkI (n := 64) [6, 0, 0, 0, 0, 0, 0, 0, 0, 0, 0, 0, 0, 0, 0, 0, 0, 0, 0, 0, 0, 0, 0, 0, 0, 0, 0, 0, 0, 0, 0, 0, 0, 0, 0, 0, 0, 0, 0, 0, 0, 0, 0, 0, 0, 0, 0, 0, 0, 0, 0, 0, 0, 0, 0, 0, 0, 0, 0, 0, 0, 0, 0, 0] (by rfl))) (fun p19 H20 => pen_Count.s x17.1 x17.2.1 x17.2.2.1 x17.2.2.2.1 x17.2.2.2.2.1 x17.2.2.2.2.2.1 x17.2.2.2.2.2.2.1 x17.2.2.2.2.2.2.2.1 x17.2.2.2.2.2.2.2.2.1 x17.2.2.2.2.2.2.2.2.2.1 x17.2.2.2.2.2.2.2.2.2.2.1 x17.2.2.2.2.2.2.2.2.2.2.2.1 x17.2.2.2.2.2.2.2.2.2.2.2.2.1 x17.2.2.2.2.2.2.2.2.2.2.2.2.2.1 x17.2.2.2.2.2.2.2.2.2.2.2.2.2.2.1 x17.2.2.2.2.2.2.2.2.2.2.2.2.2.2.2.1 x17.2.2.2.2.2.2.2.2.2.2.2.2.2.2.2.2.1 x17.2.2.2.2.2.2.2.2.2.2.2.2.2.2.2.2.2.1 x17.2.2.2.2.2.2.2.2.2.2.2.2.2.2.2.2.2.2.1 x17.2.2.2.2.2.2.2.2.2.2.2.2.2.2.2.2.2.2.2.1 x17.2.2.2.2.2.2.2.2.2.2.2.2.2.2.2.2.2.2.2.2.1 x17.2.2.2.2.2.2.2.2.2.2.2.2.2.2.2.2.2.2.2.2.2.1 x17.2.2.2.2.2.2.2.2.2.2.2.2.2.2.2.2.2.2.2.2.2.2 ⟨(some p19), 1, 1⟩ H20 (fun x23 H24 => Gn [] H24 (fun (b25 : Nat) (H26 : Hp) => Gn [b25] H26 (fun (b27 : Nat) (H30 : Hp) => if (x7.1.toList == (⟨#[179]⟩ : ByteArray).toList) = true then (if (x7.2 == 0) = true then (if (x15.2 == 43) = true then (if (x23.2.2.2.2.2.2.2.2 == 0) = true then (Bk H30 b25 40 (c40 x23.1 x23.2.1 x23.2.2.1 x23.2.2.2.1) → (ldI .i64 H30 (⟨b25, 3, none⟩ : Addr) (fun x31 => if (x31 == 1) = true then (ldI .i64 H30 (⟨b25, 0, none⟩ : Addr) (fun x33 => if (x33 == 0) = true then (Bk H30 b27 40 (c40 x23.2.2.2.2.1 x23.2.2.2.2.2.1 x23.2.2.2.2.2.2.1 x23.2.2.2.2.2.2.2.1) → (ldI .i64 H30 (⟨b27, 0, none⟩ : Addr) (fun x35 => Q (x35 == 1) H30))) else (Q false H30))) else (Q false H30)))) else (Q false H30)) else (Q false H30)) else (Q false H30)) else (Q false H30))))))))))))
set_option maxRecDepth 20000 in
set_option maxHeartbeats 4000000 in
theorem mosaiclaw18_awake.calls (w0 : World) (Q : Bool → Hp → Prop) (h : mosaiclaw18_awake.s w0.heap Q) :
    Ca Try.prog 5 #[] w0 (Rt mosaiclaw18_awake.enc Q w0) := by
  refine ca_start (c := _) Try.func5 rfl Try.ntmps5 rfl ?_
  have so : Sm w0 w0 := Sm.refl w0
  unfold mosaiclaw18_awake.s at h
  refine wc_prune [] trivial (fun f1 => ?_)
  refine wc_seq ?_
  refine wc_region ?_
  refine wl_val (at_assign rfl) rfl ?_
  refine wl_nil ?_
  refine wk_prune [] trivial (fun f1 => ?_)
  refine wk_then ?_
  refine wc_seq ?_
  refine wc_region ?_
  refine wl_callF (mosaiclaw18_small.calls _ _ h) enter13 rfl trivial so ?_; intro x1 w2 h so
  refine wl_val (at_build (cs := (c57 (mkI (n := 64) [6, 0, 0, 0, 0, 0, 0, 0, 0, 0, 0, 0, 0, 0, 0, 0, 0, 0, 0, 0, 0, 0, 0, 0, 0, 0, 0, 0, 0, 0, 0, 0, 0, 0, 0, 0, 0, 0, 0, 0, 0, 0, 0, 0, 0, 0, 0, 0, 0, 0, 0, 0, 0, 0, 0, 0, 0, 0, 0, 0, 0, 0, 0, 0] (by rfl)))) (ps := [(0, .int .i16 6)]) rfl (build_array (vs := [.int .i16 0, .int .i16 0, .int .i16 0, .int .i16 0, .int .i16 0, .int .i16 0, .int .i16 0, .int .i16 0, .int .i16 0, .int .i16 0, .int .i16 0, .int .i16 0, .int .i16 0, .int .i16 0, .int .i16 0, .int .i16 0, .int .i16 0, .int .i16 0, .int .i16 0, .int .i16 0, .int .i16 0, .int .i16 0, .int .i16 0, .int .i16 0, .int .i16 0, .int .i16 0, .int .i16 0, .int .i16 0, .int .i16 0, .int .i16 0, .int .i16 0, .int .i16 0, .int .i16 0, .int .i16 0, .int .i16 0, .int .i16 0, .int .i16 0, .int .i16 0, .int .i16 0, .int .i16 0, .int .i16 0, .int .i16 0, .int .i16 0, .int .i16 0, .int .i16 0, .int .i16 0, .int .i16 0, .int .i16 0, .int .i16 0, .int .i16 0, .int .i16 0, .int .i16 0, .int .i16 0, .int .i16 0, .int .i16 0, .int .i16 0, .int .i16 0, .int .i16 0, .int .i16 0, .int .i16 0, .int .i16 0, .int .i16 0, .int .i16 0, .int .i16 0]) (cs := (c57 (mkI (n := 64) [6, 0, 0, 0, 0, 0, 0, 0, 0, 0, 0, 0, 0, 0, 0, 0, 0, 0, 0, 0, 0, 0, 0, 0, 0, 0, 0, 0, 0, 0, 0, 0, 0, 0, 0, 0, 0, 0, 0, 0, 0, 0, 0, 0, 0, 0, 0, 0, 0, 0, 0, 0, 0, 0, 0, 0, 0, 0, 0, 0, 0, 0, 0, 0] (by rfl)))) zero57 (by first | rfl | simp [z57, c57, Value.cells, ints_len, bools_len, List.flatMap]) Try.underlying57 sz55 (by first | rfl | simp [z57, c57, Value.cells, ints_len, bools_len]) (by simp [z57, c57, Value.cells, ints_len, bools_len]) (by first | rfl | simp [z57, c57, Value.cells, ints_len, bools_len, List.set, List.flatMap, mkI, mkB, ints, bools]))) rfl ?_
  obtain ⟨i6, i6a, i6b, i6c, i6d⟩ := info57
  refine wl_newS (ef_buildSlice (cs := (c57 (mkI (n := 64) [6, 0, 0, 0, 0, 0, 0, 0, 0, 0, 0, 0, 0, 0, 0, 0, 0, 0, 0, 0, 0, 0, 0, 0, 0, 0, 0, 0, 0, 0, 0, 0, 0, 0, 0, 0, 0, 0, 0, 0, 0, 0, 0, 0, 0, 0, 0, 0, 0, 0, 0, 0, 0, 0, 0, 0, 0, 0, 0, 0, 0, 0, 0, 0] (by rfl)))) (ps := [(0, .agg (c57 (mkI (n := 64) [6, 0, 0, 0, 0, 0, 0, 0, 0, 0, 0, 0, 0, 0, 0, 0, 0, 0, 0, 0, 0, 0, 0, 0, 0, 0, 0, 0, 0, 0, 0, 0, 0, 0, 0, 0, 0, 0, 0, 0, 0, 0, 0, 0, 0, 0, 0, 0, 0, 0, 0, 0, 0, 0, 0, 0, 0, 0, 0, 0, 0, 0, 0, 0] (by rfl))).toArray)]) Try.underlying33 i6a i6b rfl (by rw [i6c]; decide) (by rw [i6c]; exact fill_full (vs := [.agg (c57 (mkI (n := 64) [6, 0, 0, 0, 0, 0, 0, 0, 0, 0, 0, 0, 0, 0, 0, 0, 0, 0, 0, 0, 0, 0, 0, 0, 0, 0, 0, 0, 0, 0, 0, 0, 0, 0, 0, 0, 0, 0, 0, 0, 0, 0, 0, 0, 0, 0, 0, 0, 0, 0, 0, 0, 0, 0, 0, 0, 0, 0, 0, 0, 0, 0, 0, 0] (by rfl))).toArray]) rfl (by simp [Value.cells]) (by simp [Value.cells, len57]) rfl (by simp))) rfl so (one57 _) h ?_; intro p3 w4 h r5 so
  refine wl_callF (pen_Encode.calls _ _ _ _ _ _ _ _ _ _ _ _ _ _ _ _ _ _ _ _ _ _ _ _ _ _ h) enter6 rfl trivial so ?_; intro x7 w8 h so
  refine wl_val (at_move rfl) rfl ?_
  refine wl_val (at_extract rfl rfl) rfl ?_
  refine wl_val (at_extract rfl rfl) rfl ?_
  refine wl_val (at_assign rfl) rfl ?_
  refine wl_val (at_assign rfl) rfl ?_
  refine wl_nil ?_
  refine wk_prune [(1, .string x7.1), (2, .int .i64 x7.2)] ⟨rfl, rfl, trivial⟩ (fun f1 => ?_)
  refine wk_then ?_
  refine wc_seq ?_
  refine wc_region ?_
  refine wl_callF (mosaiclaw18_small.calls _ _ h) enter13 rfl trivial so ?_; intro x9 w10 h so
  refine wl_val (at_build (cs := (c57 (mkI (n := 64) [2, 0, 0, 0, 0, 0, 0, 0, 0, 0, 0, 0, 0, 0, 0, 0, 0, 0, 0, 0, 0, 0, 0, 0, 0, 0, 0, 0, 0, 0, 0, 0, 0, 0, 0, 0, 0, 0, 0, 0, 0, 0, 0, 0, 0, 0, 0, 0, 0, 0, 0, 0, 0, 0, 0, 0, 0, 0, 0, 0, 0, 0, 0, 0] (by rfl)))) (ps := [(0, .int .i16 2)]) rfl (build_array (vs := [.int .i16 0, .int .i16 0, .int .i16 0, .int .i16 0, .int .i16 0, .int .i16 0, .int .i16 0, .int .i16 0, .int .i16 0, .int .i16 0, .int .i16 0, .int .i16 0, .int .i16 0, .int .i16 0, .int .i16 0, .int .i16 0, .int .i16 0, .int .i16 0, .int .i16 0, .int .i16 0, .int .i16 0, .int .i16 0, .int .i16 0, .int .i16 0, .int .i16 0, .int .i16 0, .int .i16 0, .int .i16 0, .int .i16 0, .int .i16 0, .int .i16 0, .int .i16 0, .int .i16 0, .int .i16 0, .int .i16 0, .int .i16 0, .int .i16 0, .int .i16 0, .int .i16 0, .int .i16 0, .int .i16 0, .int .i16 0, .int .i16 0, .int .i16 0, .int .i16 0, .int .i16 0, .int .i16 0, .int .i16 0, .int .i16 0, .int .i16 0, .int .i16 0, .int .i16 0, .int .i16 0, .int .i16 0, .int .i16 0, .int .i16 0, .int .i16 0, .int .i16 0, .int .i16 0, .int .i16 0, .int .i16 0, .int .i16 0, .int .i16 0, .int .i16 0]) (cs := (c57 (mkI (n := 64) [2, 0, 0, 0, 0, 0, 0, 0, 0, 0, 0, 0, 0, 0, 0, 0, 0, 0, 0, 0, 0, 0, 0, 0, 0, 0, 0, 0, 0, 0, 0, 0, 0, 0, 0, 0, 0, 0, 0, 0, 0, 0, 0, 0, 0, 0, 0, 0, 0, 0, 0, 0, 0, 0, 0, 0, 0, 0, 0, 0, 0, 0, 0, 0] (by rfl)))) zero57 (by first | rfl | simp [z57, c57, Value.cells, ints_len, bools_len, List.flatMap]) Try.underlying57 sz55 (by first | rfl | simp [z57, c57, Value.cells, ints_len, bools_len]) (by simp [z57, c57, Value.cells, ints_len, bools_len]) (by first | rfl | simp [z57, c57, Value.cells, ints_len, bools_len, List.set, List.flatMap, mkI, mkB, ints, bools]))) rfl ?_
  obtain ⟨i14, i14a, i14b, i14c, i14d⟩ := info57
  refine wl_newS (ef_buildSlice (cs := (c57 (mkI (n := 64) [2, 0, 0, 0, 0, 0, 0, 0, 0, 0, 0, 0, 0, 0, 0, 0, 0, 0, 0, 0, 0, 0, 0, 0, 0, 0, 0, 0, 0, 0, 0, 0, 0, 0, 0, 0, 0, 0, 0, 0, 0, 0, 0, 0, 0, 0, 0, 0, 0, 0, 0, 0, 0, 0, 0, 0, 0, 0, 0, 0, 0, 0, 0, 0] (by rfl)))) (ps := [(0, .agg (c57 (mkI (n := 64) [2, 0, 0, 0, 0, 0, 0, 0, 0, 0, 0, 0, 0, 0, 0, 0, 0, 0, 0, 0, 0, 0, 0, 0, 0, 0, 0, 0, 0, 0, 0, 0, 0, 0, 0, 0, 0, 0, 0, 0, 0, 0, 0, 0, 0, 0, 0, 0, 0, 0, 0, 0, 0, 0, 0, 0, 0, 0, 0, 0, 0, 0, 0, 0] (by rfl))).toArray)]) Try.underlying33 i14a i14b rfl (by rw [i14c]; decide) (by rw [i14c]; exact fill_full (vs := [.agg (c57 (mkI (n := 64) [2, 0, 0, 0, 0, 0, 0, 0, 0, 0, 0, 0, 0, 0, 0, 0, 0, 0, 0, 0, 0, 0, 0, 0, 0, 0, 0, 0, 0, 0, 0, 0, 0, 0, 0, 0, 0, 0, 0, 0, 0, 0, 0, 0, 0, 0, 0, 0, 0, 0, 0, 0, 0, 0, 0, 0, 0, 0, 0, 0, 0, 0, 0, 0] (by rfl))).toArray]) rfl (by simp [Value.cells]) (by simp [Value.cells, len57]) rfl (by simp))) rfl so (one57 _) h ?_; intro p11 w12 h r13 so
  refine wl_callF (pen_Encode.calls _ _ _ _ _ _ _ _ _ _ _ _ _ _ _ _ _ _ _ _ _ _ _ _ _ _ h) enter6 rfl trivial so ?_; intro x15 w16 h so
  refine wl_val (at_move rfl) rfl ?_
  refine wl_val (at_extract rfl rfl) rfl ?_
  refine wl_val (at_extract rfl rfl) rfl ?_
  refine wl_val (at_assign rfl) rfl ?_
  refine wl_val (at_assign rfl) rfl ?_
  refine wl_nil ?_
  refine wk_prune [(1, .string x7.1), (2, .int .i64 x7.2), (4, .int .i64 x15.2)] ⟨rfl, rfl, rfl, trivial⟩ (fun f1 => ?_)
  refine wk_then ?_
  refine wc_seq ?_
  refine wc_region ?_
  refine wl_callF (mosaiclaw18_small.calls _ _ h) enter13 rfl trivial so ?_; intro x17 w18 h so
  refine wl_val (at_build (cs := (c57 (mkI (n := 64) [6, 0, 0, 0, 0, 0, 0, 0, 0, 0, 0, 0, 0, 0, 0, 0, 0, 0, 0, 0, 0, 0, 0, 0, 0, 0, 0, 0, 0, 0, 0, 0, 0, 0, 0, 0, 0, 0, 0, 0, 0, 0, 0, 0, 0, 0, 0, 0, 0, 0, 0, 0, 0, 0, 0, 0, 0, 0, 0, 0, 0, 0, 0, 0] (by rfl)))) (ps := [(0, .int .i16 6)]) rfl (build_array (vs := [.int .i16 0, .int .i16 0, .int .i16 0, .int .i16 0, .int .i16 0, .int .i16 0, .int .i16 0, .int .i16 0, .int .i16 0, .int .i16 0, .int .i16 0, .int .i16 0, .int .i16 0, .int .i16 0, .int .i16 0, .int .i16 0, .int .i16 0, .int .i16 0, .int .i16 0, .int .i16 0, .int .i16 0, .int .i16 0, .int .i16 0, .int .i16 0, .int .i16 0, .int .i16 0, .int .i16 0, .int .i16 0, .int .i16 0, .int .i16 0, .int .i16 0, .int .i16 0, .int .i16 0, .int .i16 0, .int .i16 0, .int .i16 0, .int .i16 0, .int .i16 0, .int .i16 0, .int .i16 0, .int .i16 0, .int .i16 0, .int .i16 0, .int .i16 0, .int .i16 0, .int .i16 0, .int .i16 0, .int .i16 0, .int .i16 0, .int .i16 0, .int .i16 0, .int .i16 0, .int .i16 0, .int .i16 0, .int .i16 0, .int .i16 0, .int .i16 0, .int .i16 0, .int .i16 0, .int .i16 0, .int .i16 0, .int .i16 0, .int .i16 0, .int .i16 0]) (cs := (c57 (mkI (n := 64) [6, 0, 0, 0, 0, 0, 0, 0, 0, 0, 0, 0, 0, 0, 0, 0, 0, 0, 0, 0, 0, 0, 0, 0, 0, 0, 0, 0, 0, 0, 0, 0, 0, 0, 0, 0, 0, 0, 0, 0, 0, 0, 0, 0, 0, 0, 0, 0, 0, 0, 0, 0, 0, 0, 0, 0, 0, 0, 0, 0, 0, 0, 0, 0] (by rfl)))) zero57 (by first | rfl | simp [z57, c57, Value.cells, ints_len, bools_len, List.flatMap]) Try.underlying57 sz55 (by first | rfl | simp [z57, c57, Value.cells, ints_len, bools_len]) (by simp [z57, c57, Value.cells, ints_len, bools_len]) (by first | rfl | simp [z57, c57, Value.cells, ints_len, bools_len, List.set, List.flatMap, mkI, mkB, ints, bools]))) rfl ?_
  obtain ⟨i22, i22a, i22b, i22c, i22d⟩ := info57
  refine wl_newS (ef_buildSlice (cs := (c57 (mkI (n := 64) [6, 0, 0, 0, 0, 0, 0, 0, 0, 0, 0, 0, 0, 0, 0, 0, 0, 0, 0, 0, 0, 0, 0, 0, 0, 0, 0, 0, 0, 0, 0, 0, 0, 0, 0, 0, 0, 0, 0, 0, 0, 0, 0, 0, 0, 0, 0, 0, 0, 0, 0, 0, 0, 0, 0, 0, 0, 0, 0, 0, 0, 0, 0, 0] (by rfl)))) (ps := [(0, .agg (c57 (mkI (n := 64) [6, 0, 0, 0, 0, 0, 0, 0, 0, 0, 0, 0, 0, 0, 0, 0, 0, 0, 0, 0, 0, 0, 0, 0, 0, 0, 0, 0, 0, 0, 0, 0, 0, 0, 0, 0, 0, 0, 0, 0, 0, 0, 0, 0, 0, 0, 0, 0, 0, 0, 0, 0, 0, 0, 0, 0, 0, 0, 0, 0, 0, 0, 0, 0] (by rfl))).toArray)]) Try.underlying33 i22a i22b rfl (by rw [i22c]; decide) (by rw [i22c]; exact fill_full (vs := [.agg (c57 (mkI (n := 64) [6, 0, 0, 0, 0, 0, 0, 0, 0, 0, 0, 0, 0, 0, 0, 0, 0, 0, 0, 0, 0, 0, 0, 0, 0, 0, 0, 0, 0, 0, 0, 0, 0, 0, 0, 0, 0, 0, 0, 0, 0, 0, 0, 0, 0, 0, 0, 0, 0, 0, 0, 0, 0, 0, 0, 0, 0, 0, 0, 0, 0, 0, 0, 0] (by rfl))).toArray]) rfl (by simp [Value.cells]) (by simp [Value.cells, len57]) rfl (by simp))) rfl so (one57 _) h ?_; intro p19 w20 h r21 so
  refine wl_callF (pen_Count.calls _ _ _ _ _ _ _ _ _ _ _ _ _ _ _ _ _ _ _ _ _ _ _ _ _ _ h) enter8 rfl trivial so ?_; intro x23 w24 h so
  refine wl_val (at_move rfl) rfl ?_
  refine wl_val (at_extract rfl rfl) rfl ?_
  refine wl_val (at_extract rfl rfl) rfl ?_
  refine wl_val (at_extract rfl rfl) rfl ?_
  refine wl_newT (T := 40) (cs := (c40 (zInts 256) (zInts 256) (zInts 256) (zInts 256))) (ef_alloc zero40 rfl) rfl so ?_; intro b25 w26 hb_b25 t_b25 k_b25 so
  have g_b25 := Nat.le_of_eq hb_b25.symm
  have hc := k_b25.ch (F := [])
  replace h := h b25 _ hc g_b25 t_b25.lt; clear hc
  refine wl_newT (T := 40) (cs := (c40 (zInts 256) (zInts 256) (zInts 256) (zInts 256))) (ef_alloc zero40 rfl) rfl so ?_; intro b27 w28 hb_b27 t_b27 k_b27 so
  have g_b27 := Nat.le_of_eq hb_b27.symm
  have hc := k_b27.ch (F := [])
  have n_b25_b27 : b25 ≠ b27 := fun e => by have := t_b25.lt; omega
  replace t_b25 := t_b25.keep k_b27
  refine wl_stWT (vs := (c40 x23.1 x23.2.1 x23.2.2.1 x23.2.2.2.1)) t_b25 (by first | (rw [len40, len40]) | (rw [len40]) | rfl) rfl so (fun q => ef_storeA (p := (⟨b25, 0, none⟩ : Addr)) (cs := (c40 x23.1 x23.2.1 x23.2.2.1 x23.2.2.2.1)) (by rw [len40]; exact sz40) rfl rfl (one40 _ _ _ _) q) ?_; intro w29 t_b25 s_w29 so
  replace t_b27 := t_b27.same s_w29 (Ne.symm n_b25_b27)
  replace hc := ch_more hc s_w29
  refine wl_stWT (vs := (c40 x23.2.2.2.2.1 x23.2.2.2.2.2.1 x23.2.2.2.2.2.2.1 x23.2.2.2.2.2.2.2.1)) t_b27 (by first | (rw [len40, len40]) | (rw [len40]) | rfl) rfl so (fun q => ef_storeA (p := (⟨b27, 0, none⟩ : Addr)) (cs := (c40 x23.2.2.2.2.1 x23.2.2.2.2.2.1 x23.2.2.2.2.2.2.1 x23.2.2.2.2.2.2.2.1)) (by rw [len40]; exact sz40) rfl rfl (one40 _ _ _ _) q) ?_; intro w30 t_b27 s_w30 so
  replace t_b25 := t_b25.same s_w30 (n_b25_b27)
  replace hc := ch_same hc s_w30 (.inr g_b27)
  refine wl_val (at_assign rfl) rfl ?_
  refine wl_nil ?_
  refine wk_prune [(1, .string x7.1), (2, .int .i64 x7.2), (4, .int .i64 x15.2), (5, .pointer (some (⟨b25, 0, none⟩ : Addr))), (6, .pointer (some (⟨b27, 0, none⟩ : Addr))), (7, .int .i64 x23.2.2.2.2.2.2.2.2)] ⟨rfl, rfl, rfl, rfl, rfl, rfl, trivial⟩ (fun f1 => ?_)
  refine wk_then ?_
  refine wc_seq ?_
  refine wc_region ?_
  refine wl_val (at_move rfl) rfl ?_
  refine wl_val (at_eqlS rfl rfl) rfl ?_
  refine wl_val (at_move rfl) rfl ?_
  replace h := h b27 _ hc g_b27 t_b27.lt; clear hc
  refine bif_ h (fun hb h => ?_) (fun hb h => ?_)
  · refine wl_set (t := 32) (v := .bool true) (congrArg Value.bool hb) ?_; clear hb
    refine wl_on (t := 32) rfl (by decide) rfl ?_
    refine wl_val (at_move rfl) rfl ?_
    refine wl_on (t := 32) rfl (by decide) rfl ?_
    refine wl_val (at_eql rfl rfl) rfl ?_
    refine wl_val (at_pick_t rfl rfl) rfl ?_
    refine wl_val (at_move rfl) rfl ?_
    refine bif_ h (fun hb h => ?_) (fun hb h => ?_)
    · refine wl_set (t := 36) (v := .bool true) (congrArg Value.bool hb) ?_; clear hb
      refine wl_on (t := 36) rfl (by decide) rfl ?_
      refine wl_val (at_move rfl) rfl ?_
      refine wl_on (t := 36) rfl (by decide) rfl ?_
      refine wl_val (at_eql rfl rfl) rfl ?_
      refine wl_val (at_pick_t rfl rfl) rfl ?_
      refine wl_val (at_move rfl) rfl ?_
      refine bif_ h (fun hb h => ?_) (fun hb h => ?_)
      · refine wl_set (t := 40) (v := .bool true) (congrArg Value.bool hb) ?_; clear hb
        refine wl_on (t := 40) rfl (by decide) rfl ?_
        refine wl_val (at_move rfl) rfl ?_
        refine wl_on (t := 40) rfl (by decide) rfl ?_
        refine wl_val (at_eql rfl rfl) rfl ?_
        refine wl_val (at_pick_t rfl rfl) rfl ?_
        refine wl_val (at_move rfl) rfl ?_
        refine bif_ h (fun hb h => ?_) (fun hb h => ?_)
        · refine wl_set (t := 44) (v := .bool true) (congrArg Value.bool hb) ?_; clear hb
          refine wl_on (t := 44) rfl (by decide) rfl ?_
          refine wl_val (at_ixAddrA Try.underlying40 sz39 rfl rfl (by decide) (by decide)) rfl ?_
          refine wl_on (t := 44) rfl (by decide) rfl ?_
          refine wl_val (at_ixAddrA Try.underlying39 sz3 rfl rfl (by decide) (by decide)) rfl ?_
          refine wl_on (t := 44) rfl (by decide) rfl ?_
          replace h := h t_b25
          obtain ⟨x31, q32, h⟩ := h
          refine wl_val (at_load Try.underlying3 rfl rfl q32) rfl ?_
          refine wl_on (t := 44) rfl (by decide) rfl ?_
          refine wl_val (at_eql rfl rfl) rfl ?_
          refine wl_val (at_pick_t rfl rfl) rfl ?_
          refine wl_val (at_move rfl) rfl ?_
          refine bif_ h (fun hb h => ?_) (fun hb h => ?_)
          · refine wl_set (t := 50) (v := .bool true) (congrArg Value.bool hb) ?_; clear hb
            refine wl_on (t := 50) rfl (by decide) rfl ?_
            refine wl_val (at_ixAddrA Try.underlying40 sz39 rfl rfl (by decide) (by decide)) rfl ?_
            refine wl_on (t := 50) rfl (by decide) rfl ?_
            refine wl_val (at_ixAddrA Try.underlying39 sz3 rfl rfl (by decide) (by decide)) rfl ?_
            refine wl_on (t := 50) rfl (by decide) rfl ?_
            obtain ⟨x33, q34, h⟩ := h
            refine wl_val (at_load Try.underlying3 rfl rfl q34) rfl ?_
            refine wl_on (t := 50) rfl (by decide) rfl ?_
            refine wl_val (at_eql rfl rfl) rfl ?_
            refine wl_val (at_pick_t rfl rfl) rfl ?_
            refine wl_val (at_move rfl) rfl ?_
            refine bif_ h (fun hb h => ?_) (fun hb h => ?_)
            · refine wl_set (t := 56) (v := .bool true) (congrArg Value.bool hb) ?_; clear hb
              refine wl_on (t := 56) rfl (by decide) rfl ?_
              refine wl_val (at_ixAddrA Try.underlying40 sz39 rfl rfl (by decide) (by decide)) rfl ?_
              refine wl_on (t := 56) rfl (by decide) rfl ?_
              refine wl_val (at_ixAddrA Try.underlying39 sz3 rfl rfl (by decide) (by decide)) rfl ?_
              refine wl_on (t := 56) rfl (by decide) rfl ?_
              replace h := h t_b27
              obtain ⟨x35, q36, h⟩ := h
              refine wl_val (at_load Try.underlying3 rfl rfl q36) rfl ?_
              refine wl_on (t := 56) rfl (by decide) rfl ?_
              refine wl_val (at_eql rfl rfl) rfl ?_
              refine wl_val (at_pick_t rfl rfl) rfl ?_
              refine wl_val (at_assign rfl) rfl ?_
              refine wl_nil ?_
              refine wk_prune [(0, .bool (x35 == 1))] ⟨rfl, trivial⟩ (fun f1 => ?_)
              refine wk_then ?_
              refine wc_ret ?_
              exact wk_ret1 (x := (x35 == 1)) rfl (by decide) rfl so h
            · refine wl_set (t := 56) (v := .bool false) (congrArg Value.bool hb) ?_; clear hb
              refine wl_off (t := 56) rfl (by decide) rfl ?_
              refine wl_off (t := 56) rfl (by decide) rfl ?_
              refine wl_off (t := 56) rfl (by decide) rfl ?_
              refine wl_off (t := 56) rfl (by decide) rfl ?_
              refine wl_val (at_pick_f rfl rfl) rfl ?_
              refine wl_val (at_assign rfl) rfl ?_
              refine wl_nil ?_
              refine wk_prune [(0, .bool false)] ⟨rfl, trivial⟩ (fun f1 => ?_)
              refine wk_then ?_
              refine wc_ret ?_
              exact wk_ret1 (x := false) rfl (by decide) rfl so h
          · refine wl_set (t := 50) (v := .bool false) (congrArg Value.bool hb) ?_; clear hb
            refine wl_off (t := 50) rfl (by decide) rfl ?_
            refine wl_off (t := 50) rfl (by decide) rfl ?_
            refine wl_off (t := 50) rfl (by decide) rfl ?_
            refine wl_off (t := 50) rfl (by decide) rfl ?_
            refine wl_val (at_pick_f rfl rfl) rfl ?_
            refine wl_val (at_move rfl) rfl ?_
            refine wl_off (t := 56) rfl (by decide) rfl ?_
            refine wl_off (t := 56) rfl (by decide) rfl ?_
            refine wl_off (t := 56) rfl (by decide) rfl ?_
            refine wl_off (t := 56) rfl (by decide) rfl ?_
            refine wl_val (at_pick_f rfl rfl) rfl ?_
            refine wl_val (at_assign rfl) rfl ?_
            refine wl_nil ?_
            refine wk_prune [(0, .bool false)] ⟨rfl, trivial⟩ (fun f1 => ?_)
            refine wk_then ?_
            refine wc_ret ?_
            exact wk_ret1 (x := false) rfl (by decide) rfl so h
        · refine wl_set (t := 44) (v := .bool false) (congrArg Value.bool hb) ?_; clear hb
          refine wl_off (t := 44) rfl (by decide) rfl ?_
          refine wl_off (t := 44) rfl (by decide) rfl ?_
          refine wl_off (t := 44) rfl (by decide) rfl ?_
          refine wl_off (t := 44) rfl (by decide) rfl ?_
          refine wl_val (at_pick_f rfl rfl) rfl ?_
          refine wl_val (at_move rfl) rfl ?_
          refine wl_off (t := 50) rfl (by decide) rfl ?_
          refine wl_off (t := 50) rfl (by decide) rfl ?_
          refine wl_off (t := 50) rfl (by decide) rfl ?_
          refine wl_off (t := 50) rfl (by decide) rfl ?_
          refine wl_val (at_pick_f rfl rfl) rfl ?_
          refine wl_val (at_move rfl) rfl ?_
          refine wl_off (t := 56) rfl (by decide) rfl ?_
          refine wl_off (t := 56) rfl (by decide) rfl ?_
          refine wl_off (t := 56) rfl (by decide) rfl ?_
          refine wl_off (t := 56) rfl (by decide) rfl ?_
          refine wl_val (at_pick_f rfl rfl) rfl ?_
          refine wl_val (at_assign rfl) rfl ?_
          refine wl_nil ?_
          refine wk_prune [(0, .bool false)] ⟨rfl, trivial⟩ (fun f1 => ?_)
          refine wk_then ?_
          refine wc_ret ?_
          exact wk_ret1 (x := false) rfl (by decide) rfl so h
      · refine wl_set (t := 40) (v := .bool false) (congrArg Value.bool hb) ?_; clear hb
        refine wl_off (t := 40) rfl (by decide) rfl ?_
        refine wl_off (t := 40) rfl (by decide) rfl ?_
        refine wl_val (at_pick_f rfl rfl) rfl ?_
        refine wl_val (at_move rfl) rfl ?_
        refine wl_off (t := 44) rfl (by decide) rfl ?_
        refine wl_off (t := 44) rfl (by decide) rfl ?_
        refine wl_off (t := 44) rfl (by decide) rfl ?_
        refine wl_off (t := 44) rfl (by decide) rfl ?_
        refine wl_val (at_pick_f rfl rfl) rfl ?_
        refine wl_val (at_move rfl) rfl ?_
        refine wl_off (t := 50) rfl (by decide) rfl ?_
        refine wl_off (t := 50) rfl (by decide) rfl ?_
        refine wl_off (t := 50) rfl (by decide) rfl ?_
        refine wl_off (t := 50) rfl (by decide) rfl ?_
        refine wl_val (at_pick_f rfl rfl) rfl ?_
        refine wl_val (at_move rfl) rfl ?_
        refine wl_off (t := 56) rfl (by decide) rfl ?_
        refine wl_off (t := 56) rfl (by decide) rfl ?_
        refine wl_off (t := 56) rfl (by decide) rfl ?_
        refine wl_off (t := 56) rfl (by decide) rfl ?_
        refine wl_val (at_pick_f rfl rfl) rfl ?_
        refine wl_val (at_assign rfl) rfl ?_
        refine wl_nil ?_
        refine wk_prune [(0, .bool false)] ⟨rfl, trivial⟩ (fun f1 => ?_)
        refine wk_then ?_
        refine wc_ret ?_
        exact wk_ret1 (x := false) rfl (by decide) rfl so h
    · refine wl_set (t := 36) (v := .bool false) (congrArg Value.bool hb) ?_; clear hb
      refine wl_off (t := 36) rfl (by decide) rfl ?_
      refine wl_off (t := 36) rfl (by decide) rfl ?_
      refine wl_val (at_pick_f rfl rfl) rfl ?_
      refine wl_val (at_move rfl) rfl ?_
      refine wl_off (t := 40) rfl (by decide) rfl ?_
      refine wl_off (t := 40) rfl (by decide) rfl ?_
      refine wl_val (at_pick_f rfl rfl) rfl ?_
      refine wl_val (at_move rfl) rfl ?_
      refine wl_off (t := 44) rfl (by decide) rfl ?_
      refine wl_off (t := 44) rfl (by decide) rfl ?_
      refine wl_off (t := 44) rfl (by decide) rfl ?_
      refine wl_off (t := 44) rfl (by decide) rfl ?_
      refine wl_val (at_pick_f rfl rfl) rfl ?_
      refine wl_val (at_move rfl) rfl ?_
      refine wl_off (t := 50) rfl (by decide) rfl ?_
      refine wl_off (t := 50) rfl (by decide) rfl ?_
      refine wl_off (t := 50) rfl (by decide) rfl ?_
      refine wl_off (t := 50) rfl (by decide) rfl ?_
      refine wl_val (at_pick_f rfl rfl) rfl ?_
      refine wl_val (at_move rfl) rfl ?_
      refine wl_off (t := 56) rfl (by decide) rfl ?_
      refine wl_off (t := 56) rfl (by decide) rfl ?_
      refine wl_off (t := 56) rfl (by decide) rfl ?_
      refine wl_off (t := 56) rfl (by decide) rfl ?_
      refine wl_val (at_pick_f rfl rfl) rfl ?_
      refine wl_val (at_assign rfl) rfl ?_
      refine wl_nil ?_
      refine wk_prune [(0, .bool false)] ⟨rfl, trivial⟩ (fun f1 => ?_)
      refine wk_then ?_
      refine wc_ret ?_
      exact wk_ret1 (x := false) rfl (by decide) rfl so h
  · refine wl_set (t := 32) (v := .bool false) (congrArg Value.bool hb) ?_; clear hb
    refine wl_off (t := 32) rfl (by decide) rfl ?_
    refine wl_off (t := 32) rfl (by decide) rfl ?_
    refine wl_val (at_pick_f rfl rfl) rfl ?_
    refine wl_val (at_move rfl) rfl ?_
    refine wl_off (t := 36) rfl (by decide) rfl ?_
    refine wl_off (t := 36) rfl (by decide) rfl ?_
    refine wl_val (at_pick_f rfl rfl) rfl ?_
    refine wl_val (at_move rfl) rfl ?_
    refine wl_off (t := 40) rfl (by decide) rfl ?_
    refine wl_off (t := 40) rfl (by decide) rfl ?_
    refine wl_val (at_pick_f rfl rfl) rfl ?_
    refine wl_val (at_move rfl) rfl ?_
    refine wl_off (t := 44) rfl (by decide) rfl ?_
    refine wl_off (t := 44) rfl (by decide) rfl ?_
    refine wl_off (t := 44) rfl (by decide) rfl ?_
    refine wl_off (t := 44) rfl (by decide) rfl ?_
    refine wl_val (at_pick_f rfl rfl) rfl ?_
    refine wl_val (at_move rfl) rfl ?_
    refine wl_off (t := 50) rfl (by decide) rfl ?_
    refine wl_off (t := 50) rfl (by decide) rfl ?_
    refine wl_off (t := 50) rfl (by decide) rfl ?_
    refine wl_off (t := 50) rfl (by decide) rfl ?_
    refine wl_val (at_pick_f rfl rfl) rfl ?_
    refine wl_val (at_move rfl) rfl ?_
    refine wl_off (t := 56) rfl (by decide) rfl ?_
    refine wl_off (t := 56) rfl (by decide) rfl ?_
    refine wl_off (t := 56) rfl (by decide) rfl ?_
    refine wl_off (t := 56) rfl (by decide) rfl ?_
    refine wl_val (at_pick_f rfl rfl) rfl ?_
    refine wl_val (at_assign rfl) rfl ?_
    refine wl_nil ?_
    refine wk_prune [(0, .bool false)] ⟨rfl, trivial⟩ (fun f1 => ?_)
    refine wk_then ?_
    refine wc_ret ?_
    exact wk_ret1 (x := false) rfl (by decide) rfl so h
def mosaiclaw18_twin.enc : Int × Int × Int × Sl × Sl × (Ints 16) × Sl × (Ints 16) × Sl × (Ints 16) × Sl × (Ints 16) × Sl × (Ints 16) × Sl × (Ints 16) × Sl × (Ints 16) × Sl × (Ints 16) × Sl × Int × Int → Value := fun r => .agg (c32 r.1 r.2.1 r.2.2.1 r.2.2.2.1 r.2.2.2.2.1 r.2.2.2.2.2.1 r.2.2.2.2.2.2.1 r.2.2.2.2.2.2.2.1 r.2.2.2.2.2.2.2.2.1 r.2.2.2.2.2.2.2.2.2.1 r.2.2.2.2.2.2.2.2.2.2.1 r.2.2.2.2.2.2.2.2.2.2.2.1 r.2.2.2.2.2.2.2.2.2.2.2.2.1 r.2.2.2.2.2.2.2.2.2.2.2.2.2.1 r.2.2.2.2.2.2.2.2.2.2.2.2.2.2.1 r.2.2.2.2.2.2.2.2.2.2.2.2.2.2.2.1 r.2.2.2.2.2.2.2.2.2.2.2.2.2.2.2.2.1 r.2.2.2.2.2.2.2.2.2.2.2.2.2.2.2.2.2.1 r.2.2.2.2.2.2.2.2.2.2.2.2.2.2.2.2.2.2.1 r.2.2.2.2.2.2.2.2.2.2.2.2.2.2.2.2.2.2.2.1 r.2.2.2.2.2.2.2.2.2.2.2.2.2.2.2.2.2.2.2.2.1 r.2.2.2.2.2.2.2.2.2.2.2.2.2.2.2.2.2.2.2.2.2.1 r.2.2.2.2.2.2.2.2.2.2.2.2.2.2.2.2.2.2.2.2.2.2).toArray
def mosaiclaw18_twin.s (a0_0 : Int) (a0_1 : Int) (a0_2 : Int) (a0_3 : Sl) (a0_4 : Sl) (a0_5 : Ints 16) (a0_6 : Sl) (a0_7 : Ints 16) (a0_8 : Sl) (a0_9 : Ints 16) (a0_10 : Sl) (a0_11 : Ints 16) (a0_12 : Sl) (a0_13 : Ints 16) (a0_14 : Sl) (a0_15 : Ints 16) (a0_16 : Sl) (a0_17 : Ints 16) (a0_18 : Sl) (a0_19 : Ints 16) (a0_20 : Sl) (a0_21 : Int) (a0_22 : Int) (H0 : Hp) (Q : (Int × Int × Int × Sl × Sl × (Ints 16) × Sl × (Ints 16) × Sl × (Ints 16) × Sl × (Ints 16) × Sl × (Ints 16) × Sl × (Ints 16) × Sl × (Ints 16) × Sl × (Ints 16) × Sl × Int × Int) → Hp → Prop) : Prop :=
  Gn [] H0 (fun (b1 : Nat) (H2 : Hp) => Gn [] H2 (fun (b3 : Nat) (H4 : Hp) => Gn [] H4 (fun (b5 : Nat) (H8 : Hp) => ∃ y12 : List Value, y12.length = a0_3.n * 4 ∧ rdS H8 a0_3.a y12 ∧ apS H8 ⟨none, 0, 0⟩ 100 4 4 z100.cells a0_3.n y12 (fun l10 H11 => Pv [b1, b3, b5] H8 H11 ∧ (Gr [b5] H11 (fun (H17 : Hp) => ∃ y21 : List Value, y21.length = a0_4.n * 3 ∧ rdS H17 a0_4.a y21 ∧ apS H17 ⟨none, 0, 0⟩ 76 3 16 z76.cells a0_4.n y21 (fun l19 H20 => Pv [b1, b3, b5] H17 H20 ∧ (Gr [b5] H20 (fun (H25 : Hp) => Bk H25 b5 32 (c32 a0_0 a0_1 a0_2 l10 l19 a0_5 a0_6 a0_7 a0_8 a0_9 a0_10 a0_11 a0_12 a0_13 a0_14 a0_15 a0_16 a0_17 a0_18 a0_19 a0_20 a0_21 a0_22) → (Bk H25 b1 32 (c32 a0_0 a0_1 a0_2 a0_3 a0_4 a0_5 a0_6 a0_7 a0_8 a0_9 a0_10 a0_11 a0_12 a0_13 a0_14 a0_15 a0_16 a0_17 a0_18 a0_19 a0_20 a0_21 a0_22) → (∃ k26, Fix (fun (rec31 : Int → Hp → Prop) (s28 : Int) (H29 : Hp) => if decide (s28 < 4) = true then (0 ≤ s28 ∧ s28 < (4 : Int) ∧ (ldL H29 (((⟨b1, 5, none⟩ : Addr).add (Int.toNat s28 * 17)).add 16) (fun x34 => ∃ y39 : List Value, y39.length = x34.n * 1 ∧ rdS H29 x34.a y39 ∧ apS H29 ⟨none, 0, 0⟩ 5 1 1 z5.cells x34.n y39 (fun l37 H38 => Pv [b3] H29 H38 ∧ (0 ≤ s28 ∧ s28 < (4 : Int) ∧ (st H38 (((⟨b5, 5, none⟩ : Addr).add (Int.toNat s28 * 17)).add 16) (.slice l37.a l37.n l37.c) (fun H45 => Pv [b3] H38 H45 ∧ (0 ≤ s28 ∧ s28 < (4 : Int) ∧ (ldL H45 (((⟨b1, 73, none⟩ : Addr).add (Int.toNat s28 * 17)).add 16) (fun x49 => ∃ y54 : List Value, y54.length = x49.n * 1 ∧ rdS H45 x49.a y54 ∧ apS H45 ⟨none, 0, 0⟩ 5 1 1 z5.cells x49.n y54 (fun l52 H53 => Pv [b3] H45 H53 ∧ (0 ≤ s28 ∧ s28 < (4 : Int) ∧ (st H53 (((⟨b5, 73, none⟩ : Addr).add (Int.toNat s28 * 17)).add 16) (.slice l52.a l52.n l52.c) (fun H60 => Pv [b3] H53 H60 ∧ (rec31 ((IntKind.wrap .i64 (s28 + 1))) H60))))))))))))))) else (∃ x62 : Int, ∃ x63 : Int, ∃ x64 : Int, ∃ x65 : Sl, ∃ x66 : Sl, ∃ x67 : Ints 16, ∃ x68 : Sl, ∃ x69 : Ints 16, ∃ x70 : Sl, ∃ x71 : Ints 16, ∃ x72 : Sl, ∃ x73 : Ints 16, ∃ x74 : Sl, ∃ x75 : Ints 16, ∃ x76 : Sl, ∃ x77 : Ints 16, ∃ x78 : Sl, ∃ x79 : Ints 16, ∃ x80 : Sl, ∃ x81 : Ints 16, ∃ x82 : Sl, ∃ x83 : Int, ∃ x84 : Int, ldA H29 (⟨b5, 0, none⟩ : Addr) (c32 x62 x63 x64 x65 x66 x67 x68 x69 x70 x71 x72 x73 x74 x75 x76 x77 x78 x79 x80 x81 x82 x83 x84) ∧ (Gr [b3] H29 (fun (H86 : Hp) => Q (x62, x63, x64, x65, x66, x67, x68, x69, x70, x71, x72, x73, x74, x75, x76, x77, x78, x79, x80, x81, x82, x83, x84) H86)))) k26 (0) H25)))))))))))
set_option maxRecDepth 20000 in
set_option maxHeartbeats 4000000 in
theorem mosaiclaw18_twin.calls (a0_0 : Int) (a0_1 : Int) (a0_2 : Int) (a0_3 : Sl) (a0_4 : Sl) (a0_5 : Ints 16) (a0_6 : Sl) (a0_7 : Ints 16) (a0_8 : Sl) (a0_9 : Ints 16) (a0_10 : Sl) (a0_11 : Ints 16) (a0_12 : Sl) (a0_13 : Ints 16) (a0_14 : Sl) (a0_15 : Ints 16) (a0_16 : Sl) (a0_17 : Ints 16) (a0_18 : Sl) (a0_19 : Ints 16) (a0_20 : Sl) (a0_21 : Int) (a0_22 : Int) (w0 : World) (Q : (Int × Int × Int × Sl × Sl × (Ints 16) × Sl × (Ints 16) × Sl × (Ints 16) × Sl × (Ints 16) × Sl × (Ints 16) × Sl × (Ints 16) × Sl × (Ints 16) × Sl × (Ints 16) × Sl × Int × Int) → Hp → Prop) (h : mosaiclaw18_twin.s a0_0 a0_1 a0_2 a0_3 a0_4 a0_5 a0_6 a0_7 a0_8 a0_9 a0_10 a0_11 a0_12 a0_13 a0_14 a0_15 a0_16 a0_17 a0_18 a0_19 a0_20 a0_21 a0_22 w0.heap Q) :
    Ca Try.prog 7 #[.agg (c32 a0_0 a0_1 a0_2 a0_3 a0_4 a0_5 a0_6 a0_7 a0_8 a0_9 a0_10 a0_11 a0_12 a0_13 a0_14 a0_15 a0_16 a0_17 a0_18 a0_19 a0_20 a0_21 a0_22).toArray] w0 (Rt mosaiclaw18_twin.enc Q w0) := by
  refine ca_start (c := _) Try.func7 rfl Try.ntmps7 rfl ?_
  have so : Sm w0 w0 := Sm.refl w0
  unfold mosaiclaw18_twin.s at h
  refine wc_prune [(0, .agg (c32 a0_0 a0_1 a0_2 a0_3 a0_4 a0_5 a0_6 a0_7 a0_8 a0_9 a0_10 a0_11 a0_12 a0_13 a0_14 a0_15 a0_16 a0_17 a0_18 a0_19 a0_20 a0_21 a0_22).toArray)] ⟨rfl, trivial⟩ (fun f1 => ?_)
  refine wc_seq ?_
  refine wc_region ?_
  refine wl_newT (T := 32) (cs := (c32 a0_0 a0_1 a0_2 a0_3 a0_4 a0_5 a0_6 a0_7 a0_8 a0_9 a0_10 a0_11 a0_12 a0_13 a0_14 a0_15 a0_16 a0_17 a0_18 a0_19 a0_20 a0_21 a0_22)) (ef_box rfl rfl) rfl so ?_; intro b1 w2 hb_b1 t_b1 k_b1 so
  have g_b1 := Nat.le_of_eq hb_b1.symm
  have hc := k_b1.ch (F := [])
  replace h := h b1 _ hc g_b1 t_b1.lt; clear hc
  refine wl_newT (T := 32) (cs := (c32 0 0 0 ⟨none, 0, 0⟩ ⟨none, 0, 0⟩ (zInts 16) ⟨none, 0, 0⟩ (zInts 16) ⟨none, 0, 0⟩ (zInts 16) ⟨none, 0, 0⟩ (zInts 16) ⟨none, 0, 0⟩ (zInts 16) ⟨none, 0, 0⟩ (zInts 16) ⟨none, 0, 0⟩ (zInts 16) ⟨none, 0, 0⟩ (zInts 16) ⟨none, 0, 0⟩ 0 0)) (ef_alloc zero32 rfl) rfl so ?_; intro b3 w4 hb_b3 t_b3 k_b3 so
  have g_b3 := Nat.le_of_eq hb_b3.symm
  have hc := k_b3.ch (F := [])
  have n_b1_b3 : b1 ≠ b3 := fun e => by have := t_b1.lt; omega
  replace t_b1 := t_b1.keep k_b3
  refine wl_nil ?_
  refine wk_prune [(1, .pointer (some (⟨b1, 0, none⟩ : Addr))), (2, .pointer (some (⟨b3, 0, none⟩ : Addr)))] ⟨rfl, rfl, trivial⟩ (fun f1 => ?_)
  refine wk_then ?_
  refine wc_seq ?_
  refine wc_region ?_
  refine wl_val (at_loadA (cs := (c32 a0_0 a0_1 a0_2 a0_3 a0_4 a0_5 a0_6 a0_7 a0_8 a0_9 a0_10 a0_11 a0_12 a0_13 a0_14 a0_15 a0_16 a0_17 a0_18 a0_19 a0_20 a0_21 a0_22)) Try.underlying32 rfl (by rw [len32]; exact sz32) rfl (ldA_full t_b1)) rfl ?_
  replace h := h b3 _ hc g_b3 t_b3.lt; clear hc
  refine wl_newT (T := 32) (cs := (c32 0 0 0 ⟨none, 0, 0⟩ ⟨none, 0, 0⟩ (zInts 16) ⟨none, 0, 0⟩ (zInts 16) ⟨none, 0, 0⟩ (zInts 16) ⟨none, 0, 0⟩ (zInts 16) ⟨none, 0, 0⟩ (zInts 16) ⟨none, 0, 0⟩ (zInts 16) ⟨none, 0, 0⟩ (zInts 16) ⟨none, 0, 0⟩ (zInts 16) ⟨none, 0, 0⟩ 0 0)) (ef_alloc zero32 rfl) rfl so ?_; intro b5 w6 hb_b5 t_b5 k_b5 so
  have g_b5 := Nat.le_of_eq hb_b5.symm
  have hc := k_b5.ch (F := [])
  have n_b1_b5 : b1 ≠ b5 := fun e => by have := t_b1.lt; omega
  replace t_b1 := t_b1.keep k_b5
  have n_b3_b5 : b3 ≠ b5 := fun e => by have := t_b3.lt; omega
  replace t_b3 := t_b3.keep k_b5
  refine wl_stWT (vs := (c32 a0_0 a0_1 a0_2 a0_3 a0_4 a0_5 a0_6 a0_7 a0_8 a0_9 a0_10 a0_11 a0_12 a0_13 a0_14 a0_15 a0_16 a0_17 a0_18 a0_19 a0_20 a0_21 a0_22)) t_b5 (by first | (rw [len32, len32]) | (rw [len32]) | rfl) rfl so (fun q => ef_storeA (p := (⟨b5, 0, none⟩ : Addr)) (cs := (c32 a0_0 a0_1 a0_2 a0_3 a0_4 a0_5 a0_6 a0_7 a0_8 a0_9 a0_10 a0_11 a0_12 a0_13 a0_14 a0_15 a0_16 a0_17 a0_18 a0_19 a0_20 a0_21 a0_22)) (by rw [len32]; exact sz32) rfl rfl (one32 _ _ _ _ _ _ _ _ _ _ _ _ _ _ _ _ _ _ _ _ _ _ _) q) ?_; intro w7 t_b5 s_w7 so
  replace t_b1 := t_b1.same s_w7 (n_b1_b5)
  replace t_b3 := t_b3.same s_w7 (n_b3_b5)
  replace hc := ch_same hc s_w7 (.inr g_b5)
  refine wl_nil ?_
  refine wk_prune [(1, .pointer (some (⟨b1, 0, none⟩ : Addr))), (2, .pointer (some (⟨b3, 0, none⟩ : Addr))), (3, .pointer (some (⟨b5, 0, none⟩ : Addr)))] ⟨rfl, rfl, rfl, trivial⟩ (fun f1 => ?_)
  refine wk_then ?_
  refine wc_seq ?_
  refine wc_region ?_
  refine wl_val (at_fieldAddr Try.underlying32 rfl rfl sz24 (by decide) rfl) rfl ?_
  refine wl_val (at_fieldAddr Try.underlying24 rfl rfl sz22 (by decide) rfl) rfl ?_
  refine wl_stT (v := .slice none 0 0) (cs' := (c32 a0_0 a0_1 a0_2 ⟨none, 0, 0⟩ a0_4 a0_5 a0_6 a0_7 a0_8 a0_9 a0_10 a0_11 a0_12 a0_13 a0_14 a0_15 a0_16 a0_17 a0_18 a0_19 a0_20 a0_21 a0_22)) t_b5 (by first | decide | (rw [len32]; decide) | (rw [len32]; show 3 < _; decide) | simp [ints_len, bools_len]) (by first | rfl | simp [List.set_append, ints_len, bools_len]) rfl so (fun q1 q2 => ef_store (sz := sz22) rfl rfl rfl q1 q2) ?_; intro w8 t_b5 s_w8 so
  replace t_b1 := t_b1.same s_w8 (n_b1_b5)
  replace t_b3 := t_b3.same s_w8 (n_b3_b5)
  replace hc := ch_same hc s_w8 (.inr g_b5)
  refine wl_nil ?_
  refine wk_prune [(1, .pointer (some (⟨b1, 0, none⟩ : Addr))), (2, .pointer (some (⟨b3, 0, none⟩ : Addr))), (3, .pointer (some (⟨b5, 0, none⟩ : Addr)))] ⟨rfl, rfl, rfl, trivial⟩ (fun f1 => ?_)
  refine wk_then ?_
  refine wc_seq ?_
  refine wc_region ?_
  refine wl_val (at_fieldAddr Try.underlying32 rfl rfl sz24 (by decide) rfl) rfl ?_
  refine wl_val (at_fieldAddr Try.underlying24 rfl rfl sz22 (by decide) rfl) rfl ?_
  refine wl_val (at_load (v := .slice none 0 0) Try.underlying22 rfl rfl ((t_b5.cell 3).trans (by first | rfl | simp [List.getElem?_append, ints_len, bools_len]))) rfl ?_
  refine wl_val (at_fieldAddr Try.underlying32 rfl rfl sz24 (by decide) rfl) rfl ?_
  refine wl_val (at_fieldAddr Try.underlying24 rfl rfl sz22 (by decide) rfl) rfl ?_
  refine wl_val (at_load (v := .slice a0_3.a a0_3.n a0_3.c) Try.underlying22 rfl rfl ((t_b1.cell 3).trans (by first | rfl | simp [List.getElem?_append, ints_len, bools_len]))) rfl ?_
  obtain ⟨i9, i9a, i9b, i9c, i9d⟩ := info100
  replace h := h b5 _ hc g_b5 t_b5.lt; clear hc
  obtain ⟨y12, q13, q14, h⟩ := h
  refine wl_ap (fx_append (s := ⟨none, 0, 0⟩) (t := a0_3) (m := a0_3.n) (xs := y12) Try.underlying22 Try.underlying22 i9a i9b i9c i9d rfl rfl rfl q13 q14 h) rfl so ?_; intro l10 w11 h so
  obtain ⟨q15, h⟩ := h
  replace t_b1 := pv_bk q15 t_b1 (by simp)
  replace t_b3 := pv_bk q15 t_b3 (by simp)
  replace t_b5 := pv_bk q15 t_b5 (by simp)
  refine wl_val (at_fieldAddr Try.underlying32 rfl rfl sz24 (by decide) rfl) rfl ?_
  refine wl_val (at_fieldAddr Try.underlying24 rfl rfl sz22 (by decide) rfl) rfl ?_
  refine wl_stT (v := .slice l10.a l10.n l10.c) (cs' := (c32 a0_0 a0_1 a0_2 l10 a0_4 a0_5 a0_6 a0_7 a0_8 a0_9 a0_10 a0_11 a0_12 a0_13 a0_14 a0_15 a0_16 a0_17 a0_18 a0_19 a0_20 a0_21 a0_22)) t_b5 (by first | decide | (rw [len32]; decide) | (rw [len32]; show 3 < _; decide) | simp [ints_len, bools_len]) (by first | rfl | simp [List.set_append, ints_len, bools_len]) rfl so (fun q1 q2 => ef_store (sz := sz22) rfl rfl rfl q1 q2) ?_; intro w16 t_b5 s_w16 so
  replace t_b1 := t_b1.same s_w16 (n_b1_b5)
  replace t_b3 := t_b3.same s_w16 (n_b3_b5)
  have hc := s_w16.ch
  refine wl_nil ?_
  refine wk_prune [(1, .pointer (some (⟨b1, 0, none⟩ : Addr))), (2, .pointer (some (⟨b3, 0, none⟩ : Addr))), (3, .pointer (some (⟨b5, 0, none⟩ : Addr)))] ⟨rfl, rfl, rfl, trivial⟩ (fun f1 => ?_)
  refine wk_then ?_
  refine wc_seq ?_
  refine wc_region ?_
  refine wl_val (at_fieldAddr Try.underlying32 rfl rfl sz25 (by decide) rfl) rfl ?_
  refine wl_stT (v := .slice none 0 0) (cs' := (c32 a0_0 a0_1 a0_2 l10 ⟨none, 0, 0⟩ a0_5 a0_6 a0_7 a0_8 a0_9 a0_10 a0_11 a0_12 a0_13 a0_14 a0_15 a0_16 a0_17 a0_18 a0_19 a0_20 a0_21 a0_22)) t_b5 (by first | decide | (rw [len32]; decide) | (rw [len32]; show 4 < _; decide) | simp [ints_len, bools_len]) (by first | rfl | simp [List.set_append, ints_len, bools_len]) rfl so (fun q1 q2 => ef_store (sz := sz25) rfl rfl rfl q1 q2) ?_; intro w17 t_b5 s_w17 so
  replace t_b1 := t_b1.same s_w17 (n_b1_b5)
  replace t_b3 := t_b3.same s_w17 (n_b3_b5)
  replace hc := ch_same hc s_w17 (.inl (by simp))
  refine wl_nil ?_
  refine wk_prune [(1, .pointer (some (⟨b1, 0, none⟩ : Addr))), (2, .pointer (some (⟨b3, 0, none⟩ : Addr))), (3, .pointer (some (⟨b5, 0, none⟩ : Addr)))] ⟨rfl, rfl, rfl, trivial⟩ (fun f1 => ?_)
  refine wk_then ?_
  refine wc_seq ?_
  refine wc_region ?_
  refine wl_val (at_fieldAddr Try.underlying32 rfl rfl sz25 (by decide) rfl) rfl ?_
  refine wl_val (at_load (v := .slice none 0 0) Try.underlying25 rfl rfl ((t_b5.cell 4).trans (by first | rfl | simp [List.getElem?_append, ints_len, bools_len]))) rfl ?_
  refine wl_val (at_fieldAddr Try.underlying32 rfl rfl sz25 (by decide) rfl) rfl ?_
  refine wl_val (at_load (v := .slice a0_4.a a0_4.n a0_4.c) Try.underlying25 rfl rfl ((t_b1.cell 4).trans (by first | rfl | simp [List.getElem?_append, ints_len, bools_len]))) rfl ?_
  obtain ⟨i18, i18a, i18b, i18c, i18d⟩ := info76
  replace h := h _ hc; clear hc
  obtain ⟨y21, q22, q23, h⟩ := h
  refine wl_ap (fx_append (s := ⟨none, 0, 0⟩) (t := a0_4) (m := a0_4.n) (xs := y21) Try.underlying25 Try.underlying25 i18a i18b i18c i18d rfl rfl rfl q22 q23 h) rfl so ?_; intro l19 w20 h so
  obtain ⟨q24, h⟩ := h
  replace t_b1 := pv_bk q24 t_b1 (by simp)
  replace t_b3 := pv_bk q24 t_b3 (by simp)
  replace t_b5 := pv_bk q24 t_b5 (by simp)
  refine wl_val (at_fieldAddr Try.underlying32 rfl rfl sz25 (by decide) rfl) rfl ?_
  refine wl_stT (v := .slice l19.a l19.n l19.c) (cs' := (c32 a0_0 a0_1 a0_2 l10 l19 a0_5 a0_6 a0_7 a0_8 a0_9 a0_10 a0_11 a0_12 a0_13 a0_14 a0_15 a0_16 a0_17 a0_18 a0_19 a0_20 a0_21 a0_22)) t_b5 (by first | decide | (rw [len32]; decide) | (rw [len32]; show 4 < _; decide) | simp [ints_len, bools_len]) (by first | rfl | simp [List.set_append, ints_len, bools_len]) rfl so (fun q1 q2 => ef_store (sz := sz25) rfl rfl rfl q1 q2) ?_; intro w25 t_b5 s_w25 so
  replace t_b1 := t_b1.same s_w25 (n_b1_b5)
  replace t_b3 := t_b3.same s_w25 (n_b3_b5)
  have hc := s_w25.ch
  refine wl_nil ?_
  refine wk_prune [(1, .pointer (some (⟨b1, 0, none⟩ : Addr))), (2, .pointer (some (⟨b3, 0, none⟩ : Addr))), (3, .pointer (some (⟨b5, 0, none⟩ : Addr)))] ⟨rfl, rfl, rfl, trivial⟩ (fun f1 => ?_)
  refine wk_then ?_
  refine wc_seq ?_
  refine wc_seq ?_
  refine wc_region ?_
  refine wl_val (at_assign rfl) rfl ?_
  refine wl_nil ?_
  refine wk_prune [(1, .pointer (some (⟨b1, 0, none⟩ : Addr))), (2, .pointer (some (⟨b3, 0, none⟩ : Addr))), (3, .pointer (some (⟨b5, 0, none⟩ : Addr))), (4, .int .i64 0)] ⟨rfl, rfl, rfl, rfl, trivial⟩ (fun f1 => ?_)
  refine wk_then ?_
  refine wc_block ?_
  replace h := h _ hc; clear hc
  replace h := h t_b5
  replace h := h t_b1
  obtain ⟨k26, h⟩ := h
  refine wc_loop (fun k a w => ∃ (s28 : Int) (f1 : Nat → Value), a = ac 53 (en f1 [(1, .pointer (some (⟨b1, 0, none⟩ : Addr))), (2, .pointer (some (⟨b3, 0, none⟩ : Addr))), (3, .pointer (some (⟨b5, 0, none⟩ : Addr))), (4, .int .i64 s28)]) [] ∧ Sm w0 w ∧ (Bk w.heap b3 32 (c32 0 0 0 ⟨none, 0, 0⟩ ⟨none, 0, 0⟩ (zInts 16) ⟨none, 0, 0⟩ (zInts 16) ⟨none, 0, 0⟩ (zInts 16) ⟨none, 0, 0⟩ (zInts 16) ⟨none, 0, 0⟩ (zInts 16) ⟨none, 0, 0⟩ (zInts 16) ⟨none, 0, 0⟩ (zInts 16) ⟨none, 0, 0⟩ (zInts 16) ⟨none, 0, 0⟩ 0 0) ∧ True) ∧ Fix _ k s28 w.heap) k26 ⟨(0), _, ac_again ⟨rfl, rfl, rfl, rfl, trivial⟩, so, ⟨t_b3, trivial⟩, h⟩ ?_
  rintro k27 a30 w29 ⟨s28, f1, rfl, so, ⟨t_b3, _⟩, h⟩
  rcases k27 with _ | k27
  · exact h.elim
  replace h := Fix.un h; refine wc_in ?_
  refine wc_seq ?_
  refine wc_seq ?_
  refine wc_region ?_
  refine wl_val (at_move rfl) rfl ?_
  refine wl_val (at_lss rfl rfl) rfl ?_
  refine wl_nil ?_
  refine wk_prune [(1, .pointer (some (⟨b1, 0, none⟩ : Addr))), (2, .pointer (some (⟨b3, 0, none⟩ : Addr))), (3, .pointer (some (⟨b5, 0, none⟩ : Addr))), (4, .int .i64 s28), (27, .bool (decide (s28 < 4)))] ⟨rfl, rfl, rfl, rfl, rfl, trivial⟩ (fun f1 => ?_)
  refine wk_then ?_
  refine wc_cond rfl h (fun h => ?_) (fun h => ?_)
  · refine wc_skip ?_
    refine wk_prune [(1, .pointer (some (⟨b1, 0, none⟩ : Addr))), (2, .pointer (some (⟨b3, 0, none⟩ : Addr))), (3, .pointer (some (⟨b5, 0, none⟩ : Addr))), (4, .int .i64 s28)] ⟨rfl, rfl, rfl, rfl, trivial⟩ (fun f1 => ?_)
    refine wk_then ?_
    refine wc_seq ?_
    refine wc_block ?_
    refine wc_seq ?_
    refine wc_region ?_
    refine wl_val (at_assign rfl) rfl ?_
    refine wl_nil ?_
    refine wk_prune [(1, .pointer (some (⟨b1, 0, none⟩ : Addr))), (2, .pointer (some (⟨b3, 0, none⟩ : Addr))), (3, .pointer (some (⟨b5, 0, none⟩ : Addr))), (4, .int .i64 s28), (5, .slice none 0 0)] ⟨rfl, rfl, rfl, rfl, rfl, trivial⟩ (fun f1 => ?_)
    refine wk_then ?_
    refine wc_seq ?_
    refine wc_region ?_
    refine wl_val (at_assign rfl) rfl ?_
    refine wl_nil ?_
    refine wk_prune [(1, .pointer (some (⟨b1, 0, none⟩ : Addr))), (2, .pointer (some (⟨b3, 0, none⟩ : Addr))), (3, .pointer (some (⟨b5, 0, none⟩ : Addr))), (4, .int .i64 s28), (5, .slice none 0 0), (6, .slice none 0 0)] ⟨rfl, rfl, rfl, rfl, rfl, rfl, trivial⟩ (fun f1 => ?_)
    refine wk_then ?_
    refine wc_seq ?_
    refine wc_region ?_
    refine wl_val (at_move rfl) rfl ?_
    refine wl_val (at_move rfl) rfl ?_
    refine wl_val (at_move rfl) rfl ?_
    refine wl_val (at_fieldAddr Try.underlying32 rfl rfl sz30 (by decide) rfl) rfl ?_
    obtain ⟨q32, q33, h⟩ := h
    refine wl_val (at_ixAddrA Try.underlying30 sz29 rfl rfl q32 q33) rfl ?_
    refine wl_val (at_fieldAddr Try.underlying29 rfl rfl sz27 (by decide) rfl) rfl ?_
    obtain ⟨x34, q35, h⟩ := h
    refine wl_val (at_load Try.underlying27 rfl rfl q35) rfl ?_
    obtain ⟨i36, i36a, i36b, i36c, i36d⟩ := info5
    obtain ⟨y39, q40, q41, h⟩ := h
    refine wl_ap (fx_append (s := ⟨none, 0, 0⟩) (t := x34) (m := x34.n) (xs := y39) Try.underlying27 Try.underlying27 i36a i36b i36c i36d rfl rfl rfl q40 q41 h) rfl so ?_; intro l37 w38 h so
    obtain ⟨q42, h⟩ := h
    replace t_b3 := pv_bk q42 t_b3 (by simp)
    refine wl_val (at_fieldAddr Try.underlying32 rfl rfl sz30 (by decide) rfl) rfl ?_
    obtain ⟨q43, q44, h⟩ := h
    refine wl_val (at_ixAddrA Try.underlying30 sz29 rfl rfl q43 q44) rfl ?_
    refine wl_val (at_fieldAddr Try.underlying29 rfl rfl sz27 (by decide) rfl) rfl ?_
    refine wl_st (v := .slice l37.a l37.n l37.c) h rfl so (fun q1 q2 => ef_store (sz := sz27) rfl rfl rfl q1 q2) ?_; intro w45 h so
    obtain ⟨q46, h⟩ := h
    replace t_b3 := pv_bk q46 t_b3 (by simp)
    refine wl_nil ?_
    refine wk_prune [(1, .pointer (some (⟨b1, 0, none⟩ : Addr))), (2, .pointer (some (⟨b3, 0, none⟩ : Addr))), (3, .pointer (some (⟨b5, 0, none⟩ : Addr))), (4, .int .i64 s28), (6, .slice none 0 0)] ⟨rfl, rfl, rfl, rfl, rfl, trivial⟩ (fun f1 => ?_)
    refine wk_then ?_
    refine wc_region ?_
    refine wl_val (at_move rfl) rfl ?_
    refine wl_val (at_move rfl) rfl ?_
    refine wl_val (at_move rfl) rfl ?_
    refine wl_val (at_fieldAddr Try.underlying32 rfl rfl sz30 (by decide) rfl) rfl ?_
    obtain ⟨q47, q48, h⟩ := h
    refine wl_val (at_ixAddrA Try.underlying30 sz29 rfl rfl q47 q48) rfl ?_
    refine wl_val (at_fieldAddr Try.underlying29 rfl rfl sz27 (by decide) rfl) rfl ?_
    obtain ⟨x49, q50, h⟩ := h
    refine wl_val (at_load Try.underlying27 rfl rfl q50) rfl ?_
    obtain ⟨i51, i51a, i51b, i51c, i51d⟩ := info5
    obtain ⟨y54, q55, q56, h⟩ := h
    refine wl_ap (fx_append (s := ⟨none, 0, 0⟩) (t := x49) (m := x49.n) (xs := y54) Try.underlying27 Try.underlying27 i51a i51b i51c i51d rfl rfl rfl q55 q56 h) rfl so ?_; intro l52 w53 h so
    obtain ⟨q57, h⟩ := h
    replace t_b3 := pv_bk q57 t_b3 (by simp)
    refine wl_val (at_fieldAddr Try.underlying32 rfl rfl sz30 (by decide) rfl) rfl ?_
    obtain ⟨q58, q59, h⟩ := h
    refine wl_val (at_ixAddrA Try.underlying30 sz29 rfl rfl q58 q59) rfl ?_
    refine wl_val (at_fieldAddr Try.underlying29 rfl rfl sz27 (by decide) rfl) rfl ?_
    refine wl_st (v := .slice l52.a l52.n l52.c) h rfl so (fun q1 q2 => ef_store (sz := sz27) rfl rfl rfl q1 q2) ?_; intro w60 h so
    obtain ⟨q61, h⟩ := h
    replace t_b3 := pv_bk q61 t_b3 (by simp)
    refine wl_nil ?_
    refine wk_blkN ?_
    refine wk_prune [(1, .pointer (some (⟨b1, 0, none⟩ : Addr))), (2, .pointer (some (⟨b3, 0, none⟩ : Addr))), (3, .pointer (some (⟨b5, 0, none⟩ : Addr))), (4, .int .i64 s28)] ⟨rfl, rfl, rfl, rfl, trivial⟩ (fun f1 => ?_)
    refine wk_then ?_
    refine wc_region ?_
    refine wl_val (at_move rfl) rfl ?_
    refine wl_val (at_add rfl rfl) rfl ?_
    refine wl_val (at_assign rfl) rfl ?_
    refine wl_nil ?_
    exact wk_again ⟨((IntKind.wrap .i64 (s28 + 1))), _, ac_again ⟨rfl, rfl, rfl, rfl, trivial⟩, so, ⟨t_b3, trivial⟩, h⟩
  · refine wc_exit ?_
    refine wk_thenE ?_
    refine wk_thenE ?_
    refine wk_blkE ?_
    refine wk_prune [(2, .pointer (some (⟨b3, 0, none⟩ : Addr))), (3, .pointer (some (⟨b5, 0, none⟩ : Addr)))] ⟨rfl, rfl, trivial⟩ (fun f1 => ?_)
    refine wk_then ?_
    refine wc_seq ?_
    refine wc_region ?_
    obtain ⟨x62, x63, x64, x65, x66, x67, x68, x69, x70, x71, x72, x73, x74, x75, x76, x77, x78, x79, x80, x81, x82, x83, x84, q85, h⟩ := h
    refine wl_val (at_loadA (cs := (c32 x62 x63 x64 x65 x66 x67 x68 x69 x70 x71 x72 x73 x74 x75 x76 x77 x78 x79 x80 x81 x82 x83 x84)) Try.underlying32 rfl (by rw [len32]; exact sz32) rfl q85) rfl ?_
    refine wl_stWT (vs := (c32 x62 x63 x64 x65 x66 x67 x68 x69 x70 x71 x72 x73 x74 x75 x76 x77 x78 x79 x80 x81 x82 x83 x84)) t_b3 (by first | (rw [len32, len32]) | (rw [len32]) | rfl) rfl so (fun q => ef_storeA (p := (⟨b3, 0, none⟩ : Addr)) (cs := (c32 x62 x63 x64 x65 x66 x67 x68 x69 x70 x71 x72 x73 x74 x75 x76 x77 x78 x79 x80 x81 x82 x83 x84)) (by rw [len32]; exact sz32) rfl rfl (one32 _ _ _ _ _ _ _ _ _ _ _ _ _ _ _ _ _ _ _ _ _ _ _) q) ?_; intro w86 t_b3 s_w86 so
    have hc := s_w86.ch
    refine wl_nil ?_
    refine wk_prune [(2, .pointer (some (⟨b3, 0, none⟩ : Addr)))] ⟨rfl, trivial⟩ (fun f1 => ?_)
    refine wk_then ?_
    refine wc_ret ?_
    replace h := h _ hc; clear hc
    exact wk_retR1 (x := (x62, x63, x64, x65, x66, x67, x68, x69, x70, x71, x72, x73, x74, x75, x76, x77, x78, x79, x80, x81, x82, x83, x84)) rfl ⟨by decide, _, rfl, loadVar_agg (cs := (c32 x62 x63 x64 x65 x66 x67 x68 x69 x70 x71 x72 x73 x74 x75 x76 x77 x78 x79 x80 x81 x82 x83 x84)) Try.underlying32 rfl (by rw [len32]; exact sz32) (ldA_full t_b3)⟩ rfl so h
def mosaiclaw18_bits.enc : Int × Bool → Value := fun r => .tuple #[.int .i64 r.1, .bool r.2]
def mosaiclaw18_bits.s (a0_0 : Ints 16) (a0_1 : Sl) (a1_0 : Ints 256) (a2 : Bool) (H0 : Hp) (Q : (Int × Bool) → Hp → Prop) : Prop :=
  Gn [] H0 (fun (b1 : Nat) (H2 : Hp) => Gn [] H2 (fun (b3 : Nat) (H4 : Hp) => huff_New.s a0_0 a0_1 H4 (fun x5 H6 => Pv [b3] H4 H6 ∧ (Join (fun (s9 : Bool) (H10 : Hp) => if s9 = true then (Q (0, false) H10) else (∃ k11, Fix (fun (rec16 : (Int × Int) → Hp → Prop) (s13 : Int × Int) (H14 : Hp) => if decide (s13.2 < 256) = true then (Join (fun (s18 : Int) (H19 : Hp) => rec16 (s18, (IntKind.wrap .i64 (s13.2 + 1))) H19) (fun (J17 : Int → Hp → Prop) => 0 ≤ s13.2 ∧ s13.2 < (256 : Int) ∧ (if ((ixI a1_0 s13.2) == 0) = true then (J17 (s13.1) H14) else (huff_Table_Code.s x5.1 (IntKind.wrap .u8 s13.2) H14 (fun x22 H23 => Pv [b3] H14 H23 ∧ (Join (fun (s26 : Int) (H27 : Hp) => if (x22.2 == 0) = true then (Q (0, false) H27) else (0 ≤ s13.2 ∧ s13.2 < (256 : Int) ∧ (Lt ((IntKind.wrap .i64 (s13.1 + (IntKind.wrap .i64 ((ixI a1_0 s13.2) * (IntKind.wrap .i64 (x22.2 + s26)))))) : Int) (fun x30 => J17 (x30) H27)))) (fun (J25 : Int → Hp → Prop) => if a2 = true then (J25 (s13.2) H23) else (J25 ((Int.tmod s13.2 16)) H23)))))))) else (Q (s13.1, true) H14)) k11 (0, 0) H10)) (fun (J8 : Bool → Hp → Prop) => if (x5.2 != 0) = true then (J8 (true) H6) else (J8 (x5.1.isNone) H6))))))
set_option maxRecDepth 20000 in
set_option maxHeartbeats 4000000 in
theorem mosaiclaw18_bits.calls (a0_0 : Ints 16) (a0_1 : Sl) (a1_0 : Ints 256) (a2 : Bool) (w0 : World) (Q : (Int × Bool) → Hp → Prop) (h : mosaiclaw18_bits.s a0_0 a0_1 a1_0 a2 w0.heap Q) :
    Ca Try.prog 9 #[.agg (c29 a0_0 a0_1).toArray, .agg (c39 a1_0).toArray, .bool a2] w0 (Rt mosaiclaw18_bits.enc Q w0) := by
  refine ca_start (c := _) Try.func9 rfl Try.ntmps9 rfl ?_
  have so : Sm w0 w0 := Sm.refl w0
  unfold mosaiclaw18_bits.s at h
  refine wc_prune [(0, .agg (c29 a0_0 a0_1).toArray), (1, .agg (c39 a1_0).toArray), (2, .bool a2)] ⟨rfl, rfl, rfl, trivial⟩ (fun f1 => ?_)
  refine wc_seq ?_
  refine wc_region ?_
  refine wl_newT (T := 29) (cs := (c29 a0_0 a0_1)) (ef_box rfl rfl) rfl so ?_; intro b1 w2 hb_b1 t_b1 k_b1 so
  have g_b1 := Nat.le_of_eq hb_b1.symm
  have hc := k_b1.ch (F := [])
  replace h := h b1 _ hc g_b1 t_b1.lt; clear hc
  refine wl_newT (T := 39) (cs := (c39 a1_0)) (ef_box rfl rfl) rfl so ?_; intro b3 w4 hb_b3 t_b3 k_b3 so
  have g_b3 := Nat.le_of_eq hb_b3.symm
  have hc := k_b3.ch (F := [])
  have n_b1_b3 : b1 ≠ b3 := fun e => by have := t_b1.lt; omega
  replace t_b1 := t_b1.keep k_b3
  refine wl_val (at_assign rfl) rfl ?_
  refine wl_val (at_assign rfl) rfl ?_
  refine wl_nil ?_
  refine wk_prune [(2, .bool a2), (3, .pointer (some (⟨b1, 0, none⟩ : Addr))), (4, .pointer (some (⟨b3, 0, none⟩ : Addr)))] ⟨rfl, rfl, rfl, trivial⟩ (fun f1 => ?_)
  refine wk_then ?_
  refine wc_seq ?_
  refine wc_region ?_
  refine wl_val (at_assign rfl) rfl ?_
  refine wl_nil ?_
  refine wk_prune [(2, .bool a2), (3, .pointer (some (⟨b1, 0, none⟩ : Addr))), (4, .pointer (some (⟨b3, 0, none⟩ : Addr))), (8, .int .i64 0)] ⟨rfl, rfl, rfl, rfl, trivial⟩ (fun f1 => ?_)
  refine wk_then ?_
  refine wc_seq ?_
  refine wc_region ?_
  refine wl_val (at_loadA (cs := (c29 a0_0 a0_1)) Try.underlying29 rfl (by rw [len29]; exact sz29) rfl (ldA_full t_b1)) rfl ?_
  replace h := h b3 _ hc g_b3 t_b3.lt; clear hc
  refine wl_callF (huff_New.calls _ _ _ _ h) enter23 rfl trivial so ?_; intro x5 w6 h so
  obtain ⟨q7, h⟩ := h
  replace t_b3 := pv_bk q7 t_b3 (by simp)
  refine wl_val (at_move rfl) rfl ?_
  refine wl_val (at_extract rfl rfl) rfl ?_
  refine wl_val (at_extract rfl rfl) rfl ?_
  refine wl_val (at_assign rfl) rfl ?_
  refine wl_val (at_assign rfl) rfl ?_
  refine wl_nil ?_
  refine wk_prune [(2, .bool a2), (4, .pointer (some (⟨b3, 0, none⟩ : Addr))), (8, .int .i64 0), (9, .pointer x5.1), (10, .int .i64 x5.2)] ⟨rfl, rfl, rfl, rfl, rfl, trivial⟩ (fun f1 => ?_)
  refine wk_then ?_
  refine wc_seq ?_
  refine wc_seq ?_
  refine wc_joinG (w0 := w0) (fun (H : Hp) => Bk H b3 39 (c39 a1_0) ∧ True) (fun (s9 : Bool) => [(2, .bool a2), (4, .pointer (some (⟨b3, 0, none⟩ : Addr))), (8, .int .i64 0), (9, .pointer x5.1), (25, .bool s9)]) (fun (s9 : Bool) => []) h ?_ ?_
  · rintro s9 w10 f1 h ⟨t_b3, _⟩ so; refine wk_then ?_
    refine wc_cond rfl h (fun h => ?_) (fun h => ?_)
    · refine wc_seq ?_
      refine wc_region ?_
      refine wl_val (at_assign rfl) rfl ?_
      refine wl_val (at_assign rfl) rfl ?_
      refine wl_nil ?_
      refine wk_prune [(6, .int .i64 0), (7, .bool false)] ⟨rfl, rfl, trivial⟩ (fun f1 => ?_)
      refine wk_then ?_
      refine wc_ret ?_
      refine wk_thenR ?_
      exact wk_ret2 (x := (0, false)) rfl (by decide) (by decide) rfl so h
    · refine wc_skip ?_
      refine wk_prune [(2, .bool a2), (4, .pointer (some (⟨b3, 0, none⟩ : Addr))), (8, .int .i64 0), (9, .pointer x5.1)] ⟨rfl, rfl, rfl, rfl, trivial⟩ (fun f1 => ?_)
      refine wk_then ?_
      refine wc_seq ?_
      refine wc_seq ?_
      refine wc_region ?_
      refine wl_val (at_assign rfl) rfl ?_
      refine wl_nil ?_
      refine wk_prune [(2, .bool a2), (4, .pointer (some (⟨b3, 0, none⟩ : Addr))), (8, .int .i64 0), (9, .pointer x5.1), (11, .int .i64 0)] ⟨rfl, rfl, rfl, rfl, rfl, trivial⟩ (fun f1 => ?_)
      refine wk_then ?_
      refine wc_block ?_
      obtain ⟨k11, h⟩ := h
      refine wc_loop (fun k a w => ∃ (s13 : Int × Int) (f1 : Nat → Value), a = ac 57 (en f1 [(2, .bool a2), (4, .pointer (some (⟨b3, 0, none⟩ : Addr))), (8, .int .i64 s13.1), (9, .pointer x5.1), (11, .int .i64 s13.2)]) [] ∧ Sm w0 w ∧ (Bk w.heap b3 39 (c39 a1_0) ∧ True) ∧ Fix _ k s13 w.heap) k11 ⟨(0, 0), _, ac_again ⟨rfl, rfl, rfl, rfl, rfl, trivial⟩, so, ⟨t_b3, trivial⟩, h⟩ ?_
      rintro k12 a15 w14 ⟨s13, f1, rfl, so, ⟨t_b3, _⟩, h⟩
      rcases k12 with _ | k12
      · exact h.elim
      replace h := Fix.un h; refine wc_in ?_
      refine wc_seq ?_
      refine wc_seq ?_
      refine wc_region ?_
      refine wl_val (at_move rfl) rfl ?_
      refine wl_val (at_lss rfl rfl) rfl ?_
      refine wl_nil ?_
      refine wk_prune [(2, .bool a2), (4, .pointer (some (⟨b3, 0, none⟩ : Addr))), (8, .int .i64 s13.1), (9, .pointer x5.1), (11, .int .i64 s13.2), (27, .bool (decide (s13.2 < 256)))] ⟨rfl, rfl, rfl, rfl, rfl, rfl, trivial⟩ (fun f1 => ?_)
      refine wk_then ?_
      refine wc_cond rfl h (fun h => ?_) (fun h => ?_)
      · refine wc_skip ?_
        refine wk_prune [(2, .bool a2), (4, .pointer (some (⟨b3, 0, none⟩ : Addr))), (8, .int .i64 s13.1), (9, .pointer x5.1), (11, .int .i64 s13.2)] ⟨rfl, rfl, rfl, rfl, rfl, trivial⟩ (fun f1 => ?_)
        refine wk_then ?_
        refine wc_seq ?_
        refine wc_joinG (w0 := w0) (fun (H : Hp) => Bk H b3 39 (c39 a1_0) ∧ True) (fun (s18 : Int) => [(2, .bool a2), (4, .pointer (some (⟨b3, 0, none⟩ : Addr))), (8, .int .i64 s18), (9, .pointer x5.1), (11, .int .i64 s13.2)]) (fun (s18 : Int) => []) h ?_ ?_
        · rintro s18 w19 f1 h ⟨t_b3, _⟩ so; refine wk_then ?_
          refine wc_region ?_
          refine wl_val (at_move rfl) rfl ?_
          refine wl_val (at_add rfl rfl) rfl ?_
          refine wl_val (at_assign rfl) rfl ?_
          refine wl_nil ?_
          exact wk_again ⟨(s18, (IntKind.wrap .i64 (s13.2 + 1))), _, ac_again ⟨rfl, rfl, rfl, rfl, rfl, trivial⟩, so, ⟨t_b3, trivial⟩, h⟩
        · intro J17 h hJ17
          refine wc_block ?_
          refine wc_seq ?_
          refine wc_seq ?_
          refine wc_region ?_
          refine wl_val (at_move rfl) rfl ?_
          obtain ⟨q20, q21, h⟩ := h
          refine wl_val (at_ixAddrA Try.underlying39 sz3 rfl rfl q20 q21) rfl ?_
          refine wl_val (at_load (v := .int .i64 (ixI a1_0 s13.2)) Try.underlying3 rfl rfl (ixT (pre := []) (l := a1_0) (post := []) (by first | exact t_b3 | (have q := t_b3; simp only [List.append_assoc, List.cons_append, List.nil_append, List.append_nil] at q ⊢; exact q)) (by first | rfl | simp [ints_len, bools_len]) q20 q21)) rfl ?_
          refine wl_val (at_eql rfl rfl) rfl ?_
          refine wl_nil ?_
          refine wk_prune [(2, .bool a2), (4, .pointer (some (⟨b3, 0, none⟩ : Addr))), (8, .int .i64 s13.1), (9, .pointer x5.1), (11, .int .i64 s13.2), (33, .bool ((ixI a1_0 s13.2) == 0))] ⟨rfl, rfl, rfl, rfl, rfl, rfl, trivial⟩ (fun f1 => ?_)
          refine wk_then ?_
          refine wc_cond rfl h (fun h => ?_) (fun h => ?_)
          · refine wc_exit ?_
            refine wk_thenE ?_
            refine wk_blkE ?_
            exact wk_prune [(2, .bool a2), (4, .pointer (some (⟨b3, 0, none⟩ : Addr))), (8, .int .i64 s13.1), (9, .pointer x5.1), (11, .int .i64 s13.2)] ⟨rfl, rfl, rfl, rfl, rfl, trivial⟩ (fun f1 => hJ17 (s13.1) _ f1 h ⟨t_b3, trivial⟩ so)
          · refine wc_skip ?_
            refine wk_prune [(2, .bool a2), (4, .pointer (some (⟨b3, 0, none⟩ : Addr))), (8, .int .i64 s13.1), (9, .pointer x5.1), (11, .int .i64 s13.2)] ⟨rfl, rfl, rfl, rfl, rfl, trivial⟩ (fun f1 => ?_)
            refine wk_then ?_
            refine wc_seq ?_
            refine wc_region ?_
            refine wl_val (at_move rfl) rfl ?_
            refine wl_val (at_move rfl) rfl ?_
            refine wl_val (at_conv Try.underlying3 Try.underlying5 rfl) rfl ?_
            refine wl_callF (huff_Table_Code.calls _ _ _ _ h) enter24 rfl trivial so ?_; intro x22 w23 h so
            obtain ⟨q24, h⟩ := h
            replace t_b3 := pv_bk q24 t_b3 (by simp)
            refine wl_val (at_move rfl) rfl ?_
            refine wl_val (at_extract rfl rfl) rfl ?_
            refine wl_val (at_extract rfl rfl) rfl ?_
            refine wl_val (at_assign rfl) rfl ?_
            refine wl_val (at_assign rfl) rfl ?_
            refine wl_nil ?_
            refine wk_prune [(2, .bool a2), (4, .pointer (some (⟨b3, 0, none⟩ : Addr))), (8, .int .i64 s13.1), (9, .pointer x5.1), (11, .int .i64 s13.2), (13, .int .i64 x22.2)] ⟨rfl, rfl, rfl, rfl, rfl, rfl, trivial⟩ (fun f1 => ?_)
            refine wk_then ?_
            refine wc_seq ?_
            refine wc_region ?_
            refine wl_val (at_move rfl) rfl ?_
            refine wl_val (at_rem rfl rfl (by decide)) rfl ?_
            refine wl_val (at_assign rfl) rfl ?_
            refine wl_nil ?_
            refine wk_prune [(2, .bool a2), (4, .pointer (some (⟨b3, 0, none⟩ : Addr))), (8, .int .i64 s13.1), (9, .pointer x5.1), (11, .int .i64 s13.2), (13, .int .i64 x22.2), (14, .int .i64 (Int.tmod s13.2 16))] ⟨rfl, rfl, rfl, rfl, rfl, rfl, rfl, trivial⟩ (fun f1 => ?_)
            refine wk_then ?_
            refine wc_seq ?_
            refine wc_joinG (w0 := w0) (fun (H : Hp) => Bk H b3 39 (c39 a1_0) ∧ True) (fun (s26 : Int) => [(2, .bool a2), (4, .pointer (some (⟨b3, 0, none⟩ : Addr))), (8, .int .i64 s13.1), (9, .pointer x5.1), (11, .int .i64 s13.2), (13, .int .i64 x22.2), (14, .int .i64 s26)]) (fun (s26 : Int) => []) h ?_ ?_
            · rintro s26 w27 f1 h ⟨t_b3, _⟩ so; refine wk_then ?_
              refine wc_seq ?_
              refine wc_seq ?_
              refine wc_region ?_
              refine wl_val (at_move rfl) rfl ?_
              refine wl_val (at_eql rfl rfl) rfl ?_
              refine wl_nil ?_
              refine wk_prune [(2, .bool a2), (4, .pointer (some (⟨b3, 0, none⟩ : Addr))), (8, .int .i64 s13.1), (9, .pointer x5.1), (11, .int .i64 s13.2), (13, .int .i64 x22.2), (14, .int .i64 s26), (46, .bool (x22.2 == 0))] ⟨rfl, rfl, rfl, rfl, rfl, rfl, rfl, rfl, trivial⟩ (fun f1 => ?_)
              refine wk_then ?_
              refine wc_cond rfl h (fun h => ?_) (fun h => ?_)
              · refine wc_seq ?_
                refine wc_region ?_
                refine wl_val (at_assign rfl) rfl ?_
                refine wl_val (at_assign rfl) rfl ?_
                refine wl_nil ?_
                refine wk_prune [(6, .int .i64 0), (7, .bool false)] ⟨rfl, rfl, trivial⟩ (fun f1 => ?_)
                refine wk_then ?_
                refine wc_ret ?_
                refine wk_thenR ?_
                refine wk_blkR ?_
                refine wk_thenR ?_
                refine wk_thenR ?_
                refine wk_blkR ?_
                refine wk_thenR ?_
                exact wk_ret2 (x := (0, false)) rfl (by decide) (by decide) rfl so h
              · refine wc_skip ?_
                refine wk_prune [(2, .bool a2), (4, .pointer (some (⟨b3, 0, none⟩ : Addr))), (8, .int .i64 s13.1), (9, .pointer x5.1), (11, .int .i64 s13.2), (13, .int .i64 x22.2), (14, .int .i64 s26)] ⟨rfl, rfl, rfl, rfl, rfl, rfl, rfl, trivial⟩ (fun f1 => ?_)
                refine wk_then ?_
                refine wc_region ?_
                refine wl_val (at_move rfl) rfl ?_
                refine wl_val (at_move rfl) rfl ?_
                obtain ⟨q28, q29, h⟩ := h
                refine wl_val (at_ixAddrA Try.underlying39 sz3 rfl rfl q28 q29) rfl ?_
                refine wl_val (at_load (v := .int .i64 (ixI a1_0 s13.2)) Try.underlying3 rfl rfl (ixT (pre := []) (l := a1_0) (post := []) (by first | exact t_b3 | (have q := t_b3; simp only [List.append_assoc, List.cons_append, List.nil_append, List.append_nil] at q ⊢; exact q)) (by first | rfl | simp [ints_len, bools_len]) q28 q29)) rfl ?_
                refine wl_val (at_move rfl) rfl ?_
                refine wl_val (at_move rfl) rfl ?_
                refine wl_val (at_add rfl rfl) rfl ?_
                refine wl_val (at_mul rfl rfl) rfl ?_
                refine wl_val (at_add rfl rfl) rfl ?_
                refine wl_val (at_assign rfl) rfl ?_
                obtain ⟨x30, e31⟩ : ∃ x : Int, x = (IntKind.wrap .i64 (s13.1 + (IntKind.wrap .i64 ((ixI a1_0 s13.2) * (IntKind.wrap .i64 (x22.2 + s26)))))) := ⟨_, rfl⟩; replace h := h x30 e31
                refine wl_set (t := 8) (v := .int .i64 x30) (congrArg (Value.int .i64) e31.symm) ?_
                refine wl_nil ?_
                refine wk_blkN ?_
                exact wk_prune [(2, .bool a2), (4, .pointer (some (⟨b3, 0, none⟩ : Addr))), (8, .int .i64 x30), (9, .pointer x5.1), (11, .int .i64 s13.2)] ⟨rfl, rfl, rfl, rfl, rfl, trivial⟩ (fun f1 => hJ17 (x30) _ f1 h ⟨t_b3, trivial⟩ so)
            · intro J25 h hJ25
              refine wc_seq ?_
              refine wc_region ?_
              refine wl_val (at_move rfl) rfl ?_
              refine wl_nil ?_
              refine wk_prune [(2, .bool a2), (4, .pointer (some (⟨b3, 0, none⟩ : Addr))), (8, .int .i64 s13.1), (9, .pointer x5.1), (11, .int .i64 s13.2), (13, .int .i64 x22.2), (14, .int .i64 (Int.tmod s13.2 16)), (43, .bool a2)] ⟨rfl, rfl, rfl, rfl, rfl, rfl, rfl, rfl, trivial⟩ (fun f1 => ?_)
              refine wk_then ?_
              refine wc_cond rfl h (fun h => ?_) (fun h => ?_)
              · refine wc_region ?_
                refine wl_val (at_move rfl) rfl ?_
                refine wl_val (at_assign rfl) rfl ?_
                refine wl_nil ?_
                exact wk_prune [(2, .bool a2), (4, .pointer (some (⟨b3, 0, none⟩ : Addr))), (8, .int .i64 s13.1), (9, .pointer x5.1), (11, .int .i64 s13.2), (13, .int .i64 x22.2), (14, .int .i64 s13.2)] ⟨rfl, rfl, rfl, rfl, rfl, rfl, rfl, trivial⟩ (fun f1 => hJ25 (s13.2) _ f1 h ⟨t_b3, trivial⟩ so)
              · refine wc_skip ?_
                exact wk_prune [(2, .bool a2), (4, .pointer (some (⟨b3, 0, none⟩ : Addr))), (8, .int .i64 s13.1), (9, .pointer x5.1), (11, .int .i64 s13.2), (13, .int .i64 x22.2), (14, .int .i64 (Int.tmod s13.2 16))] ⟨rfl, rfl, rfl, rfl, rfl, rfl, rfl, trivial⟩ (fun f1 => hJ25 ((Int.tmod s13.2 16)) _ f1 h ⟨t_b3, trivial⟩ so)
      · refine wc_exit ?_
        refine wk_thenE ?_
        refine wk_thenE ?_
        refine wk_blkE ?_
        refine wk_prune [(8, .int .i64 s13.1)] ⟨rfl, trivial⟩ (fun f1 => ?_)
        refine wk_then ?_
        refine wc_seq ?_
        refine wc_region ?_
        refine wl_val (at_move rfl) rfl ?_
        refine wl_val (at_assign rfl) rfl ?_
        refine wl_val (at_assign rfl) rfl ?_
        refine wl_nil ?_
        refine wk_prune [(6, .int .i64 s13.1), (7, .bool true)] ⟨rfl, rfl, trivial⟩ (fun f1 => ?_)
        refine wk_then ?_
        refine wc_ret ?_
        exact wk_ret2 (x := (s13.1, true)) rfl (by decide) (by decide) rfl so h
  · intro J8 h hJ8
    refine wc_region ?_
    refine wl_val (at_move rfl) rfl ?_
    refine wl_val (at_neq rfl rfl) rfl ?_
    refine wl_val (at_move rfl) rfl ?_
    refine bif_ h (fun hb h => ?_) (fun hb h => ?_)
    · refine wl_set (t := 22) (v := .bool true) (congrArg Value.bool hb) ?_; clear hb
      refine wl_off (t := 22) rfl (by decide) rfl ?_
      refine wl_off (t := 22) rfl (by decide) rfl ?_
      refine wl_val (at_pick_t rfl rfl) rfl ?_
      refine wl_nil ?_
      exact wk_prune [(2, .bool a2), (4, .pointer (some (⟨b3, 0, none⟩ : Addr))), (8, .int .i64 0), (9, .pointer x5.1), (25, .bool true)] ⟨rfl, rfl, rfl, rfl, rfl, trivial⟩ (fun f1 => hJ8 (true) _ f1 h ⟨t_b3, trivial⟩ so)
    · refine wl_set (t := 22) (v := .bool false) (congrArg Value.bool hb) ?_; clear hb
      refine wl_on (t := 22) rfl (by decide) rfl ?_
      refine wl_val (at_move rfl) rfl ?_
      refine wl_on (t := 22) rfl (by decide) rfl ?_
      refine wl_val (at_eqlP Try.underlying67 rfl rfl) rfl ?_
      refine wl_val (at_pick_f rfl rfl) rfl ?_
      refine wl_nil ?_
      exact wk_prune [(2, .bool a2), (4, .pointer (some (⟨b3, 0, none⟩ : Addr))), (8, .int .i64 0), (9, .pointer x5.1), (25, .bool x5.1.isNone)] ⟨rfl, rfl, rfl, rfl, rfl, trivial⟩ (fun f1 => hJ8 (x5.1.isNone) _ f1 h ⟨t_b3, trivial⟩ so)
def mosaiclaw18_sameBlocks.enc : Bool → Value := fun r => .bool r
end Go.Proofs.Ytmnoecpnoofdjaa.G
