import Derived.Test.YtbefacccdaafeaaGF
import Derived.Test.YtbefacccdaafeaaKhuff
import Derived.Test.YtbefacccdaafeaaKmosaiclaw04
import Derived.Test.YtbefacccdaafeaaKmosaicref04
namespace Go.Proofs.Ytbefacccdaafeaa.G
open Go.RowKit
set_option linter.unusedVariables false
set_option linter.unusedSimpArgs false
/-- mosaic/mosaiclaw04.HuffCheck -/
def mosaiclaw04_HuffCheck.enc : Bool → Value := fun r => .bool r
def mosaiclaw04_HuffCheck.s (a0_0 : Ints 16) (a0_1 : Sl) (H0 : Hp) (Q : Bool → Hp → Prop) : Prop :=
  Gn [] H0 (fun (b1 : Nat) (H2 : Hp) => mosaiclaw04_twin.s a0_0 a0_1 H2 (fun x3 H4 => Pv [b1] H2 H4 ∧ (Gn [] H4 (fun (b6 : Nat) (H8 : Hp) => mosaicref04_Check.s a0_0 a0_1 H8 (fun x9 H10 => Pv [b1, b6] H8 H10 ∧ (huff_Check.s x3.1 x3.2 H10 (fun x14 H15 => Pv [b1, b6] H10 H15 ∧ (if (x14 == x9) = true then (huff_Room.s x3.1 x3.2 H15 (fun x19 H20 => Pv [b1, b6] H15 H20 ∧ (mosaicref04_Room.s a0_0 a0_1 H20 (fun x22 H23 => Pv [b1, b6] H20 H23 ∧ (if (x19 == x22) = true then (huff_Check.s x3.1 x3.2 H23 (fun x26 H27 => Pv [b1, b6] H23 H27 ∧ (if (x26 == x9) = true then (mosaiclaw04_kept.s x3.1 x3.2 a0_0 a0_1 H27 (fun x31 H32 => Pv [b1, b6] H27 H32 ∧ (Q x31 H32))) else (Q false H27)))) else (Q false H23)))))) else (Q false H15)))))))))
set_option maxRecDepth 20000 in
set_option maxHeartbeats 4000000 in
theorem mosaiclaw04_HuffCheck.calls (a0_0 : Ints 16) (a0_1 : Sl) (w0 : World) (Q : Bool → Hp → Prop) (h : mosaiclaw04_HuffCheck.s a0_0 a0_1 w0.heap Q) :
    Ca Try.prog 3 #[.agg (c25 a0_0 a0_1).toArray] w0 (Rt mosaiclaw04_HuffCheck.enc Q w0) := by
  refine ca_start (c := _) Try.func3 rfl Try.ntmps3 rfl ?_
  have so : Sm w0 w0 := Sm.refl w0
  unfold mosaiclaw04_HuffCheck.s at h
  refine wc_prune [(0, .agg (c25 a0_0 a0_1).toArray)] ⟨rfl, trivial⟩ (fun f1 => ?_)
  refine wc_seq ?_
  refine wc_region ?_
  refine wl_newT (T := 25) (cs := (c25 a0_0 a0_1)) (ef_box rfl rfl) rfl so ?_; intro b1 w2 hb_b1 t_b1 k_b1 so
  have g_b1 := Nat.le_of_eq hb_b1.symm
  have hc := k_b1.ch (F := [])
  refine wl_val (at_assign rfl) rfl ?_
  refine wl_nil ?_
  refine wk_prune [(1, .pointer (some (⟨b1, 0, none⟩ : Addr)))] ⟨rfl, trivial⟩ (fun f1 => ?_)
  refine wk_then ?_
  refine wc_seq ?_
  refine wc_region ?_
  refine wl_val (at_loadA (cs := (c25 a0_0 a0_1)) Try.underlying25 rfl (by rw [len25]; exact sz25) rfl (ldA_full t_b1)) rfl ?_
  replace h := h b1 _ hc g_b1 t_b1.lt; clear hc
  refine wl_callF (mosaiclaw04_twin.calls _ _ _ _ h) enter11 rfl trivial so ?_; intro x3 w4 h so
  obtain ⟨q5, h⟩ := h
  replace t_b1 := pv_bk q5 t_b1 (by simp)
  refine wl_newT (T := 25) (cs := (c25 (zInts 16) ⟨none, 0, 0⟩)) (ef_alloc zero25 rfl) rfl so ?_; intro b6 w7 hb_b6 t_b6 k_b6 so
  have g_b6 := Nat.le_of_eq hb_b6.symm
  have hc := k_b6.ch (F := [])
  have n_b1_b6 : b1 ≠ b6 := fun e => by have := t_b1.lt; omega
  replace t_b1 := t_b1.keep k_b6
  refine wl_stWT (vs := (c25 x3.1 x3.2)) t_b6 (by first | (rw [len25, len25]) | (rw [len25]) | rfl) rfl so (fun q => ef_storeA (p := (⟨b6, 0, none⟩ : Addr)) (cs := (c25 x3.1 x3.2)) (by rw [len25]; exact sz25) rfl rfl (one25 _ _) q) ?_; intro w8 t_b6 s_w8 so
  replace t_b1 := t_b1.same s_w8 (n_b1_b6)
  replace hc := ch_same hc s_w8 (.inr g_b6)
  refine wl_nil ?_
  refine wk_prune [(1, .pointer (some (⟨b1, 0, none⟩ : Addr))), (3, .pointer (some (⟨b6, 0, none⟩ : Addr)))] ⟨rfl, rfl, trivial⟩ (fun f1 => ?_)
  refine wk_then ?_
  refine wc_seq ?_
  refine wc_region ?_
  refine wl_val (at_loadA (cs := (c25 a0_0 a0_1)) Try.underlying25 rfl (by rw [len25]; exact sz25) rfl (ldA_full t_b1)) rfl ?_
  replace h := h b6 _ hc g_b6 t_b6.lt; clear hc
  refine wl_callF (mosaicref04_Check.calls _ _ _ _ h) enter12 rfl trivial so ?_; intro x9 w10 h so
  obtain ⟨q11, h⟩ := h
  replace t_b1 := pv_bk q11 t_b1 (by simp)
  replace t_b6 := pv_bk q11 t_b6 (by simp)
  refine wl_val (at_assign rfl) rfl ?_
  refine wl_nil ?_
  refine wk_prune [(1, .pointer (some (⟨b1, 0, none⟩ : Addr))), (3, .pointer (some (⟨b6, 0, none⟩ : Addr))), (4, .int .i64 x9)] ⟨rfl, rfl, rfl, trivial⟩ (fun f1 => ?_)
  refine wk_then ?_
  refine wc_seq ?_
  refine wc_wo [0, 1, 0, 7, 15, 31, 63, 31, 255, 511, 1023, 2047, 4095, 8191, 4095, 32767, 65535, 131071, 262143, 262143, 1048575, 2097151, 4194303] mixed (by kernel_rfl) so ?_; intro w12 hw so; rw [← hw] at h t_b1 t_b6; clear hw
  refine wo_pure (m' := 4) 2 rfl (by kernel_rfl) rfl rfl (fun H => at_move rfl) ?_
  have q13 : ldA w12.heap (⟨b6, 0, none⟩ : Addr) (c25 x3.1 x3.2) := ldA_full t_b6
  refine wo_load (m' := 5) 0 (fun H => ldA H (⟨b6, 0, none⟩ : Addr) (c25 x3.1 x3.2)) rfl (by kernel_rfl) rfl rfl (fun H q13 => at_loadA (cs := (c25 x3.1 x3.2)) Try.underlying25 rfl (by rw [len25]; exact sz25) rfl (q13)) q13 ?_
  refine wo_take (m' := 7) 1 [true] rfl (by kernel_rfl) rfl (by kernel_rfl) ?_
  refine wl_callF (huff_Check.calls _ _ _ _ h) enter13 rfl trivial so ?_; intro x14 w15 h so
  obtain ⟨q16, h⟩ := h
  replace t_b1 := pv_bk q16 t_b1 (by simp)
  replace t_b6 := pv_bk q16 t_b6 (by simp)
  refine wl_nil ?_
  refine wk_tq trivial ?_
  refine wo_pure (m' := 15) 3 rfl (by kernel_rfl) rfl rfl (fun H => at_eql rfl rfl) ?_
  refine wo_pure (m' := 31) 4 rfl (by kernel_rfl) rfl rfl (fun H => at_move rfl) ?_
  refine bif_ h (fun hb h => ?_) (fun hb h => ?_)
  · refine wo_set (t := 13) (v := .bool true) (congrArg Value.bool hb) ?_; clear hb
    have q17 : ldA w15.heap (⟨b6, 0, none⟩ : Addr) (c25 x3.1 x3.2) := ldA_full t_b6
    refine wo_loadG (m' := 63) 5 (fun H => ldA H (⟨b6, 0, none⟩ : Addr) (c25 x3.1 x3.2)) rfl (by kernel_rfl) rfl (t := 13) rfl (by decide) rfl (fun H q17 => at_loadA (cs := (c25 x3.1 x3.2)) Try.underlying25 rfl (by rw [len25]; exact sz25) rfl (q17)) q17 ?_
    have q18 : ldA w15.heap (⟨b1, 0, none⟩ : Addr) (c25 a0_0 a0_1) := ldA_full t_b1
    refine wo_loadG (m' := 191) 7 (fun H => ldA H (⟨b1, 0, none⟩ : Addr) (c25 a0_0 a0_1)) rfl (by kernel_rfl) rfl (t := 13) rfl (by decide) rfl (fun H q18 => at_loadA (cs := (c25 a0_0 a0_1)) Try.underlying25 rfl (by rw [len25]; exact sz25) rfl (q18)) q18 ?_
    refine wo_take (m' := 255) 6 [false, true] rfl (by kernel_rfl) rfl (by kernel_rfl) ?_
    refine wl_on (t := 13) rfl (by decide) rfl ?_
    refine wl_callF (huff_Room.calls _ _ _ _ h) enter14 rfl trivial so ?_; intro x19 w20 h so
    obtain ⟨q21, h⟩ := h
    replace t_b1 := pv_bk q21 t_b1 (by simp)
    replace t_b6 := pv_bk q21 t_b6 (by simp)
    refine wl_nil ?_
    refine wk_tq ⟨(ldA_full t_b1), trivial⟩ ?_
    refine wo_take (m' := 511) 8 [true] rfl (by kernel_rfl) rfl (by kernel_rfl) ?_
    refine wl_on (t := 13) rfl (by decide) rfl ?_
    refine wl_callF (mosaicref04_Room.calls _ _ _ _ h) enter15 rfl trivial so ?_; intro x22 w23 h so
    obtain ⟨q24, h⟩ := h
    replace t_b1 := pv_bk q24 t_b1 (by simp)
    replace t_b6 := pv_bk q24 t_b6 (by simp)
    refine wl_nil ?_
    refine wk_tq trivial ?_
    refine wo_pureG (m' := 1023) 9 rfl (by kernel_rfl) rfl (t := 13) rfl (by decide) rfl (fun H => at_eql rfl rfl) ?_
    refine wo_pure (m' := 2047) 10 rfl (by kernel_rfl) rfl rfl (fun H => at_pick_t rfl rfl) ?_
    refine wo_pure (m' := 4095) 11 rfl (by kernel_rfl) rfl rfl (fun H => at_move rfl) ?_
    refine bif_ h (fun hb h => ?_) (fun hb h => ?_)
    · refine wo_set (t := 20) (v := .bool true) (congrArg Value.bool hb) ?_; clear hb
      refine wo_pureG (m' := 20479) 14 rfl (by kernel_rfl) rfl (t := 20) rfl (by decide) rfl (fun H => at_move rfl) ?_
      have q25 : ldA w23.heap (⟨b6, 0, none⟩ : Addr) (c25 x3.1 x3.2) := ldA_full t_b6
      refine wo_loadG (m' := 24575) 12 (fun H => ldA H (⟨b6, 0, none⟩ : Addr) (c25 x3.1 x3.2)) rfl (by kernel_rfl) rfl (t := 20) rfl (by decide) rfl (fun H q25 => at_loadA (cs := (c25 x3.1 x3.2)) Try.underlying25 rfl (by rw [len25]; exact sz25) rfl (q25)) q25 ?_
      refine wo_take (m' := 32767) 13 [true] rfl (by kernel_rfl) rfl (by kernel_rfl) ?_
      refine wl_on (t := 20) rfl (by decide) rfl ?_
      refine wl_callF (huff_Check.calls _ _ _ _ h) enter13 rfl trivial so ?_; intro x26 w27 h so
      obtain ⟨q28, h⟩ := h
      replace t_b1 := pv_bk q28 t_b1 (by simp)
      replace t_b6 := pv_bk q28 t_b6 (by simp)
      refine wl_nil ?_
      refine wk_tq trivial ?_
      refine wo_pureG (m' := 65535) 15 rfl (by kernel_rfl) rfl (t := 20) rfl (by decide) rfl (fun H => at_eql rfl rfl) ?_
      refine wo_pure (m' := 131071) 16 rfl (by kernel_rfl) rfl rfl (fun H => at_pick_t rfl rfl) ?_
      refine wo_pure (m' := 262143) 17 rfl (by kernel_rfl) rfl rfl (fun H => at_move rfl) ?_
      refine bif_ h (fun hb h => ?_) (fun hb h => ?_)
      · refine wo_set (t := 26) (v := .bool true) (congrArg Value.bool hb) ?_; clear hb
        have q29 : ldA w27.heap (⟨b6, 0, none⟩ : Addr) (c25 x3.1 x3.2) := ldA_full t_b6
        refine wo_loadG (m' := 524287) 18 (fun H => ldA H (⟨b6, 0, none⟩ : Addr) (c25 x3.1 x3.2)) rfl (by kernel_rfl) rfl (t := 26) rfl (by decide) rfl (fun H q29 => at_loadA (cs := (c25 x3.1 x3.2)) Try.underlying25 rfl (by rw [len25]; exact sz25) rfl (q29)) q29 ?_
        have q30 : ldA w27.heap (⟨b1, 0, none⟩ : Addr) (c25 a0_0 a0_1) := ldA_full t_b1
        refine wo_loadG (m' := 1048575) 19 (fun H => ldA H (⟨b1, 0, none⟩ : Addr) (c25 a0_0 a0_1)) rfl (by kernel_rfl) rfl (t := 26) rfl (by decide) rfl (fun H q30 => at_loadA (cs := (c25 a0_0 a0_1)) Try.underlying25 rfl (by rw [len25]; exact sz25) rfl (q30)) q30 ?_
        refine wo_take (m' := 2097151) 20 [true, true] rfl (by kernel_rfl) rfl (by kernel_rfl) ?_
        refine wl_on (t := 26) rfl (by decide) rfl ?_
        refine wl_callF (mosaiclaw04_kept.calls _ _ _ _ _ _ h) enter16 rfl trivial so ?_; intro x31 w32 h so
        obtain ⟨q33, h⟩ := h
        replace t_b1 := pv_bk q33 t_b1 (by simp)
        replace t_b6 := pv_bk q33 t_b6 (by simp)
        refine wl_nil ?_
        refine wk_tq trivial ?_
        refine wo_pure (m' := 4194303) 21 rfl (by kernel_rfl) rfl rfl (fun H => at_pick_t rfl rfl) ?_
        refine wo_pure (m' := 8388607) 22 rfl (by kernel_rfl) rfl rfl (fun H => at_assign rfl) ?_
        refine wo_done (by kernel_rfl) ?_
        refine wk_prune [(2, .bool x31)] ⟨rfl, trivial⟩ (fun f1 => ?_)
        refine wk_then ?_
        refine wc_ret ?_
        exact wk_ret1 (x := x31) rfl (by decide) rfl so h
      · refine wo_set (t := 26) (v := .bool false) (congrArg Value.bool hb) ?_; clear hb
        refine wo_off (m' := 524287) 18 rfl (by kernel_rfl) rfl (t := 26) rfl (by decide) rfl ?_
        refine wo_off (m' := 1048575) 19 rfl (by kernel_rfl) rfl (t := 26) rfl (by decide) rfl ?_
        refine wo_off (m' := 2097151) 20 rfl (by kernel_rfl) rfl (t := 26) rfl (by decide) rfl ?_
        refine wo_pure (m' := 4194303) 21 rfl (by kernel_rfl) rfl rfl (fun H => at_pick_f rfl rfl) ?_
        refine wo_pure (m' := 8388607) 22 rfl (by kernel_rfl) rfl rfl (fun H => at_assign rfl) ?_
        refine wo_done (by kernel_rfl) ?_
        refine wk_prune [(2, .bool false)] ⟨rfl, trivial⟩ (fun f1 => ?_)
        refine wk_then ?_
        refine wc_ret ?_
        exact wk_ret1 (x := false) rfl (by decide) rfl so h
    · refine wo_set (t := 20) (v := .bool false) (congrArg Value.bool hb) ?_; clear hb
      refine wo_off (m' := 8191) 12 rfl (by kernel_rfl) rfl (t := 20) rfl (by decide) rfl ?_
      refine wo_off (m' := 16383) 13 rfl (by kernel_rfl) rfl (t := 20) rfl (by decide) rfl ?_
      refine wo_off (m' := 32767) 14 rfl (by kernel_rfl) rfl (t := 20) rfl (by decide) rfl ?_
      refine wo_off (m' := 65535) 15 rfl (by kernel_rfl) rfl (t := 20) rfl (by decide) rfl ?_
      refine wo_pure (m' := 131071) 16 rfl (by kernel_rfl) rfl rfl (fun H => at_pick_f rfl rfl) ?_
      refine wo_pure (m' := 262143) 17 rfl (by kernel_rfl) rfl rfl (fun H => at_move rfl) ?_
      refine wo_off (m' := 524287) 18 rfl (by kernel_rfl) rfl (t := 26) rfl (by decide) rfl ?_
      refine wo_off (m' := 1048575) 19 rfl (by kernel_rfl) rfl (t := 26) rfl (by decide) rfl ?_
      refine wo_off (m' := 2097151) 20 rfl (by kernel_rfl) rfl (t := 26) rfl (by decide) rfl ?_
      refine wo_pure (m' := 4194303) 21 rfl (by kernel_rfl) rfl rfl (fun H => at_pick_f rfl rfl) ?_
      refine wo_pure (m' := 8388607) 22 rfl (by kernel_rfl) rfl rfl (fun H => at_assign rfl) ?_
      refine wo_done (by kernel_rfl) ?_
      refine wk_prune [(2, .bool false)] ⟨rfl, trivial⟩ (fun f1 => ?_)
      refine wk_then ?_
      refine wc_ret ?_
      exact wk_ret1 (x := false) rfl (by decide) rfl so h
  · refine wo_set (t := 13) (v := .bool false) (congrArg Value.bool hb) ?_; clear hb
    refine wo_off (m' := 63) 5 rfl (by kernel_rfl) rfl (t := 13) rfl (by decide) rfl ?_
    refine wo_off (m' := 127) 6 rfl (by kernel_rfl) rfl (t := 13) rfl (by decide) rfl ?_
    refine wo_off (m' := 255) 7 rfl (by kernel_rfl) rfl (t := 13) rfl (by decide) rfl ?_
    refine wo_off (m' := 511) 8 rfl (by kernel_rfl) rfl (t := 13) rfl (by decide) rfl ?_
    refine wo_off (m' := 1023) 9 rfl (by kernel_rfl) rfl (t := 13) rfl (by decide) rfl ?_
    refine wo_pure (m' := 2047) 10 rfl (by kernel_rfl) rfl rfl (fun H => at_pick_f rfl rfl) ?_
    refine wo_pure (m' := 4095) 11 rfl (by kernel_rfl) rfl rfl (fun H => at_move rfl) ?_
    refine wo_off (m' := 8191) 12 rfl (by kernel_rfl) rfl (t := 20) rfl (by decide) rfl ?_
    refine wo_off (m' := 16383) 13 rfl (by kernel_rfl) rfl (t := 20) rfl (by decide) rfl ?_
    refine wo_off (m' := 32767) 14 rfl (by kernel_rfl) rfl (t := 20) rfl (by decide) rfl ?_
    refine wo_off (m' := 65535) 15 rfl (by kernel_rfl) rfl (t := 20) rfl (by decide) rfl ?_
    refine wo_pure (m' := 131071) 16 rfl (by kernel_rfl) rfl rfl (fun H => at_pick_f rfl rfl) ?_
    refine wo_pure (m' := 262143) 17 rfl (by kernel_rfl) rfl rfl (fun H => at_move rfl) ?_
    refine wo_off (m' := 524287) 18 rfl (by kernel_rfl) rfl (t := 26) rfl (by decide) rfl ?_
    refine wo_off (m' := 1048575) 19 rfl (by kernel_rfl) rfl (t := 26) rfl (by decide) rfl ?_
    refine wo_off (m' := 2097151) 20 rfl (by kernel_rfl) rfl (t := 26) rfl (by decide) rfl ?_
    refine wo_pure (m' := 4194303) 21 rfl (by kernel_rfl) rfl rfl (fun H => at_pick_f rfl rfl) ?_
    refine wo_pure (m' := 8388607) 22 rfl (by kernel_rfl) rfl rfl (fun H => at_assign rfl) ?_
    refine wo_done (by kernel_rfl) ?_
    refine wk_prune [(2, .bool false)] ⟨rfl, trivial⟩ (fun f1 => ?_)
    refine wk_then ?_
    refine wc_ret ?_
    exact wk_ret1 (x := false) rfl (by decide) rfl so h
end Go.Proofs.Ytbefacccdaafeaa.G
