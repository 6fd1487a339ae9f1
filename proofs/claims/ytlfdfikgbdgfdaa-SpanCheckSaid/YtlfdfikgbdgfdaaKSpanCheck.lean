import Derived.Test.YtlfdfikgbdgfdaaGF
import Derived.Test.YtlfdfikgbdgfdaaKmosaicref17
import Derived.Test.YtlfdfikgbdgfdaaKspan
namespace Go.Proofs.Ytlfdfikgbdgfdaa.G
open Go.RowKit
set_option linter.unusedVariables false
set_option linter.unusedSimpArgs false
/-- mosaic/mosaiclaw17.SpanCheck -/
def mosaiclaw17_SpanCheck.enc : Bool → Value := fun r => .bool r
def mosaiclaw17_SpanCheck.s (a0_0 : Int) (a0_1 : Int) (a0_2 : Int) (a0_3 : Sl) (a0_4 : Sl) (a0_5 : Ints 16) (a0_6 : Sl) (a0_7 : Ints 16) (a0_8 : Sl) (a0_9 : Ints 16) (a0_10 : Sl) (a0_11 : Ints 16) (a0_12 : Sl) (a0_13 : Ints 16) (a0_14 : Sl) (a0_15 : Ints 16) (a0_16 : Sl) (a0_17 : Ints 16) (a0_18 : Sl) (a0_19 : Ints 16) (a0_20 : Sl) (a0_21 : Int) (a0_22 : Int) (H0 : Hp) (Q : Bool → Hp → Prop) : Prop :=
  Gn [] H0 (fun (b1 : Nat) (H2 : Hp) => span_Check.s a0_0 a0_1 a0_2 a0_3 a0_4 a0_5 a0_6 a0_7 a0_8 a0_9 a0_10 a0_11 a0_12 a0_13 a0_14 a0_15 a0_16 a0_17 a0_18 a0_19 a0_20 a0_21 a0_22 H2 (fun x6 H7 => Pv [b1] H2 H7 ∧ (mosaicref17_Check.s a0_0 a0_1 a0_2 a0_3 a0_4 a0_5 a0_6 a0_7 a0_8 a0_9 a0_10 a0_11 a0_12 a0_13 a0_14 a0_15 a0_16 a0_17 a0_18 a0_19 a0_20 a0_21 a0_22 H7 (fun x9 H10 => Pv [b1] H7 H10 ∧ (Q (x6 == x9) H10)))))
set_option maxRecDepth 20000 in
set_option maxHeartbeats 4000000 in
theorem mosaiclaw17_SpanCheck.calls (a0_0 : Int) (a0_1 : Int) (a0_2 : Int) (a0_3 : Sl) (a0_4 : Sl) (a0_5 : Ints 16) (a0_6 : Sl) (a0_7 : Ints 16) (a0_8 : Sl) (a0_9 : Ints 16) (a0_10 : Sl) (a0_11 : Ints 16) (a0_12 : Sl) (a0_13 : Ints 16) (a0_14 : Sl) (a0_15 : Ints 16) (a0_16 : Sl) (a0_17 : Ints 16) (a0_18 : Sl) (a0_19 : Ints 16) (a0_20 : Sl) (a0_21 : Int) (a0_22 : Int) (w0 : World) (Q : Bool → Hp → Prop) (h : mosaiclaw17_SpanCheck.s a0_0 a0_1 a0_2 a0_3 a0_4 a0_5 a0_6 a0_7 a0_8 a0_9 a0_10 a0_11 a0_12 a0_13 a0_14 a0_15 a0_16 a0_17 a0_18 a0_19 a0_20 a0_21 a0_22 w0.heap Q) :
    Ca Try.prog 3 #[.agg (c32 a0_0 a0_1 a0_2 a0_3 a0_4 a0_5 a0_6 a0_7 a0_8 a0_9 a0_10 a0_11 a0_12 a0_13 a0_14 a0_15 a0_16 a0_17 a0_18 a0_19 a0_20 a0_21 a0_22).toArray] w0 (Rt mosaiclaw17_SpanCheck.enc Q w0) := by
  refine ca_start (c := _) Try.func3 rfl Try.ntmps3 rfl ?_
  have so : Sm w0 w0 := Sm.refl w0
  unfold mosaiclaw17_SpanCheck.s at h
  refine wc_prune [(0, .agg (c32 a0_0 a0_1 a0_2 a0_3 a0_4 a0_5 a0_6 a0_7 a0_8 a0_9 a0_10 a0_11 a0_12 a0_13 a0_14 a0_15 a0_16 a0_17 a0_18 a0_19 a0_20 a0_21 a0_22).toArray)] ⟨rfl, trivial⟩ (fun f1 => ?_)
  refine wc_seq ?_
  refine wc_region ?_
  refine wl_newT (T := 32) (cs := (c32 a0_0 a0_1 a0_2 a0_3 a0_4 a0_5 a0_6 a0_7 a0_8 a0_9 a0_10 a0_11 a0_12 a0_13 a0_14 a0_15 a0_16 a0_17 a0_18 a0_19 a0_20 a0_21 a0_22)) (ef_box rfl rfl) rfl so ?_; intro b1 w2 hb_b1 t_b1 k_b1 so
  have g_b1 := Nat.le_of_eq hb_b1.symm
  have hc := k_b1.ch (F := [])
  refine wl_val (at_assign rfl) rfl ?_
  refine wl_nil ?_
  refine wk_prune [(1, .pointer (some (⟨b1, 0, none⟩ : Addr)))] ⟨rfl, trivial⟩ (fun f1 => ?_)
  refine wk_then ?_
  refine wc_seq ?_
  replace h := h b1 _ hc g_b1 t_b1.lt; clear hc
  refine wc_wo [0, 1, 0, 7, 15, 31] mixed (by kernel_rfl) so ?_; intro w3 hw so; rw [← hw] at h t_b1; clear hw
  have q4 : ldA w3.heap (⟨b1, 0, none⟩ : Addr) (c32 a0_0 a0_1 a0_2 a0_3 a0_4 a0_5 a0_6 a0_7 a0_8 a0_9 a0_10 a0_11 a0_12 a0_13 a0_14 a0_15 a0_16 a0_17 a0_18 a0_19 a0_20 a0_21 a0_22) := ldA_full t_b1
  refine wo_load (m' := 1) 0 (fun H => ldA H (⟨b1, 0, none⟩ : Addr) (c32 a0_0 a0_1 a0_2 a0_3 a0_4 a0_5 a0_6 a0_7 a0_8 a0_9 a0_10 a0_11 a0_12 a0_13 a0_14 a0_15 a0_16 a0_17 a0_18 a0_19 a0_20 a0_21 a0_22)) rfl (by kernel_rfl) rfl rfl (fun H q4 => at_loadA (cs := (c32 a0_0 a0_1 a0_2 a0_3 a0_4 a0_5 a0_6 a0_7 a0_8 a0_9 a0_10 a0_11 a0_12 a0_13 a0_14 a0_15 a0_16 a0_17 a0_18 a0_19 a0_20 a0_21 a0_22)) Try.underlying32 rfl (by rw [len32]; exact sz32) rfl (q4)) q4 ?_
  have q5 : ldA w3.heap (⟨b1, 0, none⟩ : Addr) (c32 a0_0 a0_1 a0_2 a0_3 a0_4 a0_5 a0_6 a0_7 a0_8 a0_9 a0_10 a0_11 a0_12 a0_13 a0_14 a0_15 a0_16 a0_17 a0_18 a0_19 a0_20 a0_21 a0_22) := ldA_full t_b1
  refine wo_load (m' := 5) 2 (fun H => ldA H (⟨b1, 0, none⟩ : Addr) (c32 a0_0 a0_1 a0_2 a0_3 a0_4 a0_5 a0_6 a0_7 a0_8 a0_9 a0_10 a0_11 a0_12 a0_13 a0_14 a0_15 a0_16 a0_17 a0_18 a0_19 a0_20 a0_21 a0_22)) rfl (by kernel_rfl) rfl rfl (fun H q5 => at_loadA (cs := (c32 a0_0 a0_1 a0_2 a0_3 a0_4 a0_5 a0_6 a0_7 a0_8 a0_9 a0_10 a0_11 a0_12 a0_13 a0_14 a0_15 a0_16 a0_17 a0_18 a0_19 a0_20 a0_21 a0_22)) Try.underlying32 rfl (by rw [len32]; exact sz32) rfl (q5)) q5 ?_
  refine wo_take (m' := 7) 1 [false, true] rfl (by kernel_rfl) rfl (by kernel_rfl) ?_
  refine wl_callF (span_Check.calls _ _ _ _ _ _ _ _ _ _ _ _ _ _ _ _ _ _ _ _ _ _ _ _ _ h) enter9 rfl trivial so ?_; intro x6 w7 h so
  obtain ⟨q8, h⟩ := h
  replace t_b1 := pv_bk q8 t_b1 (by simp)
  refine wl_nil ?_
  refine wk_tq ⟨(ldA_full t_b1), trivial⟩ ?_
  refine wo_take (m' := 15) 3 [true] rfl (by kernel_rfl) rfl (by kernel_rfl) ?_
  refine wl_callF (mosaicref17_Check.calls _ _ _ _ _ _ _ _ _ _ _ _ _ _ _ _ _ _ _ _ _ _ _ _ _ h) enter10 rfl trivial so ?_; intro x9 w10 h so
  obtain ⟨q11, h⟩ := h
  replace t_b1 := pv_bk q11 t_b1 (by simp)
  refine wl_nil ?_
  refine wk_tq trivial ?_
  refine wo_pure (m' := 31) 4 rfl (by kernel_rfl) rfl rfl (fun H => at_eql rfl rfl) ?_
  refine wo_pure (m' := 63) 5 rfl (by kernel_rfl) rfl rfl (fun H => at_assign rfl) ?_
  refine wo_done (by kernel_rfl) ?_
  refine wk_prune [(2, .bool (x6 == x9))] ⟨rfl, trivial⟩ (fun f1 => ?_)
  refine wk_then ?_
  refine wc_ret ?_
  exact wk_ret1 (x := (x6 == x9)) rfl (by decide) rfl so h
end Go.Proofs.Ytlfdfikgbdgfdaa.G
