/- Of this text what the row needs. -/
import Derived.Test.YtlfdfikgbdgfdaaQSpanCutGF
import Derived.Test.YtlfdfikgbdgfdaaQSpanCutKbits
import Derived.Test.YtlfdfikgbdgfdaaQSpanCutKmosaiclaw17
import Derived.Test.YtlfdfikgbdgfdaaQSpanCutKspan
namespace Go.Proofs.Ytlfdfikgbdgfdaa.G
open Go.RowKit
set_option linter.unusedVariables false
set_option linter.unusedSimpArgs false
def mosaiclaw17_SpanCut.enc : Bool → Value := fun r => .bool r
def mosaiclaw17_SpanCut.s (a0 : ByteArray) (a1_0 : Int) (a1_1 : Int) (a1_2 : Int) (a1_3 : Sl) (a1_4 : Sl) (a1_5 : Ints 16) (a1_6 : Sl) (a1_7 : Ints 16) (a1_8 : Sl) (a1_9 : Ints 16) (a1_10 : Sl) (a1_11 : Ints 16) (a1_12 : Sl) (a1_13 : Ints 16) (a1_14 : Sl) (a1_15 : Ints 16) (a1_16 : Sl) (a1_17 : Ints 16) (a1_18 : Sl) (a1_19 : Ints 16) (a1_20 : Sl) (a1_21 : Int) (a1_22 : Int) (a2 : Int) (H0 : Hp) (Q : Bool → Hp → Prop) : Prop :=
  Gn [] H0 (fun (b1 : Nat) (H2 : Hp) => mosaiclaw17_alive.s H2 (fun x3 H4 => Pv [b1] H2 H4 ∧ (mosaiclaw17_large.s a1_0 a1_1 a1_2 a1_3 a1_4 a1_5 a1_6 a1_7 a1_8 a1_9 a1_10 a1_11 a1_12 a1_13 a1_14 a1_15 a1_16 a1_17 a1_18 a1_19 a1_20 a1_21 a1_22 H4 (fun x6 H7 => Pv [b1] H4 H7 ∧ (if x6 = true then (Q x3 H7) else (span_Decode.s a0 0 (a0.size : Int) a1_0 a1_1 a1_2 a1_3 a1_4 a1_5 a1_6 a1_7 a1_8 a1_9 a1_10 a1_11 a1_12 a1_13 a1_14 a1_15 a1_16 a1_17 a1_18 a1_19 a1_20 a1_21 a1_22 H7 (fun x9 H10 => Pv [b1] H7 H10 ∧ (Gn [] H10 (fun (b12 : Nat) (H14 : Hp) => Join (fun (s16 : Bool) (H17 : Hp) => if s16 = true then (Q x3 H17) else ((a0.size : Int) ≠ 0 ∧ (Join (fun (s20 : Int) (H21 : Hp) => span_Decode.s a0 0 s20 a1_0 a1_1 a1_2 a1_3 a1_4 a1_5 a1_6 a1_7 a1_8 a1_9 a1_10 a1_11 a1_12 a1_13 a1_14 a1_15 a1_16 a1_17 a1_18 a1_19 a1_20 a1_21 a1_22 H21 (fun x22 H23 => Pv [b12] H21 H23 ∧ (Gn [] H23 (fun (b25 : Nat) (H27 : Hp) => bits_Open.s a0 0 s20 H27 (fun x28 H29 => Pv [b12, b25] H27 H29 ∧ (Join (fun (s32 : Bool) (H33 : Hp) => if s32 = true then (Q false H33) else (bits_Source_Left.s x28 H33 (fun x36 H37 => Pv [b12, b25] H33 H37 ∧ (if decide (x36 < x9.2.2.1) = true then (Join (fun (s40 : Bool) (H41 : Hp) => Q s40 H41) (fun (J39 : Bool → Hp → Prop) => if (x22.1 == 2) = true then (if decide (x22.2.1 < x9.2.1) = true then (J39 (((x22.2.2.2.1.n : Int) == 0)) H37) else (J39 (false) H37)) else (if (x22.1 == 4) = true then (if decide (x22.2.1 < x9.2.1) = true then (J39 (((x22.2.2.2.1.n : Int) == 0)) H37) else (J39 (false) H37)) else (J39 (false) H37)))) else (if (x22.2.1 == x9.2.1) = true then (Q (x22.2.2.1 == x9.2.2.1) H37) else (Q false H37)))))) (fun (J31 : Bool → Hp → Prop) => if (x22.2.2.2.2 != 0) = true then (J31 (true) H29) else (if x28.isNone = true then (J31 (true) H29) else (if decide (x9.2.2.1 < x22.2.2.1) = true then (J31 (true) H29) else (if decide (x9.2.1 < x22.2.1) = true then (J31 (true) H29) else (bits_Source_Left.s x28 H29 (fun x48 H49 => Pv [b12, b25] H29 H49 ∧ (J31 ((decide (x48 < x22.2.2.1))) H49))))))))))))) (fun (J19 : Int → Hp → Prop) => if decide ((Int.tmod a2 (a0.size : Int)) < 0) = true then (Lt ((IntKind.wrap .i64 ((Int.tmod a2 (a0.size : Int)) + (a0.size : Int))) : Int) (fun x51 => J19 (x51) H17)) else (J19 ((Int.tmod a2 (a0.size : Int))) H17))))) (fun (J15 : Bool → Hp → Prop) => if (!x3) = true then (J15 (true) H14) else (if (x9.2.2.2.2 != 0) = true then (J15 (true) H14) else (if (x9.1 != 1) = true then (J15 (true) H14) else (J15 (((a0.size : Int) == 0)) H14)))))))))))))
set_option maxRecDepth 20000 in
set_option maxHeartbeats 4000000 in
theorem mosaiclaw17_SpanCut.calls (a0 : ByteArray) (a1_0 : Int) (a1_1 : Int) (a1_2 : Int) (a1_3 : Sl) (a1_4 : Sl) (a1_5 : Ints 16) (a1_6 : Sl) (a1_7 : Ints 16) (a1_8 : Sl) (a1_9 : Ints 16) (a1_10 : Sl) (a1_11 : Ints 16) (a1_12 : Sl) (a1_13 : Ints 16) (a1_14 : Sl) (a1_15 : Ints 16) (a1_16 : Sl) (a1_17 : Ints 16) (a1_18 : Sl) (a1_19 : Ints 16) (a1_20 : Sl) (a1_21 : Int) (a1_22 : Int) (a2 : Int) (w0 : World) (Q : Bool → Hp → Prop) (h : mosaiclaw17_SpanCut.s a0 a1_0 a1_1 a1_2 a1_3 a1_4 a1_5 a1_6 a1_7 a1_8 a1_9 a1_10 a1_11 a1_12 a1_13 a1_14 a1_15 a1_16 a1_17 a1_18 a1_19 a1_20 a1_21 a1_22 a2 w0.heap Q) :
    Ca Try.prog 5 #[.string a0, .agg (c32 a1_0 a1_1 a1_2 a1_3 a1_4 a1_5 a1_6 a1_7 a1_8 a1_9 a1_10 a1_11 a1_12 a1_13 a1_14 a1_15 a1_16 a1_17 a1_18 a1_19 a1_20 a1_21 a1_22).toArray, .int .i64 a2] w0 (Rt mosaiclaw17_SpanCut.enc Q w0) := by
  refine ca_start (c := _) Try.func5 rfl Try.ntmps5 rfl ?_
  have so : Sm w0 w0 := Sm.refl w0
  unfold mosaiclaw17_SpanCut.s at h
  refine wc_prune [(0, .string a0), (1, .agg (c32 a1_0 a1_1 a1_2 a1_3 a1_4 a1_5 a1_6 a1_7 a1_8 a1_9 a1_10 a1_11 a1_12 a1_13 a1_14 a1_15 a1_16 a1_17 a1_18 a1_19 a1_20 a1_21 a1_22).toArray), (2, .int .i64 a2)] ⟨rfl, rfl, rfl, trivial⟩ (fun f1 => ?_)
  refine wc_seq ?_
  refine wc_region ?_
  refine wl_newT (T := 32) (cs := (c32 a1_0 a1_1 a1_2 a1_3 a1_4 a1_5 a1_6 a1_7 a1_8 a1_9 a1_10 a1_11 a1_12 a1_13 a1_14 a1_15 a1_16 a1_17 a1_18 a1_19 a1_20 a1_21 a1_22)) (ef_box rfl rfl) rfl so ?_; intro b1 w2 hb_b1 t_b1 k_b1 so
  have g_b1 := Nat.le_of_eq hb_b1.symm
  have hc := k_b1.ch (F := [])
  refine wl_val (at_assign rfl) rfl ?_
  refine wl_nil ?_
  refine wk_prune [(0, .string a0), (2, .int .i64 a2), (4, .pointer (some (⟨b1, 0, none⟩ : Addr)))] ⟨rfl, rfl, rfl, trivial⟩ (fun f1 => ?_)
  refine wk_then ?_
  refine wc_seq ?_
  refine wc_region ?_
  replace h := h b1 _ hc g_b1 t_b1.lt; clear hc
  refine wl_callF (mosaiclaw17_alive.calls _ _ h) enter11 rfl trivial so ?_; intro x3 w4 h so
  obtain ⟨q5, h⟩ := h
  replace t_b1 := pv_bk q5 t_b1 (by simp)
  refine wl_val (at_assign rfl) rfl ?_
  refine wl_nil ?_
  refine wk_prune [(0, .string a0), (2, .int .i64 a2), (4, .pointer (some (⟨b1, 0, none⟩ : Addr))), (7, .bool x3)] ⟨rfl, rfl, rfl, rfl, trivial⟩ (fun f1 => ?_)
  refine wk_then ?_
  refine wc_seq ?_
  refine wc_seq ?_
  refine wc_region ?_
  refine wl_val (at_loadA (cs := (c32 a1_0 a1_1 a1_2 a1_3 a1_4 a1_5 a1_6 a1_7 a1_8 a1_9 a1_10 a1_11 a1_12 a1_13 a1_14 a1_15 a1_16 a1_17 a1_18 a1_19 a1_20 a1_21 a1_22)) Try.underlying32 rfl (by rw [len32]; exact sz32) rfl (ldA_full t_b1)) rfl ?_
  refine wl_callF (mosaiclaw17_large.calls _ _ _ _ _ _ _ _ _ _ _ _ _ _ _ _ _ _ _ _ _ _ _ _ _ h) enter12 rfl trivial so ?_; intro x6 w7 h so
  obtain ⟨q8, h⟩ := h
  replace t_b1 := pv_bk q8 t_b1 (by simp)
  refine wl_nil ?_
  refine wk_prune [(0, .string a0), (2, .int .i64 a2), (4, .pointer (some (⟨b1, 0, none⟩ : Addr))), (7, .bool x3), (16, .bool x6)] ⟨rfl, rfl, rfl, rfl, rfl, trivial⟩ (fun f1 => ?_)
  refine wk_then ?_
  refine wc_cond rfl h (fun h => ?_) (fun h => ?_)
  · refine wc_seq ?_
    refine wc_region ?_
    refine wl_val (at_move rfl) rfl ?_
    refine wl_val (at_assign rfl) rfl ?_
    refine wl_nil ?_
    refine wk_prune [(6, .bool x3)] ⟨rfl, trivial⟩ (fun f1 => ?_)
    refine wk_then ?_
    refine wc_ret ?_
    refine wk_thenR ?_
    exact wk_ret1 (x := x3) rfl (by decide) rfl so h
  · refine wc_skip ?_
    refine wk_prune [(0, .string a0), (2, .int .i64 a2), (4, .pointer (some (⟨b1, 0, none⟩ : Addr))), (7, .bool x3)] ⟨rfl, rfl, rfl, rfl, trivial⟩ (fun f1 => ?_)
    refine wk_then ?_
    refine wc_seq ?_
    refine wc_region ?_
    refine wl_val (at_move rfl) rfl ?_
    refine wl_val (at_move rfl) rfl ?_
    refine wl_val (at_lenS Try.underlying9 rfl) rfl ?_
    refine wl_val (at_loadA (cs := (c32 a1_0 a1_1 a1_2 a1_3 a1_4 a1_5 a1_6 a1_7 a1_8 a1_9 a1_10 a1_11 a1_12 a1_13 a1_14 a1_15 a1_16 a1_17 a1_18 a1_19 a1_20 a1_21 a1_22)) Try.underlying32 rfl (by rw [len32]; exact sz32) rfl (ldA_full t_b1)) rfl ?_
    refine wl_callF (span_Decode.calls _ _ _ _ _ _ _ _ _ _ _ _ _ _ _ _ _ _ _ _ _ _ _ _ _ _ _ _ h) enter13 rfl trivial so ?_; intro x9 w10 h so
    obtain ⟨q11, h⟩ := h
    replace t_b1 := pv_bk q11 t_b1 (by simp)
    refine wl_val (at_move rfl) rfl ?_
    refine wl_val (at_extract rfl rfl) rfl ?_
    refine wl_val (at_extract rfl rfl) rfl ?_
    refine wl_newT (T := 40) (cs := (c40 0 0 0 ⟨none, 0, 0⟩)) (ef_alloc zero40 rfl) rfl so ?_; intro b12 w13 hb_b12 t_b12 k_b12 so
    have g_b12 := Nat.le_of_eq hb_b12.symm
    have hc := k_b12.ch (F := [])
    have n_b1_b12 : b1 ≠ b12 := fun e => by have := t_b1.lt; omega
    replace t_b1 := t_b1.keep k_b12
    refine wl_stWT (vs := (c40 x9.1 x9.2.1 x9.2.2.1 x9.2.2.2.1)) t_b12 (by first | (rw [len40, len40]) | (rw [len40]) | rfl) rfl so (fun q => ef_storeA (p := (⟨b12, 0, none⟩ : Addr)) (cs := (c40 x9.1 x9.2.1 x9.2.2.1 x9.2.2.2.1)) (by rw [len40]; exact sz40) rfl rfl (one40 _ _ _ _) q) ?_; intro w14 t_b12 s_w14 so
    replace t_b1 := t_b1.same s_w14 (n_b1_b12)
    replace hc := ch_same hc s_w14 (.inr g_b12)
    refine wl_val (at_assign rfl) rfl ?_
    refine wl_nil ?_
    refine wk_prune [(0, .string a0), (2, .int .i64 a2), (4, .pointer (some (⟨b1, 0, none⟩ : Addr))), (7, .bool x3), (8, .pointer (some (⟨b12, 0, none⟩ : Addr))), (9, .int .i64 x9.2.2.2.2)] ⟨rfl, rfl, rfl, rfl, rfl, rfl, trivial⟩ (fun f1 => ?_)
    refine wk_then ?_
    refine wc_seq ?_
    replace h := h b12 _ hc g_b12 t_b12.lt; clear hc
    refine wc_seq ?_
    refine wc_joinG (w0 := w0) (fun (H : Hp) => Bk H b1 32 (c32 a1_0 a1_1 a1_2 a1_3 a1_4 a1_5 a1_6 a1_7 a1_8 a1_9 a1_10 a1_11 a1_12 a1_13 a1_14 a1_15 a1_16 a1_17 a1_18 a1_19 a1_20 a1_21 a1_22) ∧ Bk H b12 40 (c40 x9.1 x9.2.1 x9.2.2.1 x9.2.2.2.1) ∧ True) (fun (s16 : Bool) => [(0, .string a0), (2, .int .i64 a2), (4, .pointer (some (⟨b1, 0, none⟩ : Addr))), (7, .bool x3), (8, .pointer (some (⟨b12, 0, none⟩ : Addr))), (41, .bool s16)]) (fun (s16 : Bool) => []) h ?_ ?_
    · rintro s16 w17 f1 h ⟨t_b1, t_b12, _⟩ so; refine wk_then ?_
      refine wc_cond rfl h (fun h => ?_) (fun h => ?_)
      · refine wc_seq ?_
        refine wc_region ?_
        refine wl_val (at_move rfl) rfl ?_
        refine wl_val (at_assign rfl) rfl ?_
        refine wl_nil ?_
        refine wk_prune [(6, .bool x3)] ⟨rfl, trivial⟩ (fun f1 => ?_)
        refine wk_then ?_
        refine wc_ret ?_
        refine wk_thenR ?_
        exact wk_ret1 (x := x3) rfl (by decide) rfl so h
      · refine wc_skip ?_
        refine wk_prune [(0, .string a0), (2, .int .i64 a2), (4, .pointer (some (⟨b1, 0, none⟩ : Addr))), (8, .pointer (some (⟨b12, 0, none⟩ : Addr)))] ⟨rfl, rfl, rfl, rfl, trivial⟩ (fun f1 => ?_)
        refine wk_then ?_
        refine wc_seq ?_
        refine wc_region ?_
        refine wl_val (at_move rfl) rfl ?_
        refine wl_val (at_move rfl) rfl ?_
        refine wl_val (at_lenS Try.underlying9 rfl) rfl ?_
        obtain ⟨q18, h⟩ := h
        refine wl_val (at_rem rfl rfl q18) rfl ?_
        refine wl_val (at_assign rfl) rfl ?_
        refine wl_nil ?_
        refine wk_prune [(0, .string a0), (4, .pointer (some (⟨b1, 0, none⟩ : Addr))), (8, .pointer (some (⟨b12, 0, none⟩ : Addr))), (10, .int .i64 (Int.tmod a2 (a0.size : Int)))] ⟨rfl, rfl, rfl, rfl, trivial⟩ (fun f1 => ?_)
        refine wk_then ?_
        refine wc_seq ?_
        refine wc_joinG (w0 := w0) (fun (H : Hp) => Bk H b1 32 (c32 a1_0 a1_1 a1_2 a1_3 a1_4 a1_5 a1_6 a1_7 a1_8 a1_9 a1_10 a1_11 a1_12 a1_13 a1_14 a1_15 a1_16 a1_17 a1_18 a1_19 a1_20 a1_21 a1_22) ∧ Bk H b12 40 (c40 x9.1 x9.2.1 x9.2.2.1 x9.2.2.2.1) ∧ True) (fun (s20 : Int) => [(0, .string a0), (4, .pointer (some (⟨b1, 0, none⟩ : Addr))), (8, .pointer (some (⟨b12, 0, none⟩ : Addr))), (10, .int .i64 s20)]) (fun (s20 : Int) => []) h ?_ ?_
        · rintro s20 w21 f1 h ⟨t_b1, t_b12, _⟩ so; refine wk_then ?_
          refine wc_seq ?_
          refine wc_region ?_
          refine wl_val (at_move rfl) rfl ?_
          refine wl_val (at_move rfl) rfl ?_
          refine wl_val (at_loadA (cs := (c32 a1_0 a1_1 a1_2 a1_3 a1_4 a1_5 a1_6 a1_7 a1_8 a1_9 a1_10 a1_11 a1_12 a1_13 a1_14 a1_15 a1_16 a1_17 a1_18 a1_19 a1_20 a1_21 a1_22)) Try.underlying32 rfl (by rw [len32]; exact sz32) rfl (ldA_full t_b1)) rfl ?_
          refine wl_callF (span_Decode.calls _ _ _ _ _ _ _ _ _ _ _ _ _ _ _ _ _ _ _ _ _ _ _ _ _ _ _ _ h) enter13 rfl trivial so ?_; intro x22 w23 h so
          obtain ⟨q24, h⟩ := h
          replace t_b12 := pv_bk q24 t_b12 (by simp)
          refine wl_val (at_move rfl) rfl ?_
          refine wl_val (at_extract rfl rfl) rfl ?_
          refine wl_val (at_extract rfl rfl) rfl ?_
          refine wl_newT (T := 40) (cs := (c40 0 0 0 ⟨none, 0, 0⟩)) (ef_alloc zero40 rfl) rfl so ?_; intro b25 w26 hb_b25 t_b25 k_b25 so
          have g_b25 := Nat.le_of_eq hb_b25.symm
          have hc := k_b25.ch (F := [])
          have n_b12_b25 : b12 ≠ b25 := fun e => by have := t_b12.lt; omega
          replace t_b12 := t_b12.keep k_b25
          refine wl_stWT (vs := (c40 x22.1 x22.2.1 x22.2.2.1 x22.2.2.2.1)) t_b25 (by first | (rw [len40, len40]) | (rw [len40]) | rfl) rfl so (fun q => ef_storeA (p := (⟨b25, 0, none⟩ : Addr)) (cs := (c40 x22.1 x22.2.1 x22.2.2.1 x22.2.2.2.1)) (by rw [len40]; exact sz40) rfl rfl (one40 _ _ _ _) q) ?_; intro w27 t_b25 s_w27 so
          replace t_b12 := t_b12.same s_w27 (n_b12_b25)
          replace hc := ch_same hc s_w27 (.inr g_b25)
          refine wl_val (at_assign rfl) rfl ?_
          refine wl_nil ?_
          refine wk_prune [(0, .string a0), (8, .pointer (some (⟨b12, 0, none⟩ : Addr))), (10, .int .i64 s20), (11, .pointer (some (⟨b25, 0, none⟩ : Addr))), (12, .int .i64 x22.2.2.2.2)] ⟨rfl, rfl, rfl, rfl, rfl, trivial⟩ (fun f1 => ?_)
          refine wk_then ?_
          refine wc_seq ?_
          refine wc_region ?_
          refine wl_val (at_move rfl) rfl ?_
          refine wl_val (at_move rfl) rfl ?_
          replace h := h b25 _ hc g_b25 t_b25.lt; clear hc
          refine wl_callF (bits_Open.calls _ _ _ _ _ h) enter14 rfl trivial so ?_; intro x28 w29 h so
          obtain ⟨q30, h⟩ := h
          replace t_b12 := pv_bk q30 t_b12 (by simp)
          replace t_b25 := pv_bk q30 t_b25 (by simp)
          refine wl_val (at_assign rfl) rfl ?_
          refine wl_nil ?_
          refine wk_prune [(8, .pointer (some (⟨b12, 0, none⟩ : Addr))), (11, .pointer (some (⟨b25, 0, none⟩ : Addr))), (12, .int .i64 x22.2.2.2.2), (13, .pointer x28)] ⟨rfl, rfl, rfl, rfl, trivial⟩ (fun f1 => ?_)
          refine wk_then ?_
          refine wc_seq ?_
          refine wc_seq ?_
          refine wc_joinG (w0 := w0) (fun (H : Hp) => Bk H b12 40 (c40 x9.1 x9.2.1 x9.2.2.1 x9.2.2.2.1) ∧ Bk H b25 40 (c40 x22.1 x22.2.1 x22.2.2.1 x22.2.2.2.1) ∧ True) (fun (s32 : Bool) => [(8, .pointer (some (⟨b12, 0, none⟩ : Addr))), (11, .pointer (some (⟨b25, 0, none⟩ : Addr))), (13, .pointer x28), (89, .bool s32)]) (fun (s32 : Bool) => []) h ?_ ?_
          · rintro s32 w33 f1 h ⟨t_b12, t_b25, _⟩ so; refine wk_then ?_
            refine wc_cond rfl h (fun h => ?_) (fun h => ?_)
            · refine wc_seq ?_
              refine wc_region ?_
              refine wl_val (at_assign rfl) rfl ?_
              refine wl_nil ?_
              refine wk_prune [(6, .bool false)] ⟨rfl, trivial⟩ (fun f1 => ?_)
              refine wk_then ?_
              refine wc_ret ?_
              refine wk_thenR ?_
              exact wk_ret1 (x := false) rfl (by decide) rfl so h
            · refine wc_skip ?_
              refine wk_prune [(8, .pointer (some (⟨b12, 0, none⟩ : Addr))), (11, .pointer (some (⟨b25, 0, none⟩ : Addr))), (13, .pointer x28)] ⟨rfl, rfl, rfl, trivial⟩ (fun f1 => ?_)
              refine wk_then ?_
              refine wc_seq ?_
              refine wc_seq ?_
              refine wc_wo [0, 1, 0, 4, 15] mixed (by kernel_rfl) so ?_; intro w34 hw so; rw [← hw] at h t_b12 t_b25; clear hw
              refine wo_pure (m' := 1) 0 rfl (by kernel_rfl) rfl rfl (fun H => at_move rfl) ?_
              refine wo_pure (m' := 5) 2 rfl (by kernel_rfl) rfl rfl (fun H => at_fieldAddr Try.underlying40 rfl rfl sz3 (by decide) rfl) ?_
              have q35 : cellAt w34.heap (⟨b12, 2, none⟩ : Addr) = some (.int .i64 x9.2.2.1) := (t_b12.cell 2).trans (by first | rfl | simp [List.getElem?_append, ints_len, bools_len])
              refine wo_load (m' := 13) 3 (fun H => cellAt H (⟨b12, 2, none⟩ : Addr) = some (.int .i64 x9.2.2.1)) rfl (by kernel_rfl) rfl rfl (fun H q35 => at_load (v := .int .i64 x9.2.2.1) Try.underlying3 rfl rfl (q35)) q35 ?_
              refine wo_take (m' := 15) 1 [false] rfl (by kernel_rfl) rfl (by kernel_rfl) ?_
              refine wl_callF (bits_Source_Left.calls _ _ _ h) enter15 rfl trivial so ?_; intro x36 w37 h so
              obtain ⟨q38, h⟩ := h
              replace t_b12 := pv_bk q38 t_b12 (by simp)
              replace t_b25 := pv_bk q38 t_b25 (by simp)
              refine wl_nil ?_
              refine wk_tq ⟨((t_b12.cell 2).trans (by first | rfl | simp [List.getElem?_append, ints_len, bools_len])), trivial⟩ ?_
              refine wo_pure (m' := 31) 4 rfl (by kernel_rfl) rfl rfl (fun H => at_lss rfl rfl) ?_
              refine wo_done (by kernel_rfl) ?_
              refine wk_prune [(8, .pointer (some (⟨b12, 0, none⟩ : Addr))), (11, .pointer (some (⟨b25, 0, none⟩ : Addr))), (94, .bool (decide (x36 < x9.2.2.1)))] ⟨rfl, rfl, rfl, trivial⟩ (fun f1 => ?_)
              refine wk_then ?_
              refine wc_cond rfl h (fun h => ?_) (fun h => ?_)
              · refine wc_seq ?_
                refine wc_join (w0 := w0) (fun (s40 : Bool) => [(6, .bool s40)]) h ?_ ?_
                · rintro s40 w41 f1 h so; refine wk_then ?_
                  refine wc_ret ?_
                  refine wk_thenR ?_
                  exact wk_ret1 (x := s40) rfl (by decide) rfl so h
                · intro J39 h hJ39
                  refine wc_region ?_
                  refine wl_val (at_fieldAddr Try.underlying40 rfl rfl sz37 (by decide) rfl) rfl ?_
                  refine wl_val (at_load (v := .int .i8 x22.1) Try.underlying37 rfl rfl ((t_b25.cell 0).trans (by first | rfl | simp [List.getElem?_append, ints_len, bools_len]))) rfl ?_
                  refine wl_val (at_eql rfl rfl) rfl ?_
                  refine wl_val (at_move rfl) rfl ?_
                  refine bif_ h (fun hb h => ?_) (fun hb h => ?_)
                  · refine wl_set (t := 98) (v := .bool true) (congrArg Value.bool hb) ?_; clear hb
                    refine wl_off (t := 98) rfl (by decide) rfl ?_
                    refine wl_off (t := 98) rfl (by decide) rfl ?_
                    refine wl_off (t := 98) rfl (by decide) rfl ?_
                    refine wl_val (at_pick_t rfl rfl) rfl ?_
                    refine wl_val (at_move rfl) rfl ?_
                    refine wl_on (t := 103) rfl (by decide) rfl ?_
                    refine wl_val (at_fieldAddr Try.underlying40 rfl rfl sz3 (by decide) rfl) rfl ?_
                    refine wl_on (t := 103) rfl (by decide) rfl ?_
                    refine wl_val (at_load (v := .int .i64 x22.2.1) Try.underlying3 rfl rfl ((t_b25.cell 1).trans (by first | rfl | simp [List.getElem?_append, ints_len, bools_len]))) rfl ?_
                    refine wl_on (t := 103) rfl (by decide) rfl ?_
                    refine wl_val (at_fieldAddr Try.underlying40 rfl rfl sz3 (by decide) rfl) rfl ?_
                    refine wl_on (t := 103) rfl (by decide) rfl ?_
                    refine wl_val (at_load (v := .int .i64 x9.2.1) Try.underlying3 rfl rfl ((t_b12.cell 1).trans (by first | rfl | simp [List.getElem?_append, ints_len, bools_len]))) rfl ?_
                    refine wl_on (t := 103) rfl (by decide) rfl ?_
                    refine wl_val (at_lss rfl rfl) rfl ?_
                    refine wl_val (at_pick_t rfl rfl) rfl ?_
                    refine wl_val (at_move rfl) rfl ?_
                    refine bif_ h (fun hb h => ?_) (fun hb h => ?_)
                    · refine wl_set (t := 110) (v := .bool true) (congrArg Value.bool hb) ?_; clear hb
                      refine wl_on (t := 110) rfl (by decide) rfl ?_
                      refine wl_val (at_fieldAddr Try.underlying40 rfl rfl sz38 (by decide) rfl) rfl ?_
                      refine wl_on (t := 110) rfl (by decide) rfl ?_
                      refine wl_val (at_load (v := .slice x22.2.2.2.1.a x22.2.2.2.1.n x22.2.2.2.1.c) Try.underlying38 rfl rfl ((t_b25.cell 3).trans (by first | rfl | simp [List.getElem?_append, ints_len, bools_len]))) rfl ?_
                      refine wl_on (t := 110) rfl (by decide) rfl ?_
                      refine wl_val (at_lenL Try.underlying38 rfl) rfl ?_
                      refine wl_on (t := 110) rfl (by decide) rfl ?_
                      refine wl_val (at_eql rfl rfl) rfl ?_
                      refine wl_val (at_pick_t rfl rfl) rfl ?_
                      refine wl_val (at_assign rfl) rfl ?_
                      refine wl_nil ?_
                      exact wk_prune [(6, .bool ((x22.2.2.2.1.n : Int) == 0))] ⟨rfl, trivial⟩ (fun f1 => hJ39 (((x22.2.2.2.1.n : Int) == 0)) _ f1 h so)
                    · refine wl_set (t := 110) (v := .bool false) (congrArg Value.bool hb) ?_; clear hb
                      refine wl_off (t := 110) rfl (by decide) rfl ?_
                      refine wl_off (t := 110) rfl (by decide) rfl ?_
                      refine wl_off (t := 110) rfl (by decide) rfl ?_
                      refine wl_off (t := 110) rfl (by decide) rfl ?_
                      refine wl_val (at_pick_f rfl rfl) rfl ?_
                      refine wl_val (at_assign rfl) rfl ?_
                      refine wl_nil ?_
                      exact wk_prune [(6, .bool false)] ⟨rfl, trivial⟩ (fun f1 => hJ39 (false) _ f1 h so)
                  · refine wl_set (t := 98) (v := .bool false) (congrArg Value.bool hb) ?_; clear hb
                    refine wl_on (t := 98) rfl (by decide) rfl ?_
                    refine wl_val (at_fieldAddr Try.underlying40 rfl rfl sz37 (by decide) rfl) rfl ?_
                    refine wl_on (t := 98) rfl (by decide) rfl ?_
                    refine wl_val (at_load (v := .int .i8 x22.1) Try.underlying37 rfl rfl ((t_b25.cell 0).trans (by first | rfl | simp [List.getElem?_append, ints_len, bools_len]))) rfl ?_
                    refine wl_on (t := 98) rfl (by decide) rfl ?_
                    refine wl_val (at_eql rfl rfl) rfl ?_
                    refine wl_val (at_pick_f rfl rfl) rfl ?_
                    refine wl_val (at_move rfl) rfl ?_
                    refine bif_ h (fun hb h => ?_) (fun hb h => ?_)
                    · refine wl_set (t := 103) (v := .bool true) (congrArg Value.bool hb) ?_; clear hb
                      refine wl_on (t := 103) rfl (by decide) rfl ?_
                      refine wl_val (at_fieldAddr Try.underlying40 rfl rfl sz3 (by decide) rfl) rfl ?_
                      refine wl_on (t := 103) rfl (by decide) rfl ?_
                      refine wl_val (at_load (v := .int .i64 x22.2.1) Try.underlying3 rfl rfl ((t_b25.cell 1).trans (by first | rfl | simp [List.getElem?_append, ints_len, bools_len]))) rfl ?_
                      refine wl_on (t := 103) rfl (by decide) rfl ?_
                      refine wl_val (at_fieldAddr Try.underlying40 rfl rfl sz3 (by decide) rfl) rfl ?_
                      refine wl_on (t := 103) rfl (by decide) rfl ?_
                      refine wl_val (at_load (v := .int .i64 x9.2.1) Try.underlying3 rfl rfl ((t_b12.cell 1).trans (by first | rfl | simp [List.getElem?_append, ints_len, bools_len]))) rfl ?_
                      refine wl_on (t := 103) rfl (by decide) rfl ?_
                      refine wl_val (at_lss rfl rfl) rfl ?_
                      refine wl_val (at_pick_t rfl rfl) rfl ?_
                      refine wl_val (at_move rfl) rfl ?_
                      refine bif_ h (fun hb h => ?_) (fun hb h => ?_)
                      · refine wl_set (t := 110) (v := .bool true) (congrArg Value.bool hb) ?_; clear hb
                        refine wl_on (t := 110) rfl (by decide) rfl ?_
                        refine wl_val (at_fieldAddr Try.underlying40 rfl rfl sz38 (by decide) rfl) rfl ?_
                        refine wl_on (t := 110) rfl (by decide) rfl ?_
                        refine wl_val (at_load (v := .slice x22.2.2.2.1.a x22.2.2.2.1.n x22.2.2.2.1.c) Try.underlying38 rfl rfl ((t_b25.cell 3).trans (by first | rfl | simp [List.getElem?_append, ints_len, bools_len]))) rfl ?_
                        refine wl_on (t := 110) rfl (by decide) rfl ?_
                        refine wl_val (at_lenL Try.underlying38 rfl) rfl ?_
                        refine wl_on (t := 110) rfl (by decide) rfl ?_
                        refine wl_val (at_eql rfl rfl) rfl ?_
                        refine wl_val (at_pick_t rfl rfl) rfl ?_
                        refine wl_val (at_assign rfl) rfl ?_
                        refine wl_nil ?_
                        exact wk_prune [(6, .bool ((x22.2.2.2.1.n : Int) == 0))] ⟨rfl, trivial⟩ (fun f1 => hJ39 (((x22.2.2.2.1.n : Int) == 0)) _ f1 h so)
                      · refine wl_set (t := 110) (v := .bool false) (congrArg Value.bool hb) ?_; clear hb
                        refine wl_off (t := 110) rfl (by decide) rfl ?_
                        refine wl_off (t := 110) rfl (by decide) rfl ?_
                        refine wl_off (t := 110) rfl (by decide) rfl ?_
                        refine wl_off (t := 110) rfl (by decide) rfl ?_
                        refine wl_val (at_pick_f rfl rfl) rfl ?_
                        refine wl_val (at_assign rfl) rfl ?_
                        refine wl_nil ?_
                        exact wk_prune [(6, .bool false)] ⟨rfl, trivial⟩ (fun f1 => hJ39 (false) _ f1 h so)
                    · refine wl_set (t := 103) (v := .bool false) (congrArg Value.bool hb) ?_; clear hb
                      refine wl_off (t := 103) rfl (by decide) rfl ?_
                      refine wl_off (t := 103) rfl (by decide) rfl ?_
                      refine wl_off (t := 103) rfl (by decide) rfl ?_
                      refine wl_off (t := 103) rfl (by decide) rfl ?_
                      refine wl_off (t := 103) rfl (by decide) rfl ?_
                      refine wl_val (at_pick_f rfl rfl) rfl ?_
                      refine wl_val (at_move rfl) rfl ?_
                      refine wl_off (t := 110) rfl (by decide) rfl ?_
                      refine wl_off (t := 110) rfl (by decide) rfl ?_
                      refine wl_off (t := 110) rfl (by decide) rfl ?_
                      refine wl_off (t := 110) rfl (by decide) rfl ?_
                      refine wl_val (at_pick_f rfl rfl) rfl ?_
                      refine wl_val (at_assign rfl) rfl ?_
                      refine wl_nil ?_
                      exact wk_prune [(6, .bool false)] ⟨rfl, trivial⟩ (fun f1 => hJ39 (false) _ f1 h so)
              · refine wc_skip ?_
                refine wk_prune [(8, .pointer (some (⟨b12, 0, none⟩ : Addr))), (11, .pointer (some (⟨b25, 0, none⟩ : Addr)))] ⟨rfl, rfl, trivial⟩ (fun f1 => ?_)
                refine wk_then ?_
                refine wc_seq ?_
                refine wc_region ?_
                refine wl_val (at_fieldAddr Try.underlying40 rfl rfl sz3 (by decide) rfl) rfl ?_
                refine wl_val (at_load (v := .int .i64 x22.2.1) Try.underlying3 rfl rfl ((t_b25.cell 1).trans (by first | rfl | simp [List.getElem?_append, ints_len, bools_len]))) rfl ?_
                refine wl_val (at_fieldAddr Try.underlying40 rfl rfl sz3 (by decide) rfl) rfl ?_
                refine wl_val (at_load (v := .int .i64 x9.2.1) Try.underlying3 rfl rfl ((t_b12.cell 1).trans (by first | rfl | simp [List.getElem?_append, ints_len, bools_len]))) rfl ?_
                refine wl_val (at_eql rfl rfl) rfl ?_
                refine wl_val (at_move rfl) rfl ?_
                refine bif_ h (fun hb h => ?_) (fun hb h => ?_)
                · refine wl_set (t := 121) (v := .bool true) (congrArg Value.bool hb) ?_; clear hb
                  refine wl_on (t := 121) rfl (by decide) rfl ?_
                  refine wl_val (at_fieldAddr Try.underlying40 rfl rfl sz3 (by decide) rfl) rfl ?_
                  refine wl_on (t := 121) rfl (by decide) rfl ?_
                  refine wl_val (at_load (v := .int .i64 x22.2.2.1) Try.underlying3 rfl rfl ((t_b25.cell 2).trans (by first | rfl | simp [List.getElem?_append, ints_len, bools_len]))) rfl ?_
                  refine wl_on (t := 121) rfl (by decide) rfl ?_
                  refine wl_val (at_fieldAddr Try.underlying40 rfl rfl sz3 (by decide) rfl) rfl ?_
                  refine wl_on (t := 121) rfl (by decide) rfl ?_
                  refine wl_val (at_load (v := .int .i64 x9.2.2.1) Try.underlying3 rfl rfl ((t_b12.cell 2).trans (by first | rfl | simp [List.getElem?_append, ints_len, bools_len]))) rfl ?_
                  refine wl_on (t := 121) rfl (by decide) rfl ?_
                  refine wl_val (at_eql rfl rfl) rfl ?_
                  refine wl_val (at_pick_t rfl rfl) rfl ?_
                  refine wl_val (at_assign rfl) rfl ?_
                  refine wl_nil ?_
                  refine wk_prune [(6, .bool (x22.2.2.1 == x9.2.2.1))] ⟨rfl, trivial⟩ (fun f1 => ?_)
                  refine wk_then ?_
                  refine wc_ret ?_
                  exact wk_ret1 (x := (x22.2.2.1 == x9.2.2.1)) rfl (by decide) rfl so h
                · refine wl_set (t := 121) (v := .bool false) (congrArg Value.bool hb) ?_; clear hb
                  refine wl_off (t := 121) rfl (by decide) rfl ?_
                  refine wl_off (t := 121) rfl (by decide) rfl ?_
                  refine wl_off (t := 121) rfl (by decide) rfl ?_
                  refine wl_off (t := 121) rfl (by decide) rfl ?_
                  refine wl_off (t := 121) rfl (by decide) rfl ?_
                  refine wl_val (at_pick_f rfl rfl) rfl ?_
                  refine wl_val (at_assign rfl) rfl ?_
                  refine wl_nil ?_
                  refine wk_prune [(6, .bool false)] ⟨rfl, trivial⟩ (fun f1 => ?_)
                  refine wk_then ?_
                  refine wc_ret ?_
                  exact wk_ret1 (x := false) rfl (by decide) rfl so h
          · intro J31 h hJ31
            refine wc_wo [0, 1, 3, 7, 15, 31, 63, 127, 255, 127, 639, 2047, 4095, 8191, 16383, 32767, 16383, 81919, 262143, 524287, 1048575, 2097151, 4194303, 2097151, 10485759, 33554431, 67108863] mixed (by kernel_rfl) so ?_; intro w42 hw so; rw [← hw] at h t_b12 t_b25; clear hw
            refine wo_pure (m' := 1) 0 rfl (by kernel_rfl) rfl rfl (fun H => at_move rfl) ?_
            refine wo_pure (m' := 3) 1 rfl (by kernel_rfl) rfl rfl (fun H => at_neq rfl rfl) ?_
            refine wo_pure (m' := 7) 2 rfl (by kernel_rfl) rfl rfl (fun H => at_move rfl) ?_
            refine bif_ h (fun hb h => ?_) (fun hb h => ?_)
            · refine wo_set (t := 65) (v := .bool true) (congrArg Value.bool hb) ?_; clear hb
              refine wo_off (m' := 15) 3 rfl (by kernel_rfl) rfl (t := 65) rfl (by decide) rfl ?_
              refine wo_off (m' := 31) 4 rfl (by kernel_rfl) rfl (t := 65) rfl (by decide) rfl ?_
              refine wo_pure (m' := 63) 5 rfl (by kernel_rfl) rfl rfl (fun H => at_pick_t rfl rfl) ?_
              refine wo_pure (m' := 127) 6 rfl (by kernel_rfl) rfl rfl (fun H => at_move rfl) ?_
              refine wo_off (m' := 255) 7 rfl (by kernel_rfl) rfl (t := 69) rfl (by decide) rfl ?_
              refine wo_off (m' := 511) 8 rfl (by kernel_rfl) rfl (t := 69) rfl (by decide) rfl ?_
              refine wo_off (m' := 1023) 9 rfl (by kernel_rfl) rfl (t := 69) rfl (by decide) rfl ?_
              refine wo_off (m' := 2047) 10 rfl (by kernel_rfl) rfl (t := 69) rfl (by decide) rfl ?_
              refine wo_off (m' := 4095) 11 rfl (by kernel_rfl) rfl (t := 69) rfl (by decide) rfl ?_
              refine wo_pure (m' := 8191) 12 rfl (by kernel_rfl) rfl rfl (fun H => at_pick_t rfl rfl) ?_
              refine wo_pure (m' := 16383) 13 rfl (by kernel_rfl) rfl rfl (fun H => at_move rfl) ?_
              refine wo_off (m' := 32767) 14 rfl (by kernel_rfl) rfl (t := 76) rfl (by decide) rfl ?_
              refine wo_off (m' := 65535) 15 rfl (by kernel_rfl) rfl (t := 76) rfl (by decide) rfl ?_
              refine wo_off (m' := 131071) 16 rfl (by kernel_rfl) rfl (t := 76) rfl (by decide) rfl ?_
              refine wo_off (m' := 262143) 17 rfl (by kernel_rfl) rfl (t := 76) rfl (by decide) rfl ?_
              refine wo_off (m' := 524287) 18 rfl (by kernel_rfl) rfl (t := 76) rfl (by decide) rfl ?_
              refine wo_pure (m' := 1048575) 19 rfl (by kernel_rfl) rfl rfl (fun H => at_pick_t rfl rfl) ?_
              refine wo_pure (m' := 2097151) 20 rfl (by kernel_rfl) rfl rfl (fun H => at_move rfl) ?_
              refine wo_off (m' := 4194303) 21 rfl (by kernel_rfl) rfl (t := 83) rfl (by decide) rfl ?_
              refine wo_off (m' := 8388607) 22 rfl (by kernel_rfl) rfl (t := 83) rfl (by decide) rfl ?_
              refine wo_off (m' := 16777215) 23 rfl (by kernel_rfl) rfl (t := 83) rfl (by decide) rfl ?_
              refine wo_off (m' := 33554431) 24 rfl (by kernel_rfl) rfl (t := 83) rfl (by decide) rfl ?_
              refine wo_off (m' := 67108863) 25 rfl (by kernel_rfl) rfl (t := 83) rfl (by decide) rfl ?_
              refine wo_pure (m' := 134217727) 26 rfl (by kernel_rfl) rfl rfl (fun H => at_pick_t rfl rfl) ?_
              refine wo_done (by kernel_rfl) ?_
              exact wk_prune [(8, .pointer (some (⟨b12, 0, none⟩ : Addr))), (11, .pointer (some (⟨b25, 0, none⟩ : Addr))), (13, .pointer x28), (89, .bool true)] ⟨rfl, rfl, rfl, rfl, trivial⟩ (fun f1 => hJ31 (true) _ f1 h ⟨t_b12, t_b25, trivial⟩ so)
            · refine wo_set (t := 65) (v := .bool false) (congrArg Value.bool hb) ?_; clear hb
              refine wo_pureG (m' := 15) 3 rfl (by kernel_rfl) rfl (t := 65) rfl (by decide) rfl (fun H => at_move rfl) ?_
              refine wo_pureG (m' := 31) 4 rfl (by kernel_rfl) rfl (t := 65) rfl (by decide) rfl (fun H => at_eqlP Try.underlying43 rfl rfl) ?_
              refine wo_pure (m' := 63) 5 rfl (by kernel_rfl) rfl rfl (fun H => at_pick_f rfl rfl) ?_
              refine wo_pure (m' := 127) 6 rfl (by kernel_rfl) rfl rfl (fun H => at_move rfl) ?_
              refine bif_ h (fun hb h => ?_) (fun hb h => ?_)
              · refine wo_set (t := 69) (v := .bool true) (congrArg Value.bool hb) ?_; clear hb
                refine wo_off (m' := 255) 7 rfl (by kernel_rfl) rfl (t := 69) rfl (by decide) rfl ?_
                refine wo_off (m' := 511) 8 rfl (by kernel_rfl) rfl (t := 69) rfl (by decide) rfl ?_
                refine wo_off (m' := 1023) 9 rfl (by kernel_rfl) rfl (t := 69) rfl (by decide) rfl ?_
                refine wo_off (m' := 2047) 10 rfl (by kernel_rfl) rfl (t := 69) rfl (by decide) rfl ?_
                refine wo_off (m' := 4095) 11 rfl (by kernel_rfl) rfl (t := 69) rfl (by decide) rfl ?_
                refine wo_pure (m' := 8191) 12 rfl (by kernel_rfl) rfl rfl (fun H => at_pick_t rfl rfl) ?_
                refine wo_pure (m' := 16383) 13 rfl (by kernel_rfl) rfl rfl (fun H => at_move rfl) ?_
                refine wo_off (m' := 32767) 14 rfl (by kernel_rfl) rfl (t := 76) rfl (by decide) rfl ?_
                refine wo_off (m' := 65535) 15 rfl (by kernel_rfl) rfl (t := 76) rfl (by decide) rfl ?_
                refine wo_off (m' := 131071) 16 rfl (by kernel_rfl) rfl (t := 76) rfl (by decide) rfl ?_
                refine wo_off (m' := 262143) 17 rfl (by kernel_rfl) rfl (t := 76) rfl (by decide) rfl ?_
                refine wo_off (m' := 524287) 18 rfl (by kernel_rfl) rfl (t := 76) rfl (by decide) rfl ?_
                refine wo_pure (m' := 1048575) 19 rfl (by kernel_rfl) rfl rfl (fun H => at_pick_t rfl rfl) ?_
                refine wo_pure (m' := 2097151) 20 rfl (by kernel_rfl) rfl rfl (fun H => at_move rfl) ?_
                refine wo_off (m' := 4194303) 21 rfl (by kernel_rfl) rfl (t := 83) rfl (by decide) rfl ?_
                refine wo_off (m' := 8388607) 22 rfl (by kernel_rfl) rfl (t := 83) rfl (by decide) rfl ?_
                refine wo_off (m' := 16777215) 23 rfl (by kernel_rfl) rfl (t := 83) rfl (by decide) rfl ?_
                refine wo_off (m' := 33554431) 24 rfl (by kernel_rfl) rfl (t := 83) rfl (by decide) rfl ?_
                refine wo_off (m' := 67108863) 25 rfl (by kernel_rfl) rfl (t := 83) rfl (by decide) rfl ?_
                refine wo_pure (m' := 134217727) 26 rfl (by kernel_rfl) rfl rfl (fun H => at_pick_t rfl rfl) ?_
                refine wo_done (by kernel_rfl) ?_
                exact wk_prune [(8, .pointer (some (⟨b12, 0, none⟩ : Addr))), (11, .pointer (some (⟨b25, 0, none⟩ : Addr))), (13, .pointer x28), (89, .bool true)] ⟨rfl, rfl, rfl, rfl, trivial⟩ (fun f1 => hJ31 (true) _ f1 h ⟨t_b12, t_b25, trivial⟩ so)
              · refine wo_set (t := 69) (v := .bool false) (congrArg Value.bool hb) ?_; clear hb
                refine wo_pureG (m' := 255) 7 rfl (by kernel_rfl) rfl (t := 69) rfl (by decide) rfl (fun H => at_fieldAddr Try.underlying40 rfl rfl sz3 (by decide) rfl) ?_
                refine wo_pureG (m' := 767) 9 rfl (by kernel_rfl) rfl (t := 69) rfl (by decide) rfl (fun H => at_fieldAddr Try.underlying40 rfl rfl sz3 (by decide) rfl) ?_
                have q43 : cellAt w42.heap (⟨b25, 2, none⟩ : Addr) = some (.int .i64 x22.2.2.1) := (t_b25.cell 2).trans (by first | rfl | simp [List.getElem?_append, ints_len, bools_len])
                refine wo_loadG (m' := 1023) 8 (fun H => cellAt H (⟨b25, 2, none⟩ : Addr) = some (.int .i64 x22.2.2.1)) rfl (by kernel_rfl) rfl (t := 69) rfl (by decide) rfl (fun H q43 => at_load (v := .int .i64 x22.2.2.1) Try.underlying3 rfl rfl (q43)) q43 ?_
                have q44 : cellAt w42.heap (⟨b12, 2, none⟩ : Addr) = some (.int .i64 x9.2.2.1) := (t_b12.cell 2).trans (by first | rfl | simp [List.getElem?_append, ints_len, bools_len])
                refine wo_loadG (m' := 2047) 10 (fun H => cellAt H (⟨b12, 2, none⟩ : Addr) = some (.int .i64 x9.2.2.1)) rfl (by kernel_rfl) rfl (t := 69) rfl (by decide) rfl (fun H q44 => at_load (v := .int .i64 x9.2.2.1) Try.underlying3 rfl rfl (q44)) q44 ?_
                refine wo_pureG (m' := 4095) 11 rfl (by kernel_rfl) rfl (t := 69) rfl (by decide) rfl (fun H => at_gtr rfl rfl) ?_
                refine wo_pure (m' := 8191) 12 rfl (by kernel_rfl) rfl rfl (fun H => at_pick_f rfl rfl) ?_
                refine wo_pure (m' := 16383) 13 rfl (by kernel_rfl) rfl rfl (fun H => at_move rfl) ?_
                refine bif_ h (fun hb h => ?_) (fun hb h => ?_)
                · refine wo_set (t := 76) (v := .bool true) (congrArg Value.bool hb) ?_; clear hb
                  refine wo_off (m' := 32767) 14 rfl (by kernel_rfl) rfl (t := 76) rfl (by decide) rfl ?_
                  refine wo_off (m' := 65535) 15 rfl (by kernel_rfl) rfl (t := 76) rfl (by decide) rfl ?_
                  refine wo_off (m' := 131071) 16 rfl (by kernel_rfl) rfl (t := 76) rfl (by decide) rfl ?_
                  refine wo_off (m' := 262143) 17 rfl (by kernel_rfl) rfl (t := 76) rfl (by decide) rfl ?_
                  refine wo_off (m' := 524287) 18 rfl (by kernel_rfl) rfl (t := 76) rfl (by decide) rfl ?_
                  refine wo_pure (m' := 1048575) 19 rfl (by kernel_rfl) rfl rfl (fun H => at_pick_t rfl rfl) ?_
                  refine wo_pure (m' := 2097151) 20 rfl (by kernel_rfl) rfl rfl (fun H => at_move rfl) ?_
                  refine wo_off (m' := 4194303) 21 rfl (by kernel_rfl) rfl (t := 83) rfl (by decide) rfl ?_
                  refine wo_off (m' := 8388607) 22 rfl (by kernel_rfl) rfl (t := 83) rfl (by decide) rfl ?_
                  refine wo_off (m' := 16777215) 23 rfl (by kernel_rfl) rfl (t := 83) rfl (by decide) rfl ?_
                  refine wo_off (m' := 33554431) 24 rfl (by kernel_rfl) rfl (t := 83) rfl (by decide) rfl ?_
                  refine wo_off (m' := 67108863) 25 rfl (by kernel_rfl) rfl (t := 83) rfl (by decide) rfl ?_
                  refine wo_pure (m' := 134217727) 26 rfl (by kernel_rfl) rfl rfl (fun H => at_pick_t rfl rfl) ?_
                  refine wo_done (by kernel_rfl) ?_
                  exact wk_prune [(8, .pointer (some (⟨b12, 0, none⟩ : Addr))), (11, .pointer (some (⟨b25, 0, none⟩ : Addr))), (13, .pointer x28), (89, .bool true)] ⟨rfl, rfl, rfl, rfl, trivial⟩ (fun f1 => hJ31 (true) _ f1 h ⟨t_b12, t_b25, trivial⟩ so)
                · refine wo_set (t := 76) (v := .bool false) (congrArg Value.bool hb) ?_; clear hb
                  refine wo_pureG (m' := 32767) 14 rfl (by kernel_rfl) rfl (t := 76) rfl (by decide) rfl (fun H => at_fieldAddr Try.underlying40 rfl rfl sz3 (by decide) rfl) ?_
                  refine wo_pureG (m' := 98303) 16 rfl (by kernel_rfl) rfl (t := 76) rfl (by decide) rfl (fun H => at_fieldAddr Try.underlying40 rfl rfl sz3 (by decide) rfl) ?_
                  have q45 : cellAt w42.heap (⟨b25, 1, none⟩ : Addr) = some (.int .i64 x22.2.1) := (t_b25.cell 1).trans (by first | rfl | simp [List.getElem?_append, ints_len, bools_len])
                  refine wo_loadG (m' := 131071) 15 (fun H => cellAt H (⟨b25, 1, none⟩ : Addr) = some (.int .i64 x22.2.1)) rfl (by kernel_rfl) rfl (t := 76) rfl (by decide) rfl (fun H q45 => at_load (v := .int .i64 x22.2.1) Try.underlying3 rfl rfl (q45)) q45 ?_
                  have q46 : cellAt w42.heap (⟨b12, 1, none⟩ : Addr) = some (.int .i64 x9.2.1) := (t_b12.cell 1).trans (by first | rfl | simp [List.getElem?_append, ints_len, bools_len])
                  refine wo_loadG (m' := 262143) 17 (fun H => cellAt H (⟨b12, 1, none⟩ : Addr) = some (.int .i64 x9.2.1)) rfl (by kernel_rfl) rfl (t := 76) rfl (by decide) rfl (fun H q46 => at_load (v := .int .i64 x9.2.1) Try.underlying3 rfl rfl (q46)) q46 ?_
                  refine wo_pureG (m' := 524287) 18 rfl (by kernel_rfl) rfl (t := 76) rfl (by decide) rfl (fun H => at_gtr rfl rfl) ?_
                  refine wo_pure (m' := 1048575) 19 rfl (by kernel_rfl) rfl rfl (fun H => at_pick_f rfl rfl) ?_
                  refine wo_pure (m' := 2097151) 20 rfl (by kernel_rfl) rfl rfl (fun H => at_move rfl) ?_
                  refine bif_ h (fun hb h => ?_) (fun hb h => ?_)
                  · refine wo_set (t := 83) (v := .bool true) (congrArg Value.bool hb) ?_; clear hb
                    refine wo_off (m' := 4194303) 21 rfl (by kernel_rfl) rfl (t := 83) rfl (by decide) rfl ?_
                    refine wo_off (m' := 8388607) 22 rfl (by kernel_rfl) rfl (t := 83) rfl (by decide) rfl ?_
                    refine wo_off (m' := 16777215) 23 rfl (by kernel_rfl) rfl (t := 83) rfl (by decide) rfl ?_
                    refine wo_off (m' := 33554431) 24 rfl (by kernel_rfl) rfl (t := 83) rfl (by decide) rfl ?_
                    refine wo_off (m' := 67108863) 25 rfl (by kernel_rfl) rfl (t := 83) rfl (by decide) rfl ?_
                    refine wo_pure (m' := 134217727) 26 rfl (by kernel_rfl) rfl rfl (fun H => at_pick_t rfl rfl) ?_
                    refine wo_done (by kernel_rfl) ?_
                    exact wk_prune [(8, .pointer (some (⟨b12, 0, none⟩ : Addr))), (11, .pointer (some (⟨b25, 0, none⟩ : Addr))), (13, .pointer x28), (89, .bool true)] ⟨rfl, rfl, rfl, rfl, trivial⟩ (fun f1 => hJ31 (true) _ f1 h ⟨t_b12, t_b25, trivial⟩ so)
                  · refine wo_set (t := 83) (v := .bool false) (congrArg Value.bool hb) ?_; clear hb
                    refine wo_pureG (m' := 4194303) 21 rfl (by kernel_rfl) rfl (t := 83) rfl (by decide) rfl (fun H => at_fieldAddr Try.underlying40 rfl rfl sz3 (by decide) rfl) ?_
                    refine wo_pureG (m' := 12582911) 23 rfl (by kernel_rfl) rfl (t := 83) rfl (by decide) rfl (fun H => at_move rfl) ?_
                    have q47 : cellAt w42.heap (⟨b25, 2, none⟩ : Addr) = some (.int .i64 x22.2.2.1) := (t_b25.cell 2).trans (by first | rfl | simp [List.getElem?_append, ints_len, bools_len])
                    refine wo_loadG (m' := 16777215) 22 (fun H => cellAt H (⟨b25, 2, none⟩ : Addr) = some (.int .i64 x22.2.2.1)) rfl (by kernel_rfl) rfl (t := 83) rfl (by decide) rfl (fun H q47 => at_load (v := .int .i64 x22.2.2.1) Try.underlying3 rfl rfl (q47)) q47 ?_
                    refine wo_take (m' := 33554431) 24 [false, true, true, true, true] rfl (by kernel_rfl) rfl (by kernel_rfl) ?_
                    refine wl_on (t := 83) rfl (by decide) rfl ?_
                    refine wl_callF (bits_Source_Left.calls _ _ _ h) enter15 rfl trivial so ?_; intro x48 w49 h so
                    obtain ⟨q50, h⟩ := h
                    replace t_b12 := pv_bk q50 t_b12 (by simp)
                    replace t_b25 := pv_bk q50 t_b25 (by simp)
                    refine wl_nil ?_
                    refine wk_tq ⟨((t_b25.cell 2).trans (by first | rfl | simp [List.getElem?_append, ints_len, bools_len])), trivial⟩ ?_
                    refine wo_pureG (m' := 67108863) 25 rfl (by kernel_rfl) rfl (t := 83) rfl (by decide) rfl (fun H => at_gtr rfl rfl) ?_
                    refine wo_pure (m' := 134217727) 26 rfl (by kernel_rfl) rfl rfl (fun H => at_pick_f rfl rfl) ?_
                    refine wo_done (by kernel_rfl) ?_
                    exact wk_prune [(8, .pointer (some (⟨b12, 0, none⟩ : Addr))), (11, .pointer (some (⟨b25, 0, none⟩ : Addr))), (13, .pointer x28), (89, .bool (decide (x48 < x22.2.2.1)))] ⟨rfl, rfl, rfl, rfl, trivial⟩ (fun f1 => hJ31 ((decide (x48 < x22.2.2.1))) _ f1 h ⟨t_b12, t_b25, trivial⟩ so)
        · intro J19 h hJ19
          refine wc_seq ?_
          refine wc_region ?_
          refine wl_val (at_move rfl) rfl ?_
          refine wl_val (at_lss rfl rfl) rfl ?_
          refine wl_nil ?_
          refine wk_prune [(0, .string a0), (4, .pointer (some (⟨b1, 0, none⟩ : Addr))), (8, .pointer (some (⟨b12, 0, none⟩ : Addr))), (10, .int .i64 (Int.tmod a2 (a0.size : Int))), (48, .bool (decide ((Int.tmod a2 (a0.size : Int)) < 0)))] ⟨rfl, rfl, rfl, rfl, rfl, trivial⟩ (fun f1 => ?_)
          refine wk_then ?_
          refine wc_cond rfl h (fun h => ?_) (fun h => ?_)
          · refine wc_region ?_
            refine wl_val (at_move rfl) rfl ?_
            refine wl_val (at_move rfl) rfl ?_
            refine wl_val (at_lenS Try.underlying9 rfl) rfl ?_
            refine wl_val (at_add rfl rfl) rfl ?_
            refine wl_val (at_assign rfl) rfl ?_
            obtain ⟨x51, e52⟩ : ∃ x : Int, x = (IntKind.wrap .i64 ((Int.tmod a2 (a0.size : Int)) + (a0.size : Int))) := ⟨_, rfl⟩; replace h := h x51 e52
            refine wl_set (t := 10) (v := .int .i64 x51) (congrArg (Value.int .i64) e52.symm) ?_
            refine wl_nil ?_
            exact wk_prune [(0, .string a0), (4, .pointer (some (⟨b1, 0, none⟩ : Addr))), (8, .pointer (some (⟨b12, 0, none⟩ : Addr))), (10, .int .i64 x51)] ⟨rfl, rfl, rfl, rfl, trivial⟩ (fun f1 => hJ19 (x51) _ f1 h ⟨t_b1, t_b12, trivial⟩ so)
          · refine wc_skip ?_
            exact wk_prune [(0, .string a0), (4, .pointer (some (⟨b1, 0, none⟩ : Addr))), (8, .pointer (some (⟨b12, 0, none⟩ : Addr))), (10, .int .i64 (Int.tmod a2 (a0.size : Int)))] ⟨rfl, rfl, rfl, rfl, trivial⟩ (fun f1 => hJ19 ((Int.tmod a2 (a0.size : Int))) _ f1 h ⟨t_b1, t_b12, trivial⟩ so)
    · intro J15 h hJ15
      refine wc_region ?_
      refine wl_val (at_move rfl) rfl ?_
      refine wl_val (at_not rfl) rfl ?_
      refine wl_val (at_move rfl) rfl ?_
      refine bif_ h (fun hb h => ?_) (fun hb h => ?_)
      · refine wl_set (t := 28) (v := .bool true) (congrArg Value.bool hb) ?_; clear hb
        refine wl_off (t := 28) rfl (by decide) rfl ?_
        refine wl_off (t := 28) rfl (by decide) rfl ?_
        refine wl_val (at_pick_t rfl rfl) rfl ?_
        refine wl_val (at_move rfl) rfl ?_
        refine wl_off (t := 32) rfl (by decide) rfl ?_
        refine wl_off (t := 32) rfl (by decide) rfl ?_
        refine wl_off (t := 32) rfl (by decide) rfl ?_
        refine wl_val (at_pick_t rfl rfl) rfl ?_
        refine wl_val (at_move rfl) rfl ?_
        refine wl_off (t := 37) rfl (by decide) rfl ?_
        refine wl_off (t := 37) rfl (by decide) rfl ?_
        refine wl_off (t := 37) rfl (by decide) rfl ?_
        refine wl_val (at_pick_t rfl rfl) rfl ?_
        refine wl_nil ?_
        exact wk_prune [(0, .string a0), (2, .int .i64 a2), (4, .pointer (some (⟨b1, 0, none⟩ : Addr))), (7, .bool x3), (8, .pointer (some (⟨b12, 0, none⟩ : Addr))), (41, .bool true)] ⟨rfl, rfl, rfl, rfl, rfl, rfl, trivial⟩ (fun f1 => hJ15 (true) _ f1 h ⟨t_b1, t_b12, trivial⟩ so)
      · refine wl_set (t := 28) (v := .bool false) (congrArg Value.bool hb) ?_; clear hb
        refine wl_on (t := 28) rfl (by decide) rfl ?_
        refine wl_val (at_move rfl) rfl ?_
        refine wl_on (t := 28) rfl (by decide) rfl ?_
        refine wl_val (at_neq rfl rfl) rfl ?_
        refine wl_val (at_pick_f rfl rfl) rfl ?_
        refine wl_val (at_move rfl) rfl ?_
        refine bif_ h (fun hb h => ?_) (fun hb h => ?_)
        · refine wl_set (t := 32) (v := .bool true) (congrArg Value.bool hb) ?_; clear hb
          refine wl_off (t := 32) rfl (by decide) rfl ?_
          refine wl_off (t := 32) rfl (by decide) rfl ?_
          refine wl_off (t := 32) rfl (by decide) rfl ?_
          refine wl_val (at_pick_t rfl rfl) rfl ?_
          refine wl_val (at_move rfl) rfl ?_
          refine wl_off (t := 37) rfl (by decide) rfl ?_
          refine wl_off (t := 37) rfl (by decide) rfl ?_
          refine wl_off (t := 37) rfl (by decide) rfl ?_
          refine wl_val (at_pick_t rfl rfl) rfl ?_
          refine wl_nil ?_
          exact wk_prune [(0, .string a0), (2, .int .i64 a2), (4, .pointer (some (⟨b1, 0, none⟩ : Addr))), (7, .bool x3), (8, .pointer (some (⟨b12, 0, none⟩ : Addr))), (41, .bool true)] ⟨rfl, rfl, rfl, rfl, rfl, rfl, trivial⟩ (fun f1 => hJ15 (true) _ f1 h ⟨t_b1, t_b12, trivial⟩ so)
        · refine wl_set (t := 32) (v := .bool false) (congrArg Value.bool hb) ?_; clear hb
          refine wl_on (t := 32) rfl (by decide) rfl ?_
          refine wl_val (at_fieldAddr Try.underlying40 rfl rfl sz37 (by decide) rfl) rfl ?_
          refine wl_on (t := 32) rfl (by decide) rfl ?_
          refine wl_val (at_load (v := .int .i8 x9.1) Try.underlying37 rfl rfl ((t_b12.cell 0).trans (by first | rfl | simp [List.getElem?_append, ints_len, bools_len]))) rfl ?_
          refine wl_on (t := 32) rfl (by decide) rfl ?_
          refine wl_val (at_neq rfl rfl) rfl ?_
          refine wl_val (at_pick_f rfl rfl) rfl ?_
          refine wl_val (at_move rfl) rfl ?_
          refine bif_ h (fun hb h => ?_) (fun hb h => ?_)
          · refine wl_set (t := 37) (v := .bool true) (congrArg Value.bool hb) ?_; clear hb
            refine wl_off (t := 37) rfl (by decide) rfl ?_
            refine wl_off (t := 37) rfl (by decide) rfl ?_
            refine wl_off (t := 37) rfl (by decide) rfl ?_
            refine wl_val (at_pick_t rfl rfl) rfl ?_
            refine wl_nil ?_
            exact wk_prune [(0, .string a0), (2, .int .i64 a2), (4, .pointer (some (⟨b1, 0, none⟩ : Addr))), (7, .bool x3), (8, .pointer (some (⟨b12, 0, none⟩ : Addr))), (41, .bool true)] ⟨rfl, rfl, rfl, rfl, rfl, rfl, trivial⟩ (fun f1 => hJ15 (true) _ f1 h ⟨t_b1, t_b12, trivial⟩ so)
          · refine wl_set (t := 37) (v := .bool false) (congrArg Value.bool hb) ?_; clear hb
            refine wl_on (t := 37) rfl (by decide) rfl ?_
            refine wl_val (at_move rfl) rfl ?_
            refine wl_on (t := 37) rfl (by decide) rfl ?_
            refine wl_val (at_lenS Try.underlying9 rfl) rfl ?_
            refine wl_on (t := 37) rfl (by decide) rfl ?_
            refine wl_val (at_eql rfl rfl) rfl ?_
            refine wl_val (at_pick_f rfl rfl) rfl ?_
            refine wl_nil ?_
            exact wk_prune [(0, .string a0), (2, .int .i64 a2), (4, .pointer (some (⟨b1, 0, none⟩ : Addr))), (7, .bool x3), (8, .pointer (some (⟨b12, 0, none⟩ : Addr))), (41, .bool ((a0.size : Int) == 0))] ⟨rfl, rfl, rfl, rfl, rfl, rfl, trivial⟩ (fun f1 => hJ15 (((a0.size : Int) == 0)) _ f1 h ⟨t_b1, t_b12, trivial⟩ so)
end Go.Proofs.Ytlfdfikgbdgfdaa.G
