/- Of this text what the row needs. -/
import Derived.Test.YtlfdfikgbdgfdaaQSpanElsewhereGF
import Derived.Test.YtlfdfikgbdgfdaaQSpanElsewhereKmosaiclaw17
import Derived.Test.YtlfdfikgbdgfdaaQSpanElsewhereKspan
namespace Go.Proofs.Ytlfdfikgbdgfdaa.G
open Go.RowKit
set_option linter.unusedVariables false
set_option linter.unusedSimpArgs false
def mosaiclaw17_SpanElsewhere.enc : Bool → Value := fun r => .bool r
def mosaiclaw17_SpanElsewhere.s (a0 : ByteArray) (a1_0 : Int) (a1_1 : Int) (a1_2 : Int) (a1_3 : Sl) (a1_4 : Sl) (a1_5 : Ints 16) (a1_6 : Sl) (a1_7 : Ints 16) (a1_8 : Sl) (a1_9 : Ints 16) (a1_10 : Sl) (a1_11 : Ints 16) (a1_12 : Sl) (a1_13 : Ints 16) (a1_14 : Sl) (a1_15 : Ints 16) (a1_16 : Sl) (a1_17 : Ints 16) (a1_18 : Sl) (a1_19 : Ints 16) (a1_20 : Sl) (a1_21 : Int) (a1_22 : Int) (a2 : ByteArray) (a3 : ByteArray) (H0 : Hp) (Q : Bool → Hp → Prop) : Prop :=
  Gn [] H0 (fun (b1 : Nat) (H2 : Hp) => mosaiclaw17_alive.s H2 (fun x3 H4 => Pv [b1] H2 H4 ∧ (mosaiclaw17_large.s a1_0 a1_1 a1_2 a1_3 a1_4 a1_5 a1_6 a1_7 a1_8 a1_9 a1_10 a1_11 a1_12 a1_13 a1_14 a1_15 a1_16 a1_17 a1_18 a1_19 a1_20 a1_21 a1_22 H4 (fun x6 H7 => Pv [b1] H4 H7 ∧ (if x6 = true then (Q x3 H7) else (span_Decode.s a0 0 (a0.size : Int) a1_0 a1_1 a1_2 a1_3 a1_4 a1_5 a1_6 a1_7 a1_8 a1_9 a1_10 a1_11 a1_12 a1_13 a1_14 a1_15 a1_16 a1_17 a1_18 a1_19 a1_20 a1_21 a1_22 H7 (fun x9 H10 => Pv [b1] H7 H10 ∧ (Gn [] H10 (fun (b12 : Nat) (H14 : Hp) => a2.size + a0.size ≤ 9223372036854775807 ∧ ((a2 ++ a0).size + a3.size ≤ 9223372036854775807 ∧ (span_Decode.s ((a2 ++ a0) ++ a3) (a2.size : Int) (IntKind.wrap .i64 ((a2.size : Int) + (a0.size : Int))) a1_0 a1_1 a1_2 a1_3 a1_4 a1_5 a1_6 a1_7 a1_8 a1_9 a1_10 a1_11 a1_12 a1_13 a1_14 a1_15 a1_16 a1_17 a1_18 a1_19 a1_20 a1_21 a1_22 H14 (fun x17 H18 => Pv [b12] H14 H18 ∧ (Gn [] H18 (fun (b20 : Nat) (H22 : Hp) => if x3 = true then (if (x9.2.2.2.2 == x17.2.2.2.2) = true then (if (x9.1 == x17.1) = true then (if (x9.2.1 == x17.2.1) = true then (if (x9.2.2.1 == x17.2.2.1) = true then (mosaiclaw17_same.s x9.2.2.2.1 x17.2.2.2.1 H22 (fun x23 H24 => Q x23 H24)) else (Q false H22)) else (Q false H22)) else (Q false H22)) else (Q false H22)) else (Q false H22)))))))))))))))
set_option maxRecDepth 20000 in
set_option maxHeartbeats 4000000 in
theorem mosaiclaw17_SpanElsewhere.calls (a0 : ByteArray) (a1_0 : Int) (a1_1 : Int) (a1_2 : Int) (a1_3 : Sl) (a1_4 : Sl) (a1_5 : Ints 16) (a1_6 : Sl) (a1_7 : Ints 16) (a1_8 : Sl) (a1_9 : Ints 16) (a1_10 : Sl) (a1_11 : Ints 16) (a1_12 : Sl) (a1_13 : Ints 16) (a1_14 : Sl) (a1_15 : Ints 16) (a1_16 : Sl) (a1_17 : Ints 16) (a1_18 : Sl) (a1_19 : Ints 16) (a1_20 : Sl) (a1_21 : Int) (a1_22 : Int) (a2 : ByteArray) (a3 : ByteArray) (w0 : World) (Q : Bool → Hp → Prop) (h : mosaiclaw17_SpanElsewhere.s a0 a1_0 a1_1 a1_2 a1_3 a1_4 a1_5 a1_6 a1_7 a1_8 a1_9 a1_10 a1_11 a1_12 a1_13 a1_14 a1_15 a1_16 a1_17 a1_18 a1_19 a1_20 a1_21 a1_22 a2 a3 w0.heap Q) :
    Ca Try.prog 6 #[.string a0, .agg (c32 a1_0 a1_1 a1_2 a1_3 a1_4 a1_5 a1_6 a1_7 a1_8 a1_9 a1_10 a1_11 a1_12 a1_13 a1_14 a1_15 a1_16 a1_17 a1_18 a1_19 a1_20 a1_21 a1_22).toArray, .string a2, .string a3] w0 (Rt mosaiclaw17_SpanElsewhere.enc Q w0) := by
  refine ca_start (c := _) Try.func6 rfl Try.ntmps6 rfl ?_
  have so : Sm w0 w0 := Sm.refl w0
  unfold mosaiclaw17_SpanElsewhere.s at h
  refine wc_prune [(0, .string a0), (1, .agg (c32 a1_0 a1_1 a1_2 a1_3 a1_4 a1_5 a1_6 a1_7 a1_8 a1_9 a1_10 a1_11 a1_12 a1_13 a1_14 a1_15 a1_16 a1_17 a1_18 a1_19 a1_20 a1_21 a1_22).toArray), (2, .string a2), (3, .string a3)] ⟨rfl, rfl, rfl, rfl, trivial⟩ (fun f1 => ?_)
  refine wc_seq ?_
  refine wc_region ?_
  refine wl_newT (T := 32) (cs := (c32 a1_0 a1_1 a1_2 a1_3 a1_4 a1_5 a1_6 a1_7 a1_8 a1_9 a1_10 a1_11 a1_12 a1_13 a1_14 a1_15 a1_16 a1_17 a1_18 a1_19 a1_20 a1_21 a1_22)) (ef_box rfl rfl) rfl so ?_; intro b1 w2 hb_b1 t_b1 k_b1 so
  have g_b1 := Nat.le_of_eq hb_b1.symm
  have hc := k_b1.ch (F := [])
  refine wl_val (at_assign rfl) rfl ?_
  refine wl_nil ?_
  refine wk_prune [(0, .string a0), (2, .string a2), (3, .string a3), (5, .pointer (some (⟨b1, 0, none⟩ : Addr)))] ⟨rfl, rfl, rfl, rfl, trivial⟩ (fun f1 => ?_)
  refine wk_then ?_
  refine wc_seq ?_
  refine wc_region ?_
  replace h := h b1 _ hc g_b1 t_b1.lt; clear hc
  refine wl_callF (mosaiclaw17_alive.calls _ _ h) enter11 rfl trivial so ?_; intro x3 w4 h so
  obtain ⟨q5, h⟩ := h
  replace t_b1 := pv_bk q5 t_b1 (by simp)
  refine wl_val (at_assign rfl) rfl ?_
  refine wl_nil ?_
  refine wk_prune [(0, .string a0), (2, .string a2), (3, .string a3), (5, .pointer (some (⟨b1, 0, none⟩ : Addr))), (9, .bool x3)] ⟨rfl, rfl, rfl, rfl, rfl, trivial⟩ (fun f1 => ?_)
  refine wk_then ?_
  refine wc_seq ?_
  refine wc_seq ?_
  refine wc_region ?_
  refine wl_val (at_loadA (cs := (c32 a1_0 a1_1 a1_2 a1_3 a1_4 a1_5 a1_6 a1_7 a1_8 a1_9 a1_10 a1_11 a1_12 a1_13 a1_14 a1_15 a1_16 a1_17 a1_18 a1_19 a1_20 a1_21 a1_22)) Try.underlying32 rfl (by rw [len32]; exact sz32) rfl (ldA_full t_b1)) rfl ?_
  refine wl_callF (mosaiclaw17_large.calls _ _ _ _ _ _ _ _ _ _ _ _ _ _ _ _ _ _ _ _ _ _ _ _ _ h) enter12 rfl trivial so ?_; intro x6 w7 h so
  obtain ⟨q8, h⟩ := h
  replace t_b1 := pv_bk q8 t_b1 (by simp)
  refine wl_nil ?_
  refine wk_prune [(0, .string a0), (2, .string a2), (3, .string a3), (5, .pointer (some (⟨b1, 0, none⟩ : Addr))), (9, .bool x3), (16, .bool x6)] ⟨rfl, rfl, rfl, rfl, rfl, rfl, trivial⟩ (fun f1 => ?_)
  refine wk_then ?_
  refine wc_cond rfl h (fun h => ?_) (fun h => ?_)
  · refine wc_seq ?_
    refine wc_region ?_
    refine wl_val (at_move rfl) rfl ?_
    refine wl_val (at_assign rfl) rfl ?_
    refine wl_nil ?_
    refine wk_prune [(8, .bool x3)] ⟨rfl, trivial⟩ (fun f1 => ?_)
    refine wk_then ?_
    refine wc_ret ?_
    refine wk_thenR ?_
    exact wk_ret1 (x := x3) rfl (by decide) rfl so h
  · refine wc_skip ?_
    refine wk_prune [(0, .string a0), (2, .string a2), (3, .string a3), (5, .pointer (some (⟨b1, 0, none⟩ : Addr))), (9, .bool x3)] ⟨rfl, rfl, rfl, rfl, rfl, trivial⟩ (fun f1 => ?_)
    refine wk_then ?_
    refine wc_seq ?_
    refine wc_region ?_
    refine wl_val (at_move rfl) rfl ?_
    refine wl_val (at_move rfl) rfl ?_
    refine wl_val (at_lenS Try.underlying9 rfl) rfl ?_
    refine wl_val (at_loadA (cs := (c32 a1_0 a1_1 a1_2 a1_3 a1_4 a1_5 a1_6 a1_7 a1_8 a1_9 a1_10 a1_11 a1_12 a1_13 a1_14 a1_15 a1_16 a1_17 a1_18 a1_19 a1_20 a1_21 a1_22)) Try.underlying32 rfl (by rw [len32]; exact sz32) rfl (ldA_full t_b1)) rfl ?_
    refine wl_callF (span_Decode.calls _ _ _ _ _ _ _ _ _ _ _ _ _ _ _ _ _ _ _ _ _ _ _ _ _ _ _ _ h) enter13 rfl trivial so ?_; intro x9 w10 h so
    obtain ⟨q11, h⟩ := h
    replace t_b1 := pv_bk q11 t_b1 (by simp)
    refine wl_val (at_move rfl) rfl ?_
    refine wl_val (at_extract rfl rfl) rfl ?_
    refine wl_val (at_extract rfl rfl) rfl ?_
    refine wl_newT (T := 40) (cs := (c40 0 0 0 ⟨none, 0, 0⟩)) (ef_alloc zero40 rfl) rfl so ?_; intro b12 w13 hb_b12 t_b12 k_b12 so
    have g_b12 := Nat.le_of_eq hb_b12.symm
    have hc := k_b12.ch (F := [])
    have n_b1_b12 : b1 ≠ b12 := fun e => by have := t_b1.lt; omega
    replace t_b1 := t_b1.keep k_b12
    refine wl_stWT (vs := (c40 x9.1 x9.2.1 x9.2.2.1 x9.2.2.2.1)) t_b12 (by first | (rw [len40, len40]) | (rw [len40]) | rfl) rfl so (fun q => ef_storeA (p := (⟨b12, 0, none⟩ : Addr)) (cs := (c40 x9.1 x9.2.1 x9.2.2.1 x9.2.2.2.1)) (by rw [len40]; exact sz40) rfl rfl (one40 _ _ _ _) q) ?_; intro w14 t_b12 s_w14 so
    replace t_b1 := t_b1.same s_w14 (n_b1_b12)
    replace hc := ch_same hc s_w14 (.inr g_b12)
    refine wl_val (at_assign rfl) rfl ?_
    refine wl_nil ?_
    refine wk_prune [(0, .string a0), (2, .string a2), (3, .string a3), (5, .pointer (some (⟨b1, 0, none⟩ : Addr))), (9, .bool x3), (10, .pointer (some (⟨b12, 0, none⟩ : Addr))), (11, .int .i64 x9.2.2.2.2)] ⟨rfl, rfl, rfl, rfl, rfl, rfl, rfl, trivial⟩ (fun f1 => ?_)
    refine wk_then ?_
    refine wc_seq ?_
    refine wc_region ?_
    refine wl_val (at_move rfl) rfl ?_
    refine wl_val (at_move rfl) rfl ?_
    replace h := h b12 _ hc g_b12 t_b12.lt; clear hc
    obtain ⟨q15, h⟩ := h
    refine wl_val (at_cat rfl rfl q15) rfl ?_
    refine wl_val (at_move rfl) rfl ?_
    obtain ⟨q16, h⟩ := h
    refine wl_val (at_cat rfl rfl q16) rfl ?_
    refine wl_val (at_move rfl) rfl ?_
    refine wl_val (at_lenS Try.underlying9 rfl) rfl ?_
    refine wl_val (at_move rfl) rfl ?_
    refine wl_val (at_lenS Try.underlying9 rfl) rfl ?_
    refine wl_val (at_move rfl) rfl ?_
    refine wl_val (at_lenS Try.underlying9 rfl) rfl ?_
    refine wl_val (at_add rfl rfl) rfl ?_
    refine wl_val (at_loadA (cs := (c32 a1_0 a1_1 a1_2 a1_3 a1_4 a1_5 a1_6 a1_7 a1_8 a1_9 a1_10 a1_11 a1_12 a1_13 a1_14 a1_15 a1_16 a1_17 a1_18 a1_19 a1_20 a1_21 a1_22)) Try.underlying32 rfl (by rw [len32]; exact sz32) rfl (ldA_full t_b1)) rfl ?_
    refine wl_callF (span_Decode.calls _ _ _ _ _ _ _ _ _ _ _ _ _ _ _ _ _ _ _ _ _ _ _ _ _ _ _ _ h) enter13 rfl trivial so ?_; intro x17 w18 h so
    obtain ⟨q19, h⟩ := h
    replace t_b12 := pv_bk q19 t_b12 (by simp)
    refine wl_val (at_move rfl) rfl ?_
    refine wl_val (at_extract rfl rfl) rfl ?_
    refine wl_val (at_extract rfl rfl) rfl ?_
    refine wl_newT (T := 40) (cs := (c40 0 0 0 ⟨none, 0, 0⟩)) (ef_alloc zero40 rfl) rfl so ?_; intro b20 w21 hb_b20 t_b20 k_b20 so
    have g_b20 := Nat.le_of_eq hb_b20.symm
    have hc := k_b20.ch (F := [])
    have n_b12_b20 : b12 ≠ b20 := fun e => by have := t_b12.lt; omega
    replace t_b12 := t_b12.keep k_b20
    refine wl_stWT (vs := (c40 x17.1 x17.2.1 x17.2.2.1 x17.2.2.2.1)) t_b20 (by first | (rw [len40, len40]) | (rw [len40]) | rfl) rfl so (fun q => ef_storeA (p := (⟨b20, 0, none⟩ : Addr)) (cs := (c40 x17.1 x17.2.1 x17.2.2.1 x17.2.2.2.1)) (by rw [len40]; exact sz40) rfl rfl (one40 _ _ _ _) q) ?_; intro w22 t_b20 s_w22 so
    replace t_b12 := t_b12.same s_w22 (n_b12_b20)
    replace hc := ch_same hc s_w22 (.inr g_b20)
    refine wl_val (at_assign rfl) rfl ?_
    refine wl_nil ?_
    refine wk_prune [(9, .bool x3), (10, .pointer (some (⟨b12, 0, none⟩ : Addr))), (11, .int .i64 x9.2.2.2.2), (12, .pointer (some (⟨b20, 0, none⟩ : Addr))), (13, .int .i64 x17.2.2.2.2)] ⟨rfl, rfl, rfl, rfl, rfl, trivial⟩ (fun f1 => ?_)
    refine wk_then ?_
    refine wc_seq ?_
    refine wc_region ?_
    refine wl_val (at_move rfl) rfl ?_
    refine wl_val (at_move rfl) rfl ?_
    replace h := h b20 _ hc g_b20 t_b20.lt; clear hc
    refine bif_ h (fun hb h => ?_) (fun hb h => ?_)
    · refine wl_set (t := 44) (v := .bool true) (congrArg Value.bool hb) ?_; clear hb
      refine wl_on (t := 44) rfl (by decide) rfl ?_
      refine wl_val (at_move rfl) rfl ?_
      refine wl_on (t := 44) rfl (by decide) rfl ?_
      refine wl_val (at_move rfl) rfl ?_
      refine wl_on (t := 44) rfl (by decide) rfl ?_
      refine wl_val (at_eql rfl rfl) rfl ?_
      refine wl_val (at_pick_t rfl rfl) rfl ?_
      refine wl_val (at_move rfl) rfl ?_
      refine bif_ h (fun hb h => ?_) (fun hb h => ?_)
      · refine wl_set (t := 49) (v := .bool true) (congrArg Value.bool hb) ?_; clear hb
        refine wl_on (t := 49) rfl (by decide) rfl ?_
        refine wl_val (at_fieldAddr Try.underlying40 rfl rfl sz37 (by decide) rfl) rfl ?_
        refine wl_on (t := 49) rfl (by decide) rfl ?_
        refine wl_val (at_load (v := .int .i8 x9.1) Try.underlying37 rfl rfl ((t_b12.cell 0).trans (by first | rfl | simp [List.getElem?_append, ints_len, bools_len]))) rfl ?_
        refine wl_on (t := 49) rfl (by decide) rfl ?_
        refine wl_val (at_fieldAddr Try.underlying40 rfl rfl sz37 (by decide) rfl) rfl ?_
        refine wl_on (t := 49) rfl (by decide) rfl ?_
        refine wl_val (at_load (v := .int .i8 x17.1) Try.underlying37 rfl rfl ((t_b20.cell 0).trans (by first | rfl | simp [List.getElem?_append, ints_len, bools_len]))) rfl ?_
        refine wl_on (t := 49) rfl (by decide) rfl ?_
        refine wl_val (at_eql rfl rfl) rfl ?_
        refine wl_val (at_pick_t rfl rfl) rfl ?_
        refine wl_val (at_move rfl) rfl ?_
        refine bif_ h (fun hb h => ?_) (fun hb h => ?_)
        · refine wl_set (t := 56) (v := .bool true) (congrArg Value.bool hb) ?_; clear hb
          refine wl_on (t := 56) rfl (by decide) rfl ?_
          refine wl_val (at_fieldAddr Try.underlying40 rfl rfl sz3 (by decide) rfl) rfl ?_
          refine wl_on (t := 56) rfl (by decide) rfl ?_
          refine wl_val (at_load (v := .int .i64 x9.2.1) Try.underlying3 rfl rfl ((t_b12.cell 1).trans (by first | rfl | simp [List.getElem?_append, ints_len, bools_len]))) rfl ?_
          refine wl_on (t := 56) rfl (by decide) rfl ?_
          refine wl_val (at_fieldAddr Try.underlying40 rfl rfl sz3 (by decide) rfl) rfl ?_
          refine wl_on (t := 56) rfl (by decide) rfl ?_
          refine wl_val (at_load (v := .int .i64 x17.2.1) Try.underlying3 rfl rfl ((t_b20.cell 1).trans (by first | rfl | simp [List.getElem?_append, ints_len, bools_len]))) rfl ?_
          refine wl_on (t := 56) rfl (by decide) rfl ?_
          refine wl_val (at_eql rfl rfl) rfl ?_
          refine wl_val (at_pick_t rfl rfl) rfl ?_
          refine wl_val (at_move rfl) rfl ?_
          refine bif_ h (fun hb h => ?_) (fun hb h => ?_)
          · refine wl_set (t := 63) (v := .bool true) (congrArg Value.bool hb) ?_; clear hb
            refine wl_on (t := 63) rfl (by decide) rfl ?_
            refine wl_val (at_fieldAddr Try.underlying40 rfl rfl sz3 (by decide) rfl) rfl ?_
            refine wl_on (t := 63) rfl (by decide) rfl ?_
            refine wl_val (at_load (v := .int .i64 x9.2.2.1) Try.underlying3 rfl rfl ((t_b12.cell 2).trans (by first | rfl | simp [List.getElem?_append, ints_len, bools_len]))) rfl ?_
            refine wl_on (t := 63) rfl (by decide) rfl ?_
            refine wl_val (at_fieldAddr Try.underlying40 rfl rfl sz3 (by decide) rfl) rfl ?_
            refine wl_on (t := 63) rfl (by decide) rfl ?_
            refine wl_val (at_load (v := .int .i64 x17.2.2.1) Try.underlying3 rfl rfl ((t_b20.cell 2).trans (by first | rfl | simp [List.getElem?_append, ints_len, bools_len]))) rfl ?_
            refine wl_on (t := 63) rfl (by decide) rfl ?_
            refine wl_val (at_eql rfl rfl) rfl ?_
            refine wl_val (at_pick_t rfl rfl) rfl ?_
            refine wl_val (at_move rfl) rfl ?_
            refine bif_ h (fun hb h => ?_) (fun hb h => ?_)
            · refine wl_set (t := 70) (v := .bool true) (congrArg Value.bool hb) ?_; clear hb
              refine wl_on (t := 70) rfl (by decide) rfl ?_
              refine wl_val (at_fieldAddr Try.underlying40 rfl rfl sz38 (by decide) rfl) rfl ?_
              refine wl_on (t := 70) rfl (by decide) rfl ?_
              refine wl_val (at_load (v := .slice x9.2.2.2.1.a x9.2.2.2.1.n x9.2.2.2.1.c) Try.underlying38 rfl rfl ((t_b12.cell 3).trans (by first | rfl | simp [List.getElem?_append, ints_len, bools_len]))) rfl ?_
              refine wl_on (t := 70) rfl (by decide) rfl ?_
              refine wl_val (at_fieldAddr Try.underlying40 rfl rfl sz38 (by decide) rfl) rfl ?_
              refine wl_on (t := 70) rfl (by decide) rfl ?_
              refine wl_val (at_load (v := .slice x17.2.2.2.1.a x17.2.2.2.1.n x17.2.2.2.1.c) Try.underlying38 rfl rfl ((t_b20.cell 3).trans (by first | rfl | simp [List.getElem?_append, ints_len, bools_len]))) rfl ?_
              refine wl_on (t := 70) rfl (by decide) rfl ?_
              refine wl_callF (mosaiclaw17_same.calls _ _ _ _ h) enter16 rfl trivial so ?_; intro x23 w24 h so
              refine wl_val (at_pick_t rfl rfl) rfl ?_
              refine wl_val (at_assign rfl) rfl ?_
              refine wl_nil ?_
              refine wk_prune [(8, .bool x23)] ⟨rfl, trivial⟩ (fun f1 => ?_)
              refine wk_then ?_
              refine wc_ret ?_
              exact wk_ret1 (x := x23) rfl (by decide) rfl so h
            · refine wl_set (t := 70) (v := .bool false) (congrArg Value.bool hb) ?_; clear hb
              refine wl_off (t := 70) rfl (by decide) rfl ?_
              refine wl_off (t := 70) rfl (by decide) rfl ?_
              refine wl_off (t := 70) rfl (by decide) rfl ?_
              refine wl_off (t := 70) rfl (by decide) rfl ?_
              refine wl_off (t := 70) rfl (by decide) rfl ?_
              refine wl_val (at_pick_f rfl rfl) rfl ?_
              refine wl_val (at_assign rfl) rfl ?_
              refine wl_nil ?_
              refine wk_prune [(8, .bool false)] ⟨rfl, trivial⟩ (fun f1 => ?_)
              refine wk_then ?_
              refine wc_ret ?_
              exact wk_ret1 (x := false) rfl (by decide) rfl so h
          · refine wl_set (t := 63) (v := .bool false) (congrArg Value.bool hb) ?_; clear hb
            refine wl_off (t := 63) rfl (by decide) rfl ?_
            refine wl_off (t := 63) rfl (by decide) rfl ?_
            refine wl_off (t := 63) rfl (by decide) rfl ?_
            refine wl_off (t := 63) rfl (by decide) rfl ?_
            refine wl_off (t := 63) rfl (by decide) rfl ?_
            refine wl_val (at_pick_f rfl rfl) rfl ?_
            refine wl_val (at_move rfl) rfl ?_
            refine wl_off (t := 70) rfl (by decide) rfl ?_
            refine wl_off (t := 70) rfl (by decide) rfl ?_
            refine wl_off (t := 70) rfl (by decide) rfl ?_
            refine wl_off (t := 70) rfl (by decide) rfl ?_
            refine wl_off (t := 70) rfl (by decide) rfl ?_
            refine wl_val (at_pick_f rfl rfl) rfl ?_
            refine wl_val (at_assign rfl) rfl ?_
            refine wl_nil ?_
            refine wk_prune [(8, .bool false)] ⟨rfl, trivial⟩ (fun f1 => ?_)
            refine wk_then ?_
            refine wc_ret ?_
            exact wk_ret1 (x := false) rfl (by decide) rfl so h
        · refine wl_set (t := 56) (v := .bool false) (congrArg Value.bool hb) ?_; clear hb
          refine wl_off (t := 56) rfl (by decide) rfl ?_
          refine wl_off (t := 56) rfl (by decide) rfl ?_
          refine wl_off (t := 56) rfl (by decide) rfl ?_
          refine wl_off (t := 56) rfl (by decide) rfl ?_
          refine wl_off (t := 56) rfl (by decide) rfl ?_
          refine wl_val (at_pick_f rfl rfl) rfl ?_
          refine wl_val (at_move rfl) rfl ?_
          refine wl_off (t := 63) rfl (by decide) rfl ?_
          refine wl_off (t := 63) rfl (by decide) rfl ?_
          refine wl_off (t := 63) rfl (by decide) rfl ?_
          refine wl_off (t := 63) rfl (by decide) rfl ?_
          refine wl_off (t := 63) rfl (by decide) rfl ?_
          refine wl_val (at_pick_f rfl rfl) rfl ?_
          refine wl_val (at_move rfl) rfl ?_
          refine wl_off (t := 70) rfl (by decide) rfl ?_
          refine wl_off (t := 70) rfl (by decide) rfl ?_
          refine wl_off (t := 70) rfl (by decide) rfl ?_
          refine wl_off (t := 70) rfl (by decide) rfl ?_
          refine wl_off (t := 70) rfl (by decide) rfl ?_
          refine wl_val (at_pick_f rfl rfl) rfl ?_
          refine wl_val (at_assign rfl) rfl ?_
          refine wl_nil ?_
          refine wk_prune [(8, .bool false)] ⟨rfl, trivial⟩ (fun f1 => ?_)
          refine wk_then ?_
          refine wc_ret ?_
          exact wk_ret1 (x := false) rfl (by decide) rfl so h
      · refine wl_set (t := 49) (v := .bool false) (congrArg Value.bool hb) ?_; clear hb
        refine wl_off (t := 49) rfl (by decide) rfl ?_
        refine wl_off (t := 49) rfl (by decide) rfl ?_
        refine wl_off (t := 49) rfl (by decide) rfl ?_
        refine wl_off (t := 49) rfl (by decide) rfl ?_
        refine wl_off (t := 49) rfl (by decide) rfl ?_
        refine wl_val (at_pick_f rfl rfl) rfl ?_
        refine wl_val (at_move rfl) rfl ?_
        refine wl_off (t := 56) rfl (by decide) rfl ?_
        refine wl_off (t := 56) rfl (by decide) rfl ?_
        refine wl_off (t := 56) rfl (by decide) rfl ?_
        refine wl_off (t := 56) rfl (by decide) rfl ?_
        refine wl_off (t := 56) rfl (by decide) rfl ?_
        refine wl_val (at_pick_f rfl rfl) rfl ?_
        refine wl_val (at_move rfl) rfl ?_
        refine wl_off (t := 63) rfl (by decide) rfl ?_
        refine wl_off (t := 63) rfl (by decide) rfl ?_
        refine wl_off (t := 63) rfl (by decide) rfl ?_
        refine wl_off (t := 63) rfl (by decide) rfl ?_
        refine wl_off (t := 63) rfl (by decide) rfl ?_
        refine wl_val (at_pick_f rfl rfl) rfl ?_
        refine wl_val (at_move rfl) rfl ?_
        refine wl_off (t := 70) rfl (by decide) rfl ?_
        refine wl_off (t := 70) rfl (by decide) rfl ?_
        refine wl_off (t := 70) rfl (by decide) rfl ?_
        refine wl_off (t := 70) rfl (by decide) rfl ?_
        refine wl_off (t := 70) rfl (by decide) rfl ?_
        refine wl_val (at_pick_f rfl rfl) rfl ?_
        refine wl_val (at_assign rfl) rfl ?_
        refine wl_nil ?_
        refine wk_prune [(8, .bool false)] ⟨rfl, trivial⟩ (fun f1 => ?_)
        refine wk_then ?_
        refine wc_ret ?_
        exact wk_ret1 (x := false) rfl (by decide) rfl so h
    · refine wl_set (t := 44) (v := .bool false) (congrArg Value.bool hb) ?_; clear hb
      refine wl_off (t := 44) rfl (by decide) rfl ?_
      refine wl_off (t := 44) rfl (by decide) rfl ?_
      refine wl_off (t := 44) rfl (by decide) rfl ?_
      refine wl_val (at_pick_f rfl rfl) rfl ?_
      refine wl_val (at_move rfl) rfl ?_
      refine wl_off (t := 49) rfl (by decide) rfl ?_
      refine wl_off (t := 49) rfl (by decide) rfl ?_
      refine wl_off (t := 49) rfl (by decide) rfl ?_
      refine wl_off (t := 49) rfl (by decide) rfl ?_
      refine wl_off (t := 49) rfl (by decide) rfl ?_
      refine wl_val (at_pick_f rfl rfl) rfl ?_
      refine wl_val (at_move rfl) rfl ?_
      refine wl_off (t := 56) rfl (by decide) rfl ?_
      refine wl_off (t := 56) rfl (by decide) rfl ?_
      refine wl_off (t := 56) rfl (by decide) rfl ?_
      refine wl_off (t := 56) rfl (by decide) rfl ?_
      refine wl_off (t := 56) rfl (by decide) rfl ?_
      refine wl_val (at_pick_f rfl rfl) rfl ?_
      refine wl_val (at_move rfl) rfl ?_
      refine wl_off (t := 63) rfl (by decide) rfl ?_
      refine wl_off (t := 63) rfl (by decide) rfl ?_
      refine wl_off (t := 63) rfl (by decide) rfl ?_
      refine wl_off (t := 63) rfl (by decide) rfl ?_
      refine wl_off (t := 63) rfl (by decide) rfl ?_
      refine wl_val (at_pick_f rfl rfl) rfl ?_
      refine wl_val (at_move rfl) rfl ?_
      refine wl_off (t := 70) rfl (by decide) rfl ?_
      refine wl_off (t := 70) rfl (by decide) rfl ?_
      refine wl_off (t := 70) rfl (by decide) rfl ?_
      refine wl_off (t := 70) rfl (by decide) rfl ?_
      refine wl_off (t := 70) rfl (by decide) rfl ?_
      refine wl_val (at_pick_f rfl rfl) rfl ?_
      refine wl_val (at_assign rfl) rfl ?_
      refine wl_nil ?_
      refine wk_prune [(8, .bool false)] ⟨rfl, trivial⟩ (fun f1 => ?_)
      refine wk_then ?_
      refine wc_ret ?_
      exact wk_ret1 (x := false) rfl (by decide) rfl so h
end Go.Proofs.Ytlfdfikgbdgfdaa.G
