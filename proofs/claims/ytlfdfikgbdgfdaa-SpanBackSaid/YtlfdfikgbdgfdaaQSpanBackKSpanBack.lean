/- Of this text what the row needs. -/
import Derived.Test.YtlfdfikgbdgfdaaQSpanBackGF
import Derived.Test.YtlfdfikgbdgfdaaQSpanBackKmosaiclaw17
import Derived.Test.YtlfdfikgbdgfdaaQSpanBackKspan
namespace Go.Proofs.Ytlfdfikgbdgfdaa.G
open Go.RowKit
set_option linter.unusedVariables false
set_option linter.unusedSimpArgs false
def mosaiclaw17_SpanBack.enc : Bool → Value := fun r => .bool r
def mosaiclaw17_SpanBack.s (a0_0 : Int) (a0_1 : Int) (a0_2 : Int) (a0_3 : Sl) (a0_4 : Sl) (a0_5 : Ints 16) (a0_6 : Sl) (a0_7 : Ints 16) (a0_8 : Sl) (a0_9 : Ints 16) (a0_10 : Sl) (a0_11 : Ints 16) (a0_12 : Sl) (a0_13 : Ints 16) (a0_14 : Sl) (a0_15 : Ints 16) (a0_16 : Sl) (a0_17 : Ints 16) (a0_18 : Sl) (a0_19 : Ints 16) (a0_20 : Sl) (a0_21 : Int) (a0_22 : Int) (a1 : Sl) (a2 : ByteArray) (a3 : ByteArray) (H0 : Hp) (Q : Bool → Hp → Prop) : Prop :=
  Gn [] H0 (fun (b1 : Nat) (H2 : Hp) => mosaiclaw17_alive.s H2 (fun x3 H4 => Pv [b1] H2 H4 ∧ (Join (fun (s7 : Bool) (H8 : Hp) => if s7 = true then (Q x3 H8) else (mosaiclaw17_written.s a0_0 a0_1 a0_2 a0_3 a0_4 a0_5 a0_6 a0_7 a0_8 a0_9 a0_10 a0_11 a0_12 a0_13 a0_14 a0_15 a0_16 a0_17 a0_18 a0_19 a0_20 a0_21 a0_22 a1 H8 (fun x9 H10 => Pv [b1] H8 H10 ∧ (Join (fun (s13 : Bool) (H14 : Hp) => if s13 = true then (Q x3 H14) else (a2.size + x9.1.size ≤ 9223372036854775807 ∧ ((a2 ++ x9.1).size + a3.size ≤ 9223372036854775807 ∧ (span_Decode.s ((a2 ++ x9.1) ++ a3) (a2.size : Int) (IntKind.wrap .i64 ((a2.size : Int) + (x9.1.size : Int))) a0_0 a0_1 a0_2 a0_3 a0_4 a0_5 a0_6 a0_7 a0_8 a0_9 a0_10 a0_11 a0_12 a0_13 a0_14 a0_15 a0_16 a0_17 a0_18 a0_19 a0_20 a0_21 a0_22 H14 (fun x17 H18 => Pv [b1] H14 H18 ∧ (Gn [] H18 (fun (b20 : Nat) (H22 : Hp) => Join (fun (s24 : Bool) (H25 : Hp) => if s24 = true then (Q false H25) else (if ((a3.size : Int) == 0) = true then (Q true H25) else (x9.1.size + a3.size ≤ 9223372036854775807 ∧ (span_Decode.s (x9.1 ++ a3) 0 (IntKind.wrap .i64 ((x9.1.size : Int) + 1)) a0_0 a0_1 a0_2 a0_3 a0_4 a0_5 a0_6 a0_7 a0_8 a0_9 a0_10 a0_11 a0_12 a0_13 a0_14 a0_15 a0_16 a0_17 a0_18 a0_19 a0_20 a0_21 a0_22 H25 (fun x27 H28 => Pv [b1, b20] H25 H28 ∧ (Gn [] H28 (fun (b30 : Nat) (H32 : Hp) => if (x27.2.2.2.2 == 0) = true then (if (x27.1 == 3) = true then (if (x27.2.1 == a0_22) = true then (if (x27.2.2.1 == x17.2.2.1) = true then (Q ((x27.2.2.2.1.n : Int) == 0) H32) else (Q false H32)) else (Q false H32)) else (Q false H32)) else (Q false H32)))))))) (fun (J23 : Bool → Hp → Prop) => if (x17.2.2.2.2 != 0) = true then (J23 (true) H22) else (if (x17.1 != 1) = true then (J23 (true) H22) else (if (x17.2.1 != a0_22) = true then (J23 (true) H22) else (mosaiclaw17_same.s x17.2.2.2.1 a1 H22 (fun x33 H34 => Pv [b1, b20] H22 H34 ∧ (J23 ((!x33)) H34))))))))))))) (fun (J12 : Bool → Hp → Prop) => if (!x3) = true then (J12 (true) H10) else (J12 ((!x9.2)) H10)))))) (fun (J6 : Bool → Hp → Prop) => span_Check.s a0_0 a0_1 a0_2 a0_3 a0_4 a0_5 a0_6 a0_7 a0_8 a0_9 a0_10 a0_11 a0_12 a0_13 a0_14 a0_15 a0_16 a0_17 a0_18 a0_19 a0_20 a0_21 a0_22 H4 (fun x36 H37 => Pv [b1] H4 H37 ∧ (if (x36 != 0) = true then (J6 (true) H37) else (mosaiclaw17_large.s a0_0 a0_1 a0_2 a0_3 a0_4 a0_5 a0_6 a0_7 a0_8 a0_9 a0_10 a0_11 a0_12 a0_13 a0_14 a0_15 a0_16 a0_17 a0_18 a0_19 a0_20 a0_21 a0_22 H37 (fun x39 H40 => Pv [b1] H37 H40 ∧ (J6 (x39) H40)))))))))
set_option maxRecDepth 20000 in
set_option maxHeartbeats 4000000 in
theorem mosaiclaw17_SpanBack.calls (a0_0 : Int) (a0_1 : Int) (a0_2 : Int) (a0_3 : Sl) (a0_4 : Sl) (a0_5 : Ints 16) (a0_6 : Sl) (a0_7 : Ints 16) (a0_8 : Sl) (a0_9 : Ints 16) (a0_10 : Sl) (a0_11 : Ints 16) (a0_12 : Sl) (a0_13 : Ints 16) (a0_14 : Sl) (a0_15 : Ints 16) (a0_16 : Sl) (a0_17 : Ints 16) (a0_18 : Sl) (a0_19 : Ints 16) (a0_20 : Sl) (a0_21 : Int) (a0_22 : Int) (a1 : Sl) (a2 : ByteArray) (a3 : ByteArray) (w0 : World) (Q : Bool → Hp → Prop) (h : mosaiclaw17_SpanBack.s a0_0 a0_1 a0_2 a0_3 a0_4 a0_5 a0_6 a0_7 a0_8 a0_9 a0_10 a0_11 a0_12 a0_13 a0_14 a0_15 a0_16 a0_17 a0_18 a0_19 a0_20 a0_21 a0_22 a1 a2 a3 w0.heap Q) :
    Ca Try.prog 8 #[.agg (c32 a0_0 a0_1 a0_2 a0_3 a0_4 a0_5 a0_6 a0_7 a0_8 a0_9 a0_10 a0_11 a0_12 a0_13 a0_14 a0_15 a0_16 a0_17 a0_18 a0_19 a0_20 a0_21 a0_22).toArray, .slice a1.a a1.n a1.c, .string a2, .string a3] w0 (Rt mosaiclaw17_SpanBack.enc Q w0) := by
  refine ca_start (c := _) Try.func8 rfl Try.ntmps8 rfl ?_
  have so : Sm w0 w0 := Sm.refl w0
  unfold mosaiclaw17_SpanBack.s at h
  refine wc_prune [(0, .agg (c32 a0_0 a0_1 a0_2 a0_3 a0_4 a0_5 a0_6 a0_7 a0_8 a0_9 a0_10 a0_11 a0_12 a0_13 a0_14 a0_15 a0_16 a0_17 a0_18 a0_19 a0_20 a0_21 a0_22).toArray), (1, .slice a1.a a1.n a1.c), (2, .string a2), (3, .string a3)] ⟨rfl, rfl, rfl, rfl, trivial⟩ (fun f1 => ?_)
  refine wc_seq ?_
  refine wc_region ?_
  refine wl_newT (T := 32) (cs := (c32 a0_0 a0_1 a0_2 a0_3 a0_4 a0_5 a0_6 a0_7 a0_8 a0_9 a0_10 a0_11 a0_12 a0_13 a0_14 a0_15 a0_16 a0_17 a0_18 a0_19 a0_20 a0_21 a0_22)) (ef_box rfl rfl) rfl so ?_; intro b1 w2 hb_b1 t_b1 k_b1 so
  have g_b1 := Nat.le_of_eq hb_b1.symm
  have hc := k_b1.ch (F := [])
  refine wl_val (at_assign rfl) rfl ?_
  refine wl_nil ?_
  refine wk_prune [(1, .slice a1.a a1.n a1.c), (2, .string a2), (3, .string a3), (4, .pointer (some (⟨b1, 0, none⟩ : Addr)))] ⟨rfl, rfl, rfl, rfl, trivial⟩ (fun f1 => ?_)
  refine wk_then ?_
  refine wc_seq ?_
  refine wc_region ?_
  replace h := h b1 _ hc g_b1 t_b1.lt; clear hc
  refine wl_callF (mosaiclaw17_alive.calls _ _ h) enter11 rfl trivial so ?_; intro x3 w4 h so
  obtain ⟨q5, h⟩ := h
  replace t_b1 := pv_bk q5 t_b1 (by simp)
  refine wl_val (at_assign rfl) rfl ?_
  refine wl_nil ?_
  refine wk_prune [(1, .slice a1.a a1.n a1.c), (2, .string a2), (3, .string a3), (4, .pointer (some (⟨b1, 0, none⟩ : Addr))), (9, .bool x3)] ⟨rfl, rfl, rfl, rfl, rfl, trivial⟩ (fun f1 => ?_)
  refine wk_then ?_
  refine wc_seq ?_
  refine wc_seq ?_
  refine wc_joinG (w0 := w0) (fun (H : Hp) => Bk H b1 32 (c32 a0_0 a0_1 a0_2 a0_3 a0_4 a0_5 a0_6 a0_7 a0_8 a0_9 a0_10 a0_11 a0_12 a0_13 a0_14 a0_15 a0_16 a0_17 a0_18 a0_19 a0_20 a0_21 a0_22) ∧ True) (fun (s7 : Bool) => [(1, .slice a1.a a1.n a1.c), (2, .string a2), (3, .string a3), (4, .pointer (some (⟨b1, 0, none⟩ : Addr))), (9, .bool x3), (23, .bool s7)]) (fun (s7 : Bool) => []) h ?_ ?_
  · rintro s7 w8 f1 h ⟨t_b1, _⟩ so; refine wk_then ?_
    refine wc_cond rfl h (fun h => ?_) (fun h => ?_)
    · refine wc_seq ?_
      refine wc_region ?_
      refine wl_val (at_move rfl) rfl ?_
      refine wl_val (at_assign rfl) rfl ?_
      refine wl_nil ?_
      refine wk_prune [(8, .bool x3)] ⟨rfl, trivial⟩ (fun f1 => ?_)
      refine wk_then ?_
      refine wc_ret ?_
      refine wk_thenR ?_
      exact wk_ret1 (x := x3) rfl (by decide) rfl so h
    · refine wc_skip ?_
      refine wk_prune [(1, .slice a1.a a1.n a1.c), (2, .string a2), (3, .string a3), (4, .pointer (some (⟨b1, 0, none⟩ : Addr))), (9, .bool x3)] ⟨rfl, rfl, rfl, rfl, rfl, trivial⟩ (fun f1 => ?_)
      refine wk_then ?_
      refine wc_seq ?_
      refine wc_region ?_
      refine wl_val (at_loadA (cs := (c32 a0_0 a0_1 a0_2 a0_3 a0_4 a0_5 a0_6 a0_7 a0_8 a0_9 a0_10 a0_11 a0_12 a0_13 a0_14 a0_15 a0_16 a0_17 a0_18 a0_19 a0_20 a0_21 a0_22)) Try.underlying32 rfl (by rw [len32]; exact sz32) rfl (ldA_full t_b1)) rfl ?_
      refine wl_val (at_move rfl) rfl ?_
      refine wl_callF (mosaiclaw17_written.calls _ _ _ _ _ _ _ _ _ _ _ _ _ _ _ _ _ _ _ _ _ _ _ _ _ _ h) enter18 rfl trivial so ?_; intro x9 w10 h so
      obtain ⟨q11, h⟩ := h
      replace t_b1 := pv_bk q11 t_b1 (by simp)
      refine wl_val (at_move rfl) rfl ?_
      refine wl_val (at_extract rfl rfl) rfl ?_
      refine wl_val (at_extract rfl rfl) rfl ?_
      refine wl_val (at_assign rfl) rfl ?_
      refine wl_val (at_assign rfl) rfl ?_
      refine wl_nil ?_
      refine wk_prune [(1, .slice a1.a a1.n a1.c), (2, .string a2), (3, .string a3), (4, .pointer (some (⟨b1, 0, none⟩ : Addr))), (9, .bool x3), (10, .string x9.1), (11, .bool x9.2)] ⟨rfl, rfl, rfl, rfl, rfl, rfl, rfl, trivial⟩ (fun f1 => ?_)
      refine wk_then ?_
      refine wc_seq ?_
      refine wc_seq ?_
      refine wc_joinG (w0 := w0) (fun (H : Hp) => Bk H b1 32 (c32 a0_0 a0_1 a0_2 a0_3 a0_4 a0_5 a0_6 a0_7 a0_8 a0_9 a0_10 a0_11 a0_12 a0_13 a0_14 a0_15 a0_16 a0_17 a0_18 a0_19 a0_20 a0_21 a0_22) ∧ True) (fun (s13 : Bool) => [(1, .slice a1.a a1.n a1.c), (2, .string a2), (3, .string a3), (4, .pointer (some (⟨b1, 0, none⟩ : Addr))), (9, .bool x3), (10, .string x9.1), (36, .bool s13)]) (fun (s13 : Bool) => []) h ?_ ?_
      · rintro s13 w14 f1 h ⟨t_b1, _⟩ so; refine wk_then ?_
        refine wc_cond rfl h (fun h => ?_) (fun h => ?_)
        · refine wc_seq ?_
          refine wc_region ?_
          refine wl_val (at_move rfl) rfl ?_
          refine wl_val (at_assign rfl) rfl ?_
          refine wl_nil ?_
          refine wk_prune [(8, .bool x3)] ⟨rfl, trivial⟩ (fun f1 => ?_)
          refine wk_then ?_
          refine wc_ret ?_
          refine wk_thenR ?_
          exact wk_ret1 (x := x3) rfl (by decide) rfl so h
        · refine wc_skip ?_
          refine wk_prune [(1, .slice a1.a a1.n a1.c), (2, .string a2), (3, .string a3), (4, .pointer (some (⟨b1, 0, none⟩ : Addr))), (10, .string x9.1)] ⟨rfl, rfl, rfl, rfl, rfl, trivial⟩ (fun f1 => ?_)
          refine wk_then ?_
          refine wc_seq ?_
          refine wc_region ?_
          refine wl_val (at_move rfl) rfl ?_
          refine wl_val (at_move rfl) rfl ?_
          obtain ⟨q15, h⟩ := h
          refine wl_val (at_cat rfl rfl q15) rfl ?_
          refine wl_val (at_move rfl) rfl ?_
          obtain ⟨q16, h⟩ := h
          refine wl_val (at_cat rfl rfl q16) rfl ?_
          refine wl_val (at_assign rfl) rfl ?_
          refine wl_nil ?_
          refine wk_prune [(1, .slice a1.a a1.n a1.c), (2, .string a2), (3, .string a3), (4, .pointer (some (⟨b1, 0, none⟩ : Addr))), (10, .string x9.1), (12, .string ((a2 ++ x9.1) ++ a3))] ⟨rfl, rfl, rfl, rfl, rfl, rfl, trivial⟩ (fun f1 => ?_)
          refine wk_then ?_
          refine wc_seq ?_
          refine wc_region ?_
          refine wl_val (at_move rfl) rfl ?_
          refine wl_val (at_move rfl) rfl ?_
          refine wl_val (at_lenS Try.underlying9 rfl) rfl ?_
          refine wl_val (at_move rfl) rfl ?_
          refine wl_val (at_lenS Try.underlying9 rfl) rfl ?_
          refine wl_val (at_move rfl) rfl ?_
          refine wl_val (at_lenS Try.underlying9 rfl) rfl ?_
          refine wl_val (at_add rfl rfl) rfl ?_
          refine wl_val (at_loadA (cs := (c32 a0_0 a0_1 a0_2 a0_3 a0_4 a0_5 a0_6 a0_7 a0_8 a0_9 a0_10 a0_11 a0_12 a0_13 a0_14 a0_15 a0_16 a0_17 a0_18 a0_19 a0_20 a0_21 a0_22)) Try.underlying32 rfl (by rw [len32]; exact sz32) rfl (ldA_full t_b1)) rfl ?_
          refine wl_callF (span_Decode.calls _ _ _ _ _ _ _ _ _ _ _ _ _ _ _ _ _ _ _ _ _ _ _ _ _ _ _ _ h) enter13 rfl trivial so ?_; intro x17 w18 h so
          obtain ⟨q19, h⟩ := h
          replace t_b1 := pv_bk q19 t_b1 (by simp)
          refine wl_val (at_move rfl) rfl ?_
          refine wl_val (at_extract rfl rfl) rfl ?_
          refine wl_val (at_extract rfl rfl) rfl ?_
          refine wl_newT (T := 40) (cs := (c40 0 0 0 ⟨none, 0, 0⟩)) (ef_alloc zero40 rfl) rfl so ?_; intro b20 w21 hb_b20 t_b20 k_b20 so
          have g_b20 := Nat.le_of_eq hb_b20.symm
          have hc := k_b20.ch (F := [])
          have n_b1_b20 : b1 ≠ b20 := fun e => by have := t_b1.lt; omega
          replace t_b1 := t_b1.keep k_b20
          refine wl_stWT (vs := (c40 x17.1 x17.2.1 x17.2.2.1 x17.2.2.2.1)) t_b20 (by first | (rw [len40, len40]) | (rw [len40]) | rfl) rfl so (fun q => ef_storeA (p := (⟨b20, 0, none⟩ : Addr)) (cs := (c40 x17.1 x17.2.1 x17.2.2.1 x17.2.2.2.1)) (by rw [len40]; exact sz40) rfl rfl (one40 _ _ _ _) q) ?_; intro w22 t_b20 s_w22 so
          replace t_b1 := t_b1.same s_w22 (n_b1_b20)
          replace hc := ch_same hc s_w22 (.inr g_b20)
          refine wl_val (at_assign rfl) rfl ?_
          refine wl_nil ?_
          refine wk_prune [(1, .slice a1.a a1.n a1.c), (3, .string a3), (4, .pointer (some (⟨b1, 0, none⟩ : Addr))), (10, .string x9.1), (13, .pointer (some (⟨b20, 0, none⟩ : Addr))), (14, .int .i64 x17.2.2.2.2)] ⟨rfl, rfl, rfl, rfl, rfl, rfl, trivial⟩ (fun f1 => ?_)
          refine wk_then ?_
          refine wc_seq ?_
          replace h := h b20 _ hc g_b20 t_b20.lt; clear hc
          refine wc_seq ?_
          refine wc_joinG (w0 := w0) (fun (H : Hp) => Bk H b1 32 (c32 a0_0 a0_1 a0_2 a0_3 a0_4 a0_5 a0_6 a0_7 a0_8 a0_9 a0_10 a0_11 a0_12 a0_13 a0_14 a0_15 a0_16 a0_17 a0_18 a0_19 a0_20 a0_21 a0_22) ∧ Bk H b20 40 (c40 x17.1 x17.2.1 x17.2.2.1 x17.2.2.2.1) ∧ True) (fun (s24 : Bool) => [(3, .string a3), (4, .pointer (some (⟨b1, 0, none⟩ : Addr))), (10, .string x9.1), (13, .pointer (some (⟨b20, 0, none⟩ : Addr))), (76, .bool s24)]) (fun (s24 : Bool) => []) h ?_ ?_
          · rintro s24 w25 f1 h ⟨t_b1, t_b20, _⟩ so; refine wk_then ?_
            refine wc_cond rfl h (fun h => ?_) (fun h => ?_)
            · refine wc_seq ?_
              refine wc_region ?_
              refine wl_val (at_assign rfl) rfl ?_
              refine wl_nil ?_
              refine wk_prune [(8, .bool false)] ⟨rfl, trivial⟩ (fun f1 => ?_)
              refine wk_then ?_
              refine wc_ret ?_
              refine wk_thenR ?_
              exact wk_ret1 (x := false) rfl (by decide) rfl so h
            · refine wc_skip ?_
              refine wk_prune [(3, .string a3), (4, .pointer (some (⟨b1, 0, none⟩ : Addr))), (10, .string x9.1), (13, .pointer (some (⟨b20, 0, none⟩ : Addr)))] ⟨rfl, rfl, rfl, rfl, trivial⟩ (fun f1 => ?_)
              refine wk_then ?_
              refine wc_seq ?_
              refine wc_seq ?_
              refine wc_region ?_
              refine wl_val (at_move rfl) rfl ?_
              refine wl_val (at_lenS Try.underlying9 rfl) rfl ?_
              refine wl_val (at_eql rfl rfl) rfl ?_
              refine wl_nil ?_
              refine wk_prune [(3, .string a3), (4, .pointer (some (⟨b1, 0, none⟩ : Addr))), (10, .string x9.1), (13, .pointer (some (⟨b20, 0, none⟩ : Addr))), (79, .bool ((a3.size : Int) == 0))] ⟨rfl, rfl, rfl, rfl, rfl, trivial⟩ (fun f1 => ?_)
              refine wk_then ?_
              refine wc_cond rfl h (fun h => ?_) (fun h => ?_)
              · refine wc_seq ?_
                refine wc_region ?_
                refine wl_val (at_assign rfl) rfl ?_
                refine wl_nil ?_
                refine wk_prune [(8, .bool true)] ⟨rfl, trivial⟩ (fun f1 => ?_)
                refine wk_then ?_
                refine wc_ret ?_
                refine wk_thenR ?_
                exact wk_ret1 (x := true) rfl (by decide) rfl so h
              · refine wc_skip ?_
                refine wk_prune [(3, .string a3), (4, .pointer (some (⟨b1, 0, none⟩ : Addr))), (10, .string x9.1), (13, .pointer (some (⟨b20, 0, none⟩ : Addr)))] ⟨rfl, rfl, rfl, rfl, trivial⟩ (fun f1 => ?_)
                refine wk_then ?_
                refine wc_seq ?_
                refine wc_region ?_
                refine wl_val (at_move rfl) rfl ?_
                refine wl_val (at_move rfl) rfl ?_
                obtain ⟨q26, h⟩ := h
                refine wl_val (at_cat rfl rfl q26) rfl ?_
                refine wl_val (at_move rfl) rfl ?_
                refine wl_val (at_lenS Try.underlying9 rfl) rfl ?_
                refine wl_val (at_add rfl rfl) rfl ?_
                refine wl_val (at_loadA (cs := (c32 a0_0 a0_1 a0_2 a0_3 a0_4 a0_5 a0_6 a0_7 a0_8 a0_9 a0_10 a0_11 a0_12 a0_13 a0_14 a0_15 a0_16 a0_17 a0_18 a0_19 a0_20 a0_21 a0_22)) Try.underlying32 rfl (by rw [len32]; exact sz32) rfl (ldA_full t_b1)) rfl ?_
                refine wl_callF (span_Decode.calls _ _ _ _ _ _ _ _ _ _ _ _ _ _ _ _ _ _ _ _ _ _ _ _ _ _ _ _ h) enter13 rfl trivial so ?_; intro x27 w28 h so
                obtain ⟨q29, h⟩ := h
                replace t_b1 := pv_bk q29 t_b1 (by simp)
                replace t_b20 := pv_bk q29 t_b20 (by simp)
                refine wl_val (at_move rfl) rfl ?_
                refine wl_val (at_extract rfl rfl) rfl ?_
                refine wl_val (at_extract rfl rfl) rfl ?_
                refine wl_newT (T := 40) (cs := (c40 0 0 0 ⟨none, 0, 0⟩)) (ef_alloc zero40 rfl) rfl so ?_; intro b30 w31 hb_b30 t_b30 k_b30 so
                have g_b30 := Nat.le_of_eq hb_b30.symm
                have hc := k_b30.ch (F := [])
                have n_b1_b30 : b1 ≠ b30 := fun e => by have := t_b1.lt; omega
                replace t_b1 := t_b1.keep k_b30
                have n_b20_b30 : b20 ≠ b30 := fun e => by have := t_b20.lt; omega
                replace t_b20 := t_b20.keep k_b30
                refine wl_stWT (vs := (c40 x27.1 x27.2.1 x27.2.2.1 x27.2.2.2.1)) t_b30 (by first | (rw [len40, len40]) | (rw [len40]) | rfl) rfl so (fun q => ef_storeA (p := (⟨b30, 0, none⟩ : Addr)) (cs := (c40 x27.1 x27.2.1 x27.2.2.1 x27.2.2.2.1)) (by rw [len40]; exact sz40) rfl rfl (one40 _ _ _ _) q) ?_; intro w32 t_b30 s_w32 so
                replace t_b1 := t_b1.same s_w32 (n_b1_b30)
                replace t_b20 := t_b20.same s_w32 (n_b20_b30)
                replace hc := ch_same hc s_w32 (.inr g_b30)
                refine wl_val (at_assign rfl) rfl ?_
                refine wl_nil ?_
                refine wk_prune [(4, .pointer (some (⟨b1, 0, none⟩ : Addr))), (13, .pointer (some (⟨b20, 0, none⟩ : Addr))), (14, .int .i64 x27.2.2.2.2), (15, .pointer (some (⟨b30, 0, none⟩ : Addr)))] ⟨rfl, rfl, rfl, rfl, trivial⟩ (fun f1 => ?_)
                refine wk_then ?_
                refine wc_seq ?_
                refine wc_region ?_
                refine wl_val (at_move rfl) rfl ?_
                refine wl_val (at_eql rfl rfl) rfl ?_
                refine wl_val (at_move rfl) rfl ?_
                replace h := h b30 _ hc g_b30 t_b30.lt; clear hc
                refine bif_ h (fun hb h => ?_) (fun hb h => ?_)
                · refine wl_set (t := 93) (v := .bool true) (congrArg Value.bool hb) ?_; clear hb
                  refine wl_on (t := 93) rfl (by decide) rfl ?_
                  refine wl_val (at_fieldAddr Try.underlying40 rfl rfl sz37 (by decide) rfl) rfl ?_
                  refine wl_on (t := 93) rfl (by decide) rfl ?_
                  refine wl_val (at_load (v := .int .i8 x27.1) Try.underlying37 rfl rfl ((t_b30.cell 0).trans (by first | rfl | simp [List.getElem?_append, ints_len, bools_len]))) rfl ?_
                  refine wl_on (t := 93) rfl (by decide) rfl ?_
                  refine wl_val (at_eql rfl rfl) rfl ?_
                  refine wl_val (at_pick_t rfl rfl) rfl ?_
                  refine wl_val (at_move rfl) rfl ?_
                  refine bif_ h (fun hb h => ?_) (fun hb h => ?_)
                  · refine wl_set (t := 98) (v := .bool true) (congrArg Value.bool hb) ?_; clear hb
                    refine wl_on (t := 98) rfl (by decide) rfl ?_
                    refine wl_val (at_fieldAddr Try.underlying40 rfl rfl sz3 (by decide) rfl) rfl ?_
                    refine wl_on (t := 98) rfl (by decide) rfl ?_
                    refine wl_val (at_load (v := .int .i64 x27.2.1) Try.underlying3 rfl rfl ((t_b30.cell 1).trans (by first | rfl | simp [List.getElem?_append, ints_len, bools_len]))) rfl ?_
                    refine wl_on (t := 98) rfl (by decide) rfl ?_
                    refine wl_val (at_fieldAddr Try.underlying32 rfl rfl sz3 (by decide) rfl) rfl ?_
                    refine wl_on (t := 98) rfl (by decide) rfl ?_
                    refine wl_val (at_load (v := .int .i64 a0_22) Try.underlying3 rfl rfl ((t_b1.cell 142).trans (by first | rfl | simp [List.getElem?_append, ints_len, bools_len]))) rfl ?_
                    refine wl_on (t := 98) rfl (by decide) rfl ?_
                    refine wl_val (at_eql rfl rfl) rfl ?_
                    refine wl_val (at_pick_t rfl rfl) rfl ?_
                    refine wl_val (at_move rfl) rfl ?_
                    refine bif_ h (fun hb h => ?_) (fun hb h => ?_)
                    · refine wl_set (t := 105) (v := .bool true) (congrArg Value.bool hb) ?_; clear hb
                      refine wl_on (t := 105) rfl (by decide) rfl ?_
                      refine wl_val (at_fieldAddr Try.underlying40 rfl rfl sz3 (by decide) rfl) rfl ?_
                      refine wl_on (t := 105) rfl (by decide) rfl ?_
                      refine wl_val (at_load (v := .int .i64 x27.2.2.1) Try.underlying3 rfl rfl ((t_b30.cell 2).trans (by first | rfl | simp [List.getElem?_append, ints_len, bools_len]))) rfl ?_
                      refine wl_on (t := 105) rfl (by decide) rfl ?_
                      refine wl_val (at_fieldAddr Try.underlying40 rfl rfl sz3 (by decide) rfl) rfl ?_
                      refine wl_on (t := 105) rfl (by decide) rfl ?_
                      refine wl_val (at_load (v := .int .i64 x17.2.2.1) Try.underlying3 rfl rfl ((t_b20.cell 2).trans (by first | rfl | simp [List.getElem?_append, ints_len, bools_len]))) rfl ?_
                      refine wl_on (t := 105) rfl (by decide) rfl ?_
                      refine wl_val (at_eql rfl rfl) rfl ?_
                      refine wl_val (at_pick_t rfl rfl) rfl ?_
                      refine wl_val (at_move rfl) rfl ?_
                      refine bif_ h (fun hb h => ?_) (fun hb h => ?_)
                      · refine wl_set (t := 112) (v := .bool true) (congrArg Value.bool hb) ?_; clear hb
                        refine wl_on (t := 112) rfl (by decide) rfl ?_
                        refine wl_val (at_fieldAddr Try.underlying40 rfl rfl sz38 (by decide) rfl) rfl ?_
                        refine wl_on (t := 112) rfl (by decide) rfl ?_
                        refine wl_val (at_load (v := .slice x27.2.2.2.1.a x27.2.2.2.1.n x27.2.2.2.1.c) Try.underlying38 rfl rfl ((t_b30.cell 3).trans (by first | rfl | simp [List.getElem?_append, ints_len, bools_len]))) rfl ?_
                        refine wl_on (t := 112) rfl (by decide) rfl ?_
                        refine wl_val (at_lenL Try.underlying38 rfl) rfl ?_
                        refine wl_on (t := 112) rfl (by decide) rfl ?_
                        refine wl_val (at_eql rfl rfl) rfl ?_
                        refine wl_val (at_pick_t rfl rfl) rfl ?_
                        refine wl_val (at_assign rfl) rfl ?_
                        refine wl_nil ?_
                        refine wk_prune [(8, .bool ((x27.2.2.2.1.n : Int) == 0))] ⟨rfl, trivial⟩ (fun f1 => ?_)
                        refine wk_then ?_
                        refine wc_ret ?_
                        exact wk_ret1 (x := ((x27.2.2.2.1.n : Int) == 0)) rfl (by decide) rfl so h
                      · refine wl_set (t := 112) (v := .bool false) (congrArg Value.bool hb) ?_; clear hb
                        refine wl_off (t := 112) rfl (by decide) rfl ?_
                        refine wl_off (t := 112) rfl (by decide) rfl ?_
                        refine wl_off (t := 112) rfl (by decide) rfl ?_
                        refine wl_off (t := 112) rfl (by decide) rfl ?_
                        refine wl_val (at_pick_f rfl rfl) rfl ?_
                        refine wl_val (at_assign rfl) rfl ?_
                        refine wl_nil ?_
                        refine wk_prune [(8, .bool false)] ⟨rfl, trivial⟩ (fun f1 => ?_)
                        refine wk_then ?_
                        refine wc_ret ?_
                        exact wk_ret1 (x := false) rfl (by decide) rfl so h
                    · refine wl_set (t := 105) (v := .bool false) (congrArg Value.bool hb) ?_; clear hb
                      refine wl_off (t := 105) rfl (by decide) rfl ?_
                      refine wl_off (t := 105) rfl (by decide) rfl ?_
                      refine wl_off (t := 105) rfl (by decide) rfl ?_
                      refine wl_off (t := 105) rfl (by decide) rfl ?_
                      refine wl_off (t := 105) rfl (by decide) rfl ?_
                      refine wl_val (at_pick_f rfl rfl) rfl ?_
                      refine wl_val (at_move rfl) rfl ?_
                      refine wl_off (t := 112) rfl (by decide) rfl ?_
                      refine wl_off (t := 112) rfl (by decide) rfl ?_
                      refine wl_off (t := 112) rfl (by decide) rfl ?_
                      refine wl_off (t := 112) rfl (by decide) rfl ?_
                      refine wl_val (at_pick_f rfl rfl) rfl ?_
                      refine wl_val (at_assign rfl) rfl ?_
                      refine wl_nil ?_
                      refine wk_prune [(8, .bool false)] ⟨rfl, trivial⟩ (fun f1 => ?_)
                      refine wk_then ?_
                      refine wc_ret ?_
                      exact wk_ret1 (x := false) rfl (by decide) rfl so h
                  · refine wl_set (t := 98) (v := .bool false) (congrArg Value.bool hb) ?_; clear hb
                    refine wl_off (t := 98) rfl (by decide) rfl ?_
                    refine wl_off (t := 98) rfl (by decide) rfl ?_
                    refine wl_off (t := 98) rfl (by decide) rfl ?_
                    refine wl_off (t := 98) rfl (by decide) rfl ?_
                    refine wl_off (t := 98) rfl (by decide) rfl ?_
                    refine wl_val (at_pick_f rfl rfl) rfl ?_
                    refine wl_val (at_move rfl) rfl ?_
                    refine wl_off (t := 105) rfl (by decide) rfl ?_
                    refine wl_off (t := 105) rfl (by decide) rfl ?_
                    refine wl_off (t := 105) rfl (by decide) rfl ?_
                    refine wl_off (t := 105) rfl (by decide) rfl ?_
                    refine wl_off (t := 105) rfl (by decide) rfl ?_
                    refine wl_val (at_pick_f rfl rfl) rfl ?_
                    refine wl_val (at_move rfl) rfl ?_
                    refine wl_off (t := 112) rfl (by decide) rfl ?_
                    refine wl_off (t := 112) rfl (by decide) rfl ?_
                    refine wl_off (t := 112) rfl (by decide) rfl ?_
                    refine wl_off (t := 112) rfl (by decide) rfl ?_
                    refine wl_val (at_pick_f rfl rfl) rfl ?_
                    refine wl_val (at_assign rfl) rfl ?_
                    refine wl_nil ?_
                    refine wk_prune [(8, .bool false)] ⟨rfl, trivial⟩ (fun f1 => ?_)
                    refine wk_then ?_
                    refine wc_ret ?_
                    exact wk_ret1 (x := false) rfl (by decide) rfl so h
                · refine wl_set (t := 93) (v := .bool false) (congrArg Value.bool hb) ?_; clear hb
                  refine wl_off (t := 93) rfl (by decide) rfl ?_
                  refine wl_off (t := 93) rfl (by decide) rfl ?_
                  refine wl_off (t := 93) rfl (by decide) rfl ?_
                  refine wl_val (at_pick_f rfl rfl) rfl ?_
                  refine wl_val (at_move rfl) rfl ?_
                  refine wl_off (t := 98) rfl (by decide) rfl ?_
                  refine wl_off (t := 98) rfl (by decide) rfl ?_
                  refine wl_off (t := 98) rfl (by decide) rfl ?_
                  refine wl_off (t := 98) rfl (by decide) rfl ?_
                  refine wl_off (t := 98) rfl (by decide) rfl ?_
                  refine wl_val (at_pick_f rfl rfl) rfl ?_
                  refine wl_val (at_move rfl) rfl ?_
                  refine wl_off (t := 105) rfl (by decide) rfl ?_
                  refine wl_off (t := 105) rfl (by decide) rfl ?_
                  refine wl_off (t := 105) rfl (by decide) rfl ?_
                  refine wl_off (t := 105) rfl (by decide) rfl ?_
                  refine wl_off (t := 105) rfl (by decide) rfl ?_
                  refine wl_val (at_pick_f rfl rfl) rfl ?_
                  refine wl_val (at_move rfl) rfl ?_
                  refine wl_off (t := 112) rfl (by decide) rfl ?_
                  refine wl_off (t := 112) rfl (by decide) rfl ?_
                  refine wl_off (t := 112) rfl (by decide) rfl ?_
                  refine wl_off (t := 112) rfl (by decide) rfl ?_
                  refine wl_val (at_pick_f rfl rfl) rfl ?_
                  refine wl_val (at_assign rfl) rfl ?_
                  refine wl_nil ?_
                  refine wk_prune [(8, .bool false)] ⟨rfl, trivial⟩ (fun f1 => ?_)
                  refine wk_then ?_
                  refine wc_ret ?_
                  exact wk_ret1 (x := false) rfl (by decide) rfl so h
          · intro J23 h hJ23
            refine wc_region ?_
            refine wl_val (at_move rfl) rfl ?_
            refine wl_val (at_neq rfl rfl) rfl ?_
            refine wl_val (at_move rfl) rfl ?_
            refine bif_ h (fun hb h => ?_) (fun hb h => ?_)
            · refine wl_set (t := 58) (v := .bool true) (congrArg Value.bool hb) ?_; clear hb
              refine wl_off (t := 58) rfl (by decide) rfl ?_
              refine wl_off (t := 58) rfl (by decide) rfl ?_
              refine wl_off (t := 58) rfl (by decide) rfl ?_
              refine wl_val (at_pick_t rfl rfl) rfl ?_
              refine wl_val (at_move rfl) rfl ?_
              refine wl_off (t := 63) rfl (by decide) rfl ?_
              refine wl_off (t := 63) rfl (by decide) rfl ?_
              refine wl_off (t := 63) rfl (by decide) rfl ?_
              refine wl_off (t := 63) rfl (by decide) rfl ?_
              refine wl_off (t := 63) rfl (by decide) rfl ?_
              refine wl_val (at_pick_t rfl rfl) rfl ?_
              refine wl_val (at_move rfl) rfl ?_
              refine wl_off (t := 70) rfl (by decide) rfl ?_
              refine wl_off (t := 70) rfl (by decide) rfl ?_
              refine wl_off (t := 70) rfl (by decide) rfl ?_
              refine wl_off (t := 70) rfl (by decide) rfl ?_
              refine wl_off (t := 70) rfl (by decide) rfl ?_
              refine wl_val (at_pick_t rfl rfl) rfl ?_
              refine wl_nil ?_
              exact wk_prune [(3, .string a3), (4, .pointer (some (⟨b1, 0, none⟩ : Addr))), (10, .string x9.1), (13, .pointer (some (⟨b20, 0, none⟩ : Addr))), (76, .bool true)] ⟨rfl, rfl, rfl, rfl, rfl, trivial⟩ (fun f1 => hJ23 (true) _ f1 h ⟨t_b1, t_b20, trivial⟩ so)
            · refine wl_set (t := 58) (v := .bool false) (congrArg Value.bool hb) ?_; clear hb
              refine wl_on (t := 58) rfl (by decide) rfl ?_
              refine wl_val (at_fieldAddr Try.underlying40 rfl rfl sz37 (by decide) rfl) rfl ?_
              refine wl_on (t := 58) rfl (by decide) rfl ?_
              refine wl_val (at_load (v := .int .i8 x17.1) Try.underlying37 rfl rfl ((t_b20.cell 0).trans (by first | rfl | simp [List.getElem?_append, ints_len, bools_len]))) rfl ?_
              refine wl_on (t := 58) rfl (by decide) rfl ?_
              refine wl_val (at_neq rfl rfl) rfl ?_
              refine wl_val (at_pick_f rfl rfl) rfl ?_
              refine wl_val (at_move rfl) rfl ?_
              refine bif_ h (fun hb h => ?_) (fun hb h => ?_)
              · refine wl_set (t := 63) (v := .bool true) (congrArg Value.bool hb) ?_; clear hb
                refine wl_off (t := 63) rfl (by decide) rfl ?_
                refine wl_off (t := 63) rfl (by decide) rfl ?_
                refine wl_off (t := 63) rfl (by decide) rfl ?_
                refine wl_off (t := 63) rfl (by decide) rfl ?_
                refine wl_off (t := 63) rfl (by decide) rfl ?_
                refine wl_val (at_pick_t rfl rfl) rfl ?_
                refine wl_val (at_move rfl) rfl ?_
                refine wl_off (t := 70) rfl (by decide) rfl ?_
                refine wl_off (t := 70) rfl (by decide) rfl ?_
                refine wl_off (t := 70) rfl (by decide) rfl ?_
                refine wl_off (t := 70) rfl (by decide) rfl ?_
                refine wl_off (t := 70) rfl (by decide) rfl ?_
                refine wl_val (at_pick_t rfl rfl) rfl ?_
                refine wl_nil ?_
                exact wk_prune [(3, .string a3), (4, .pointer (some (⟨b1, 0, none⟩ : Addr))), (10, .string x9.1), (13, .pointer (some (⟨b20, 0, none⟩ : Addr))), (76, .bool true)] ⟨rfl, rfl, rfl, rfl, rfl, trivial⟩ (fun f1 => hJ23 (true) _ f1 h ⟨t_b1, t_b20, trivial⟩ so)
              · refine wl_set (t := 63) (v := .bool false) (congrArg Value.bool hb) ?_; clear hb
                refine wl_on (t := 63) rfl (by decide) rfl ?_
                refine wl_val (at_fieldAddr Try.underlying40 rfl rfl sz3 (by decide) rfl) rfl ?_
                refine wl_on (t := 63) rfl (by decide) rfl ?_
                refine wl_val (at_load (v := .int .i64 x17.2.1) Try.underlying3 rfl rfl ((t_b20.cell 1).trans (by first | rfl | simp [List.getElem?_append, ints_len, bools_len]))) rfl ?_
                refine wl_on (t := 63) rfl (by decide) rfl ?_
                refine wl_val (at_fieldAddr Try.underlying32 rfl rfl sz3 (by decide) rfl) rfl ?_
                refine wl_on (t := 63) rfl (by decide) rfl ?_
                refine wl_val (at_load (v := .int .i64 a0_22) Try.underlying3 rfl rfl ((t_b1.cell 142).trans (by first | rfl | simp [List.getElem?_append, ints_len, bools_len]))) rfl ?_
                refine wl_on (t := 63) rfl (by decide) rfl ?_
                refine wl_val (at_neq rfl rfl) rfl ?_
                refine wl_val (at_pick_f rfl rfl) rfl ?_
                refine wl_val (at_move rfl) rfl ?_
                refine bif_ h (fun hb h => ?_) (fun hb h => ?_)
                · refine wl_set (t := 70) (v := .bool true) (congrArg Value.bool hb) ?_; clear hb
                  refine wl_off (t := 70) rfl (by decide) rfl ?_
                  refine wl_off (t := 70) rfl (by decide) rfl ?_
                  refine wl_off (t := 70) rfl (by decide) rfl ?_
                  refine wl_off (t := 70) rfl (by decide) rfl ?_
                  refine wl_off (t := 70) rfl (by decide) rfl ?_
                  refine wl_val (at_pick_t rfl rfl) rfl ?_
                  refine wl_nil ?_
                  exact wk_prune [(3, .string a3), (4, .pointer (some (⟨b1, 0, none⟩ : Addr))), (10, .string x9.1), (13, .pointer (some (⟨b20, 0, none⟩ : Addr))), (76, .bool true)] ⟨rfl, rfl, rfl, rfl, rfl, trivial⟩ (fun f1 => hJ23 (true) _ f1 h ⟨t_b1, t_b20, trivial⟩ so)
                · refine wl_set (t := 70) (v := .bool false) (congrArg Value.bool hb) ?_; clear hb
                  refine wl_on (t := 70) rfl (by decide) rfl ?_
                  refine wl_val (at_fieldAddr Try.underlying40 rfl rfl sz38 (by decide) rfl) rfl ?_
                  refine wl_on (t := 70) rfl (by decide) rfl ?_
                  refine wl_val (at_load (v := .slice x17.2.2.2.1.a x17.2.2.2.1.n x17.2.2.2.1.c) Try.underlying38 rfl rfl ((t_b20.cell 3).trans (by first | rfl | simp [List.getElem?_append, ints_len, bools_len]))) rfl ?_
                  refine wl_on (t := 70) rfl (by decide) rfl ?_
                  refine wl_val (at_move rfl) rfl ?_
                  refine wl_on (t := 70) rfl (by decide) rfl ?_
                  refine wl_callF (mosaiclaw17_same.calls _ _ _ _ h) enter16 rfl trivial so ?_; intro x33 w34 h so
                  obtain ⟨q35, h⟩ := h
                  replace t_b1 := pv_bk q35 t_b1 (by simp)
                  replace t_b20 := pv_bk q35 t_b20 (by simp)
                  refine wl_on (t := 70) rfl (by decide) rfl ?_
                  refine wl_val (at_not rfl) rfl ?_
                  refine wl_val (at_pick_f rfl rfl) rfl ?_
                  refine wl_nil ?_
                  exact wk_prune [(3, .string a3), (4, .pointer (some (⟨b1, 0, none⟩ : Addr))), (10, .string x9.1), (13, .pointer (some (⟨b20, 0, none⟩ : Addr))), (76, .bool (!x33))] ⟨rfl, rfl, rfl, rfl, rfl, trivial⟩ (fun f1 => hJ23 ((!x33)) _ f1 h ⟨t_b1, t_b20, trivial⟩ so)
      · intro J12 h hJ12
        refine wc_region ?_
        refine wl_val (at_move rfl) rfl ?_
        refine wl_val (at_not rfl) rfl ?_
        refine wl_val (at_move rfl) rfl ?_
        refine bif_ h (fun hb h => ?_) (fun hb h => ?_)
        · refine wl_set (t := 33) (v := .bool true) (congrArg Value.bool hb) ?_; clear hb
          refine wl_off (t := 33) rfl (by decide) rfl ?_
          refine wl_off (t := 33) rfl (by decide) rfl ?_
          refine wl_val (at_pick_t rfl rfl) rfl ?_
          refine wl_nil ?_
          exact wk_prune [(1, .slice a1.a a1.n a1.c), (2, .string a2), (3, .string a3), (4, .pointer (some (⟨b1, 0, none⟩ : Addr))), (9, .bool x3), (10, .string x9.1), (36, .bool true)] ⟨rfl, rfl, rfl, rfl, rfl, rfl, rfl, trivial⟩ (fun f1 => hJ12 (true) _ f1 h ⟨t_b1, trivial⟩ so)
        · refine wl_set (t := 33) (v := .bool false) (congrArg Value.bool hb) ?_; clear hb
          refine wl_on (t := 33) rfl (by decide) rfl ?_
          refine wl_val (at_move rfl) rfl ?_
          refine wl_on (t := 33) rfl (by decide) rfl ?_
          refine wl_val (at_not rfl) rfl ?_
          refine wl_val (at_pick_f rfl rfl) rfl ?_
          refine wl_nil ?_
          exact wk_prune [(1, .slice a1.a a1.n a1.c), (2, .string a2), (3, .string a3), (4, .pointer (some (⟨b1, 0, none⟩ : Addr))), (9, .bool x3), (10, .string x9.1), (36, .bool (!x9.2))] ⟨rfl, rfl, rfl, rfl, rfl, rfl, rfl, trivial⟩ (fun f1 => hJ12 ((!x9.2)) _ f1 h ⟨t_b1, trivial⟩ so)
  · intro J6 h hJ6
    refine wc_region ?_
    refine wl_val (at_loadA (cs := (c32 a0_0 a0_1 a0_2 a0_3 a0_4 a0_5 a0_6 a0_7 a0_8 a0_9 a0_10 a0_11 a0_12 a0_13 a0_14 a0_15 a0_16 a0_17 a0_18 a0_19 a0_20 a0_21 a0_22)) Try.underlying32 rfl (by rw [len32]; exact sz32) rfl (ldA_full t_b1)) rfl ?_
    refine wl_callF (span_Check.calls _ _ _ _ _ _ _ _ _ _ _ _ _ _ _ _ _ _ _ _ _ _ _ _ _ h) enter9 rfl trivial so ?_; intro x36 w37 h so
    obtain ⟨q38, h⟩ := h
    replace t_b1 := pv_bk q38 t_b1 (by simp)
    refine wl_val (at_neq rfl rfl) rfl ?_
    refine wl_val (at_move rfl) rfl ?_
    refine bif_ h (fun hb h => ?_) (fun hb h => ?_)
    · refine wl_set (t := 20) (v := .bool true) (congrArg Value.bool hb) ?_; clear hb
      refine wl_off (t := 20) rfl (by decide) rfl ?_
      refine wl_off (t := 20) rfl (by decide) rfl ?_
      refine wl_val (at_pick_t rfl rfl) rfl ?_
      refine wl_nil ?_
      exact wk_prune [(1, .slice a1.a a1.n a1.c), (2, .string a2), (3, .string a3), (4, .pointer (some (⟨b1, 0, none⟩ : Addr))), (9, .bool x3), (23, .bool true)] ⟨rfl, rfl, rfl, rfl, rfl, rfl, trivial⟩ (fun f1 => hJ6 (true) _ f1 h ⟨t_b1, trivial⟩ so)
    · refine wl_set (t := 20) (v := .bool false) (congrArg Value.bool hb) ?_; clear hb
      refine wl_on (t := 20) rfl (by decide) rfl ?_
      refine wl_val (at_loadA (cs := (c32 a0_0 a0_1 a0_2 a0_3 a0_4 a0_5 a0_6 a0_7 a0_8 a0_9 a0_10 a0_11 a0_12 a0_13 a0_14 a0_15 a0_16 a0_17 a0_18 a0_19 a0_20 a0_21 a0_22)) Try.underlying32 rfl (by rw [len32]; exact sz32) rfl (ldA_full t_b1)) rfl ?_
      refine wl_on (t := 20) rfl (by decide) rfl ?_
      refine wl_callF (mosaiclaw17_large.calls _ _ _ _ _ _ _ _ _ _ _ _ _ _ _ _ _ _ _ _ _ _ _ _ _ h) enter12 rfl trivial so ?_; intro x39 w40 h so
      obtain ⟨q41, h⟩ := h
      replace t_b1 := pv_bk q41 t_b1 (by simp)
      refine wl_val (at_pick_f rfl rfl) rfl ?_
      refine wl_nil ?_
      exact wk_prune [(1, .slice a1.a a1.n a1.c), (2, .string a2), (3, .string a3), (4, .pointer (some (⟨b1, 0, none⟩ : Addr))), (9, .bool x3), (23, .bool x39)] ⟨rfl, rfl, rfl, rfl, rfl, rfl, trivial⟩ (fun f1 => hJ6 (x39) _ f1 h ⟨t_b1, trivial⟩ so)
end Go.Proofs.Ytlfdfikgbdgfdaa.G
