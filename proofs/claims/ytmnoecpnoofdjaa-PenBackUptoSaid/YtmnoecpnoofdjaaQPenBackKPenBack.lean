/- Of this text what the row needs. -/
import Derived.Test.YtmnoecpnoofdjaaQPenBackKshelf
import Derived.Test.YtmnoecpnoofdjaaQPenBackKmarker
import Derived.Test.YtmnoecpnoofdjaaQPenBackKmosaiclaw18
import Derived.Test.YtmnoecpnoofdjaaQPenBackKpen
import Derived.Test.YtmnoecpnoofdjaaQPenBackKspan
namespace Go.Proofs.Ytmnoecpnoofdjaa.G
open Go.RowKit
set_option linter.unusedVariables false
set_option maxRecDepth 20000
set_option maxHeartbeats 4000000
set_option linter.unusedSimpArgs false
def mosaiclaw18_PenBack.enc : Bool → Value := fun r => .bool r
def mosaiclaw18_PenBack.s (a0_0 : Int) (a0_1 : Int) (a0_2 : Int) (a0_3 : Sl) (a0_4 : Sl) (a0_5 : Ints 16) (a0_6 : Sl) (a0_7 : Ints 16) (a0_8 : Sl) (a0_9 : Ints 16) (a0_10 : Sl) (a0_11 : Ints 16) (a0_12 : Sl) (a0_13 : Ints 16) (a0_14 : Sl) (a0_15 : Ints 16) (a0_16 : Sl) (a0_17 : Ints 16) (a0_18 : Sl) (a0_19 : Ints 16) (a0_20 : Sl) (a0_21 : Int) (a0_22 : Int) (a1 : Sl) (a2 : ByteArray) (a3 : ByteArray) (H0 : Hp) (Q : Bool → Hp → Prop) : Prop :=
 Gn [] H0 (fun (b1 : Nat) (H2 : Hp) => mosaiclaw18_awake.s H2 (fun x3 H4 => Pv [b1] H2 H4 ∧ (∃ y9 : List Value, y9.length = a1.n * 64 ∧ rdS H4 a1.a y9 ∧ apS H4 ⟨none, 0, 0⟩ 57 64 128 z57.cells a1.n y9 (fun l7 H8 => Pv [b1] H4 H8 ∧ (mosaiclaw18_twin.s a0_0 a0_1 a0_2 a0_3 a0_4 a0_5 a0_6 a0_7 a0_8 a0_9 a0_10 a0_11 a0_12 a0_13 a0_14 a0_15 a0_16 a0_17 a0_18 a0_19 a0_20 a0_21 a0_22 H8 (fun x13 H14 => Pv [b1] H8 H14 ∧ (pen_Encode.s x13.1 x13.2.1 x13.2.2.1 x13.2.2.2.1 x13.2.2.2.2.1 x13.2.2.2.2.2.1 x13.2.2.2.2.2.2.1 x13.2.2.2.2.2.2.2.1 x13.2.2.2.2.2.2.2.2.1 x13.2.2.2.2.2.2.2.2.2.1 x13.2.2.2.2.2.2.2.2.2.2.1 x13.2.2.2.2.2.2.2.2.2.2.2.1 x13.2.2.2.2.2.2.2.2.2.2.2.2.1 x13.2.2.2.2.2.2.2.2.2.2.2.2.2.1 x13.2.2.2.2.2.2.2.2.2.2.2.2.2.2.1 x13.2.2.2.2.2.2.2.2.2.2.2.2.2.2.2.1 x13.2.2.2.2.2.2.2.2.2.2.2.2.2.2.2.2.1 x13.2.2.2.2.2.2.2.2.2.2.2.2.2.2.2.2.2.1 x13.2.2.2.2.2.2.2.2.2.2.2.2.2.2.2.2.2.2.1 x13.2.2.2.2.2.2.2.2.2.2.2.2.2.2.2.2.2.2.2.1 x13.2.2.2.2.2.2.2.2.2.2.2.2.2.2.2.2.2.2.2.2.1 x13.2.2.2.2.2.2.2.2.2.2.2.2.2.2.2.2.2.2.2.2.2.1 x13.2.2.2.2.2.2.2.2.2.2.2.2.2.2.2.2.2.2.2.2.2.2 l7 H14 (fun x16 H17 => Pv [b1] H14 H17 ∧ (if (x16.2 != 0) = true then (Join (fun (s20 : Bool) (H21 : Hp) => Q s20 H21) (fun (J19 : Bool → Hp → Prop) => if x3 = true then (J19 ((x16.1.toList == (⟨#[]⟩ : ByteArray).toList)) H17) else (J19 (false) H17))) else (a2.size + x16.1.size ≤ 9223372036854775807 ∧ ((a2 ++ x16.1).size + a3.size ≤ 9223372036854775807 ∧ (mosaiclaw18_twin.s a0_0 a0_1 a0_2 a0_3 a0_4 a0_5 a0_6 a0_7 a0_8 a0_9 a0_10 a0_11 a0_12 a0_13 a0_14 a0_15 a0_16 a0_17 a0_18 a0_19 a0_20 a0_21 a0_22 H17 (fun x24 H25 => Pv [b1] H17 H25 ∧ (span_Decode.s ((a2 ++ x16.1) ++ a3) (a2.size : Int) (IntKind.wrap .i64 ((a2.size : Int) + (x16.1.size : Int))) x24.1 x24.2.1 x24.2.2.1 x24.2.2.2.1 x24.2.2.2.2.1 x24.2.2.2.2.2.1 x24.2.2.2.2.2.2.1 x24.2.2.2.2.2.2.2.1 x24.2.2.2.2.2.2.2.2.1 x24.2.2.2.2.2.2.2.2.2.1 x24.2.2.2.2.2.2.2.2.2.2.1 x24.2.2.2.2.2.2.2.2.2.2.2.1 x24.2.2.2.2.2.2.2.2.2.2.2.2.1 x24.2.2.2.2.2.2.2.2.2.2.2.2.2.1 x24.2.2.2.2.2.2.2.2.2.2.2.2.2.2.1 x24.2.2.2.2.2.2.2.2.2.2.2.2.2.2.2.1 x24.2.2.2.2.2.2.2.2.2.2.2.2.2.2.2.2.1 x24.2.2.2.2.2.2.2.2.2.2.2.2.2.2.2.2.2.1 x24.2.2.2.2.2.2.2.2.2.2.2.2.2.2.2.2.2.2.1 x24.2.2.2.2.2.2.2.2.2.2.2.2.2.2.2.2.2.2.2.1 x24.2.2.2.2.2.2.2.2.2.2.2.2.2.2.2.2.2.2.2.2.1 x24.2.2.2.2.2.2.2.2.2.2.2.2.2.2.2.2.2.2.2.2.2.1 x24.2.2.2.2.2.2.2.2.2.2.2.2.2.2.2.2.2.2.2.2.2.2 H25 (fun x27 H28 => Pv [b1] H25 H28 ∧ (Gn [] H28 (fun (b30 : Nat) (H32 : Hp) => if x3 = true then (marker_Free.s x16.1 H32 (fun x33 H34 => Pv [b1, b30] H32 H34 ∧ (if x33 = true then (if (x27.2.2.2.2 == 0) = true then (if (x27.1 == 1) = true then (if (x27.2.1 == a0_22) = true then (mosaiclaw18_sameBlocks.s x27.2.2.2.1 a1 H34 (fun x36 H37 => Q x36 H37)) else (Q false H34)) else (Q false H34)) else (Q false H34)) else (Q false H34)))) else (Q false H32))))))))))))))))))
theorem mosaiclaw18_PenBack.calls (a0_0 : Int) (a0_1 : Int) (a0_2 : Int) (a0_3 : Sl) (a0_4 : Sl) (a0_5 : Ints 16) (a0_6 : Sl) (a0_7 : Ints 16) (a0_8 : Sl) (a0_9 : Ints 16) (a0_10 : Sl) (a0_11 : Ints 16) (a0_12 : Sl) (a0_13 : Ints 16) (a0_14 : Sl) (a0_15 : Ints 16) (a0_16 : Sl) (a0_17 : Ints 16) (a0_18 : Sl) (a0_19 : Ints 16) (a0_20 : Sl) (a0_21 : Int) (a0_22 : Int) (a1 : Sl) (a2 : ByteArray) (a3 : ByteArray) (w0 : World) (Q : Bool → Hp → Prop) (h : mosaiclaw18_PenBack.s a0_0 a0_1 a0_2 a0_3 a0_4 a0_5 a0_6 a0_7 a0_8 a0_9 a0_10 a0_11 a0_12 a0_13 a0_14 a0_15 a0_16 a0_17 a0_18 a0_19 a0_20 a0_21 a0_22 a1 a2 a3 w0.heap Q) :
  Ca Try.prog 4 #[.agg (c32 a0_0 a0_1 a0_2 a0_3 a0_4 a0_5 a0_6 a0_7 a0_8 a0_9 a0_10 a0_11 a0_12 a0_13 a0_14 a0_15 a0_16 a0_17 a0_18 a0_19 a0_20 a0_21 a0_22).toArray, .slice a1.a a1.n a1.c, .string a2, .string a3] w0 (Rt mosaiclaw18_PenBack.enc Q w0) := by
 refine ca_start (c := _) Try.func4 rfl Try.ntmps4 rfl ?_
 have so : Sm w0 w0 := Sm.refl w0
 unfold mosaiclaw18_PenBack.s at h
 refine wc_prune [(0, .agg (c32 a0_0 a0_1 a0_2 a0_3 a0_4 a0_5 a0_6 a0_7 a0_8 a0_9 a0_10 a0_11 a0_12 a0_13 a0_14 a0_15 a0_16 a0_17 a0_18 a0_19 a0_20 a0_21 a0_22).toArray), (1, .slice a1.a a1.n a1.c), (2, .string a2), (3, .string a3)] ⟨rfl, rfl, rfl, rfl, trivial⟩ (fun f1 => ?_)
 refine wc_seq (wc_region ?_)
 refine wl_newT (T := 32) (cs := (c32 a0_0 a0_1 a0_2 a0_3 a0_4 a0_5 a0_6 a0_7 a0_8 a0_9 a0_10 a0_11 a0_12 a0_13 a0_14 a0_15 a0_16 a0_17 a0_18 a0_19 a0_20 a0_21 a0_22)) (ef_box rfl rfl) rfl so ?_; intro b1 w2 hb_b1 t_b1 k_b1 so
 have g_b1 := Nat.le_of_eq hb_b1.symm
 have hc := k_b1.ch (F := [])
 refine wl_val (at_assign rfl) rfl (wl_nil (wk_prune [(1, .slice a1.a a1.n a1.c), (2, .string a2), (3, .string a3), (4, .pointer (some (⟨b1, 0, none⟩ : Addr)))] ⟨rfl, rfl, rfl, rfl, trivial⟩ fun f1 => wk_then (wc_seq (wc_region ?_))))
 replace h := h b1 _ hc g_b1 t_b1.lt; clear hc
 refine wl_callF (mosaiclaw18_awake.calls _ _ h) enter5 rfl trivial so ?_; intro x3 w4 h so
 obtain ⟨q5, h⟩ := h
 replace t_b1 := pv_bk q5 t_b1 (by simp)
 refine wl_val (at_assign rfl) rfl (wl_nil (wk_prune [(1, .slice a1.a a1.n a1.c), (2, .string a2), (3, .string a3), (4, .pointer (some (⟨b1, 0, none⟩ : Addr))), (9, .bool x3)] ⟨rfl, rfl, rfl, rfl, rfl, trivial⟩ fun f1 => wk_then (wc_seq (wc_region (wl_val (at_assign rfl) rfl (wl_nil (wk_prune [(1, .slice a1.a a1.n a1.c), (2, .string a2), (3, .string a3), (4, .pointer (some (⟨b1, 0, none⟩ : Addr))), (9, .bool x3), (10, .slice none 0 0)] ⟨rfl, rfl, rfl, rfl, rfl, rfl, trivial⟩ fun f1 => wk_then (wc_seq (wc_region (wl_val (at_move rfl) rfl (wl_val (at_move rfl) rfl ?_)))))))))))
 obtain ⟨i6, i6a, i6b, i6c, i6d⟩ := info57
 obtain ⟨y9, q10, q11, h⟩ := h
 refine wl_ap (fx_append (s := ⟨none, 0, 0⟩) (t := a1) (m := a1.n) (xs := y9) Try.underlying33 Try.underlying33 i6a i6b i6c i6d rfl rfl rfl q10 q11 h) rfl so ?_; intro l7 w8 h so
 obtain ⟨q12, h⟩ := h
 replace t_b1 := pv_bk q12 t_b1 (by simp)
 refine wl_val (at_assign rfl) rfl (wl_nil (wk_prune [(1, .slice a1.a a1.n a1.c), (2, .string a2), (3, .string a3), (4, .pointer (some (⟨b1, 0, none⟩ : Addr))), (9, .bool x3), (10, .slice l7.a l7.n l7.c)] ⟨rfl, rfl, rfl, rfl, rfl, rfl, trivial⟩ fun f1 => wk_then (wc_seq (wc_region ?_))))
 refine wl_val (at_loadA (cs := (c32 a0_0 a0_1 a0_2 a0_3 a0_4 a0_5 a0_6 a0_7 a0_8 a0_9 a0_10 a0_11 a0_12 a0_13 a0_14 a0_15 a0_16 a0_17 a0_18 a0_19 a0_20 a0_21 a0_22)) Try.underlying32 rfl (by rw [len32]; exact sz32) rfl (ldA_full t_b1)) rfl ?_
 refine wl_callF (mosaiclaw18_twin.calls _ _ _ _ _ _ _ _ _ _ _ _ _ _ _ _ _ _ _ _ _ _ _ _ _ h) enter7 rfl trivial so ?_; intro x13 w14 h so
 obtain ⟨q15, h⟩ := h
 replace t_b1 := pv_bk q15 t_b1 (by simp)
 refine wl_val (at_move rfl) rfl ?_
 refine wl_callF (pen_Encode.calls _ _ _ _ _ _ _ _ _ _ _ _ _ _ _ _ _ _ _ _ _ _ _ _ _ _ h) enter6 rfl trivial so ?_; intro x16 w17 h so
 obtain ⟨q18, h⟩ := h
 replace t_b1 := pv_bk q18 t_b1 (by simp)
 refine wl_val (at_move rfl) rfl (wl_val (at_extract rfl rfl) rfl (wl_val (at_extract rfl rfl) rfl (wl_val (at_assign rfl) rfl (wl_val (at_assign rfl) rfl (wl_nil (wk_prune [(1, .slice a1.a a1.n a1.c), (2, .string a2), (3, .string a3), (4, .pointer (some (⟨b1, 0, none⟩ : Addr))), (9, .bool x3), (11, .string x16.1), (12, .int .i64 x16.2)] ⟨rfl, rfl, rfl, rfl, rfl, rfl, rfl, trivial⟩ fun f1 => wk_then (wc_seq (wc_seq (wc_region (wl_val (at_move rfl) rfl (wl_val (at_neq rfl rfl) rfl (wl_nil (wk_prune [(1, .slice a1.a a1.n a1.c), (2, .string a2), (3, .string a3), (4, .pointer (some (⟨b1, 0, none⟩ : Addr))), (9, .bool x3), (11, .string x16.1), (28, .bool (x16.2 != 0))] ⟨rfl, rfl, rfl, rfl, rfl, rfl, rfl, trivial⟩ fun f1 => wk_then (wc_cond rfl h (fun h => ?_) (fun h => ?_)))))))))))))))
 ·refine wc_seq (wc_join (w0 := w0) (fun (s20 : Bool) => [(8, .bool s20)]) h ?_ ?_)
  ·rintro s20 w21 f1 h so; refine wk_then ?_
   exact wc_ret (wk_thenR (wk_ret1 (x := s20) rfl (by decide) rfl so h))
  ·intro J19 h hJ19
   refine wc_region (wl_val (at_move rfl) rfl (wl_val (at_move rfl) rfl (bif_ h (fun hb h => ?_) (fun hb h => ?_))))
   ·refine wl_set (t := 30) (v := .bool true) (congrArg Value.bool hb) ?_; clear hb
    exact wl_on (t := 30) rfl (by decide) rfl (wl_val (at_move rfl) rfl (wl_on (t := 30) rfl (by decide) rfl (wl_val (at_eqlS rfl rfl) rfl (wl_val (at_pick_t rfl rfl) rfl (wl_val (at_assign rfl) rfl (wl_nil (wk_prune [(8, .bool (x16.1.toList == (⟨#[]⟩ : ByteArray).toList))] ⟨rfl, trivial⟩ (fun f1 => hJ19 ((x16.1.toList == (⟨#[]⟩ : ByteArray).toList)) _ f1 h so))))))))
   ·refine wl_set (t := 30) (v := .bool false) (congrArg Value.bool hb) ?_; clear hb
    exact wl_off (t := 30) rfl (by decide) rfl (wl_off (t := 30) rfl (by decide) rfl (wl_val (at_pick_f rfl rfl) rfl (wl_val (at_assign rfl) rfl (wl_nil (wk_prune [(8, .bool false)] ⟨rfl, trivial⟩ (fun f1 => hJ19 (false) _ f1 h so))))))
 ·refine wc_skip (wk_prune [(1, .slice a1.a a1.n a1.c), (2, .string a2), (3, .string a3), (4, .pointer (some (⟨b1, 0, none⟩ : Addr))), (9, .bool x3), (11, .string x16.1)] ⟨rfl, rfl, rfl, rfl, rfl, rfl, trivial⟩ fun f1 => wk_then (wc_seq (wc_region (wl_val (at_move rfl) rfl (wl_val (at_lenS Try.underlying9 rfl) rfl (wl_val (at_assign rfl) rfl (wl_nil (wk_prune [(1, .slice a1.a a1.n a1.c), (2, .string a2), (3, .string a3), (4, .pointer (some (⟨b1, 0, none⟩ : Addr))), (9, .bool x3), (11, .string x16.1), (13, .int .i64 (a2.size : Int))] ⟨rfl, rfl, rfl, rfl, rfl, rfl, rfl, trivial⟩ fun f1 => wk_then (wc_seq (wc_region (wl_val (at_move rfl) rfl (wl_val (at_move rfl) rfl ?_))))))))))))
  obtain ⟨q22, h⟩ := h
  refine wl_val (at_cat rfl rfl q22) rfl (wl_val (at_move rfl) rfl ?_)
  obtain ⟨q23, h⟩ := h
  refine wl_val (at_cat rfl rfl q23) rfl (wl_val (at_move rfl) rfl (wl_val (at_move rfl) rfl (wl_val (at_move rfl) rfl (wl_val (at_lenS Try.underlying9 rfl) rfl (wl_val (at_add rfl rfl) rfl ?_)))))
  refine wl_val (at_loadA (cs := (c32 a0_0 a0_1 a0_2 a0_3 a0_4 a0_5 a0_6 a0_7 a0_8 a0_9 a0_10 a0_11 a0_12 a0_13 a0_14 a0_15 a0_16 a0_17 a0_18 a0_19 a0_20 a0_21 a0_22)) Try.underlying32 rfl (by rw [len32]; exact sz32) rfl (ldA_full t_b1)) rfl ?_
  refine wl_callF (mosaiclaw18_twin.calls _ _ _ _ _ _ _ _ _ _ _ _ _ _ _ _ _ _ _ _ _ _ _ _ _ h) enter7 rfl trivial so ?_; intro x24 w25 h so
  obtain ⟨q26, h⟩ := h
  replace t_b1 := pv_bk q26 t_b1 (by simp)
  refine wl_callF (span_Decode.calls _ _ _ _ _ _ _ _ _ _ _ _ _ _ _ _ _ _ _ _ _ _ _ _ _ _ _ _ h) enter10 rfl trivial so ?_; intro x27 w28 h so
  obtain ⟨q29, h⟩ := h
  replace t_b1 := pv_bk q29 t_b1 (by simp)
  refine wl_val (at_move rfl) rfl (wl_val (at_extract rfl rfl) rfl (wl_val (at_extract rfl rfl) rfl ?_))
  refine wl_newT (T := 48) (cs := (c48 0 0 0 ⟨none, 0, 0⟩)) (ef_alloc zero48 rfl) rfl so ?_; intro b30 w31 hb_b30 t_b30 k_b30 so
  have g_b30 := Nat.le_of_eq hb_b30.symm
  have hc := k_b30.ch (F := [])
  have n_b1_b30 : b1 ≠ b30 := fun e => by have := t_b1.lt; omega
  replace t_b1 := t_b1.keep k_b30
  refine wl_stWT (vs := (c48 x27.1 x27.2.1 x27.2.2.1 x27.2.2.2.1)) t_b30 (by first | (rw [len48, len48]) | (rw [len48]) | rfl) rfl so (fun q => ef_storeA (p := (⟨b30, 0, none⟩ : Addr)) (cs := (c48 x27.1 x27.2.1 x27.2.2.1 x27.2.2.2.1)) (by rw [len48]; exact sz48) rfl rfl (one48 _ _ _ _) q) ?_; intro w32 t_b30 s_w32 so
  replace t_b1 := t_b1.same s_w32 (n_b1_b30)
  replace hc := ch_same hc s_w32 (.inr g_b30)
  refine wl_val (at_assign rfl) rfl (wl_nil (wk_prune [(1, .slice a1.a a1.n a1.c), (4, .pointer (some (⟨b1, 0, none⟩ : Addr))), (9, .bool x3), (11, .string x16.1), (14, .pointer (some (⟨b30, 0, none⟩ : Addr))), (15, .int .i64 x27.2.2.2.2)] ⟨rfl, rfl, rfl, rfl, rfl, rfl, trivial⟩ fun f1 => wk_then (wc_seq (wc_region (wl_val (at_move rfl) rfl (wl_val (at_move rfl) rfl ?_))))))
  replace h := h b30 _ hc g_b30 t_b30.lt; clear hc
  refine bif_ h (fun hb h => ?_) (fun hb h => ?_)
  ·refine wl_set (t := 53) (v := .bool true) (congrArg Value.bool hb) ?_; clear hb
   refine wl_on (t := 53) rfl (by decide) rfl (wl_val (at_move rfl) rfl (wl_on (t := 53) rfl (by decide) rfl ?_))
   refine wl_callF (marker_Free.calls _ _ _ h) enter11 rfl trivial so ?_; intro x33 w34 h so
   obtain ⟨q35, h⟩ := h
   replace t_b1 := pv_bk q35 t_b1 (by simp)
   replace t_b30 := pv_bk q35 t_b30 (by simp)
   refine wl_val (at_pick_t rfl rfl) rfl (wl_val (at_move rfl) rfl (bif_ h (fun hb h => ?_) (fun hb h => ?_)))
   ·refine wl_set (t := 57) (v := .bool true) (congrArg Value.bool hb) ?_; clear hb
    refine wl_on (t := 57) rfl (by decide) rfl (wl_val (at_move rfl) rfl (wl_on (t := 57) rfl (by decide) rfl (wl_val (at_eql rfl rfl) rfl (wl_val (at_pick_t rfl rfl) rfl (wl_val (at_move rfl) rfl (bif_ h (fun hb h => ?_) (fun hb h => ?_)))))))
    ·refine wl_set (t := 61) (v := .bool true) (congrArg Value.bool hb) ?_; clear hb
     refine wl_on (t := 61) rfl (by decide) rfl (wl_val (at_fieldAddr Try.underlying48 rfl rfl sz46 (by decide) rfl) rfl (wl_on (t := 61) rfl (by decide) rfl ?_))
     refine wl_val (at_load (v := .int .i8 x27.1) Try.underlying46 rfl rfl ((t_b30.cell 0).trans (by first | rfl | simp [List.getElem?_append, ints_len, bools_len]))) rfl ?_
     refine wl_on (t := 61) rfl (by decide) rfl (wl_val (at_eql rfl rfl) rfl (wl_val (at_pick_t rfl rfl) rfl (wl_val (at_move rfl) rfl (bif_ h (fun hb h => ?_) (fun hb h => ?_)))))
     ·refine wl_set (t := 66) (v := .bool true) (congrArg Value.bool hb) ?_; clear hb
      refine wl_on (t := 66) rfl (by decide) rfl (wl_val (at_fieldAddr Try.underlying48 rfl rfl sz3 (by decide) rfl) rfl (wl_on (t := 66) rfl (by decide) rfl ?_))
      refine wl_val (at_load (v := .int .i64 x27.2.1) Try.underlying3 rfl rfl ((t_b30.cell 1).trans (by first | rfl | simp [List.getElem?_append, ints_len, bools_len]))) rfl ?_
      refine wl_on (t := 66) rfl (by decide) rfl (wl_val (at_fieldAddr Try.underlying32 rfl rfl sz3 (by decide) rfl) rfl (wl_on (t := 66) rfl (by decide) rfl ?_))
      refine wl_val (at_load (v := .int .i64 a0_22) Try.underlying3 rfl rfl ((t_b1.cell 142).trans (by first | rfl | simp [List.getElem?_append, ints_len, bools_len]))) rfl ?_
      refine wl_on (t := 66) rfl (by decide) rfl (wl_val (at_eql rfl rfl) rfl (wl_val (at_pick_t rfl rfl) rfl (wl_val (at_move rfl) rfl (bif_ h (fun hb h => ?_) (fun hb h => ?_)))))
      ·refine wl_set (t := 73) (v := .bool true) (congrArg Value.bool hb) ?_; clear hb
       refine wl_on (t := 73) rfl (by decide) rfl (wl_val (at_fieldAddr Try.underlying48 rfl rfl sz33 (by decide) rfl) rfl (wl_on (t := 73) rfl (by decide) rfl ?_))
       refine wl_val (at_load (v := .slice x27.2.2.2.1.a x27.2.2.2.1.n x27.2.2.2.1.c) Try.underlying33 rfl rfl ((t_b30.cell 3).trans (by first | rfl | simp [List.getElem?_append, ints_len, bools_len]))) rfl ?_
       refine wl_on (t := 73) rfl (by decide) rfl (wl_val (at_move rfl) rfl (wl_on (t := 73) rfl (by decide) rfl ?_))
       refine wl_callF (mosaiclaw18_sameBlocks.calls _ _ _ _ h) enter12 rfl trivial so ?_; intro x36 w37 h so
       exact wl_val (at_pick_t rfl rfl) rfl (wl_val (at_assign rfl) rfl (wl_nil (wk_prune [(8, .bool x36)] ⟨rfl, trivial⟩ fun f1 => wk_then (wc_ret (wk_ret1 (x := x36) rfl (by decide) rfl so h)))))
      ·refine wl_set (t := 73) (v := .bool false) (congrArg Value.bool hb) ?_; clear hb
       exact wl_off (t := 73) rfl (by decide) rfl (wl_off (t := 73) rfl (by decide) rfl (wl_off (t := 73) rfl (by decide) rfl (wl_off (t := 73) rfl (by decide) rfl (wl_val (at_pick_f rfl rfl) rfl (wl_val (at_assign rfl) rfl (wl_nil (wk_prune [(8, .bool false)] ⟨rfl, trivial⟩ fun f1 => wk_then (wc_ret (wk_ret1 (x := false) rfl (by decide) rfl so h)))))))))
     ·refine wl_set (t := 66) (v := .bool false) (congrArg Value.bool hb) ?_; clear hb
      exact wl_off (t := 66) rfl (by decide) rfl (wl_off (t := 66) rfl (by decide) rfl (wl_off (t := 66) rfl (by decide) rfl (wl_off (t := 66) rfl (by decide) rfl (wl_off (t := 66) rfl (by decide) rfl (wl_val (at_pick_f rfl rfl) rfl (wl_val (at_move rfl) rfl (wl_off (t := 73) rfl (by decide) rfl (wl_off (t := 73) rfl (by decide) rfl (wl_off (t := 73) rfl (by decide) rfl (wl_off (t := 73) rfl (by decide) rfl (wl_val (at_pick_f rfl rfl) rfl (wl_val (at_assign rfl) rfl (wl_nil (wk_prune [(8, .bool false)] ⟨rfl, trivial⟩ fun f1 => wk_then (wc_ret (wk_ret1 (x := false) rfl (by decide) rfl so h))))))))))))))))
    ·refine wl_set (t := 61) (v := .bool false) (congrArg Value.bool hb) ?_; clear hb
     exact wl_off (t := 61) rfl (by decide) rfl (wl_off (t := 61) rfl (by decide) rfl (wl_off (t := 61) rfl (by decide) rfl (wl_val (at_pick_f rfl rfl) rfl (wl_val (at_move rfl) rfl (wl_off (t := 66) rfl (by decide) rfl (wl_off (t := 66) rfl (by decide) rfl (wl_off (t := 66) rfl (by decide) rfl (wl_off (t := 66) rfl (by decide) rfl (wl_off (t := 66) rfl (by decide) rfl (wl_val (at_pick_f rfl rfl) rfl (wl_val (at_move rfl) rfl (wl_off (t := 73) rfl (by decide) rfl (wl_off (t := 73) rfl (by decide) rfl (wl_off (t := 73) rfl (by decide) rfl (wl_off (t := 73) rfl (by decide) rfl (wl_val (at_pick_f rfl rfl) rfl (wl_val (at_assign rfl) rfl (wl_nil (wk_prune [(8, .bool false)] ⟨rfl, trivial⟩ fun f1 => wk_then (wc_ret (wk_ret1 (x := false) rfl (by decide) rfl so h)))))))))))))))))))))
   ·refine wl_set (t := 57) (v := .bool false) (congrArg Value.bool hb) ?_; clear hb
    exact wl_off (t := 57) rfl (by decide) rfl (wl_off (t := 57) rfl (by decide) rfl (wl_val (at_pick_f rfl rfl) rfl (wl_val (at_move rfl) rfl (wl_off (t := 61) rfl (by decide) rfl (wl_off (t := 61) rfl (by decide) rfl (wl_off (t := 61) rfl (by decide) rfl (wl_val (at_pick_f rfl rfl) rfl (wl_val (at_move rfl) rfl (wl_off (t := 66) rfl (by decide) rfl (wl_off (t := 66) rfl (by decide) rfl (wl_off (t := 66) rfl (by decide) rfl (wl_off (t := 66) rfl (by decide) rfl (wl_off (t := 66) rfl (by decide) rfl (wl_val (at_pick_f rfl rfl) rfl (wl_val (at_move rfl) rfl (wl_off (t := 73) rfl (by decide) rfl (wl_off (t := 73) rfl (by decide) rfl (wl_off (t := 73) rfl (by decide) rfl (wl_off (t := 73) rfl (by decide) rfl (wl_val (at_pick_f rfl rfl) rfl (wl_val (at_assign rfl) rfl (wl_nil (wk_prune [(8, .bool false)] ⟨rfl, trivial⟩ fun f1 => wk_then (wc_ret (wk_ret1 (x := false) rfl (by decide) rfl so h)))))))))))))))))))))))))
  ·refine wl_set (t := 53) (v := .bool false) (congrArg Value.bool hb) ?_; clear hb
   exact wl_off (t := 53) rfl (by decide) rfl (wl_off (t := 53) rfl (by decide) rfl (wl_val (at_pick_f rfl rfl) rfl (wl_val (at_move rfl) rfl (wl_off (t := 57) rfl (by decide) rfl (wl_off (t := 57) rfl (by decide) rfl (wl_val (at_pick_f rfl rfl) rfl (wl_val (at_move rfl) rfl (wl_off (t := 61) rfl (by decide) rfl (wl_off (t := 61) rfl (by decide) rfl (wl_off (t := 61) rfl (by decide) rfl (wl_val (at_pick_f rfl rfl) rfl (wl_val (at_move rfl) rfl (wl_off (t := 66) rfl (by decide) rfl (wl_off (t := 66) rfl (by decide) rfl (wl_off (t := 66) rfl (by decide) rfl (wl_off (t := 66) rfl (by decide) rfl (wl_off (t := 66) rfl (by decide) rfl (wl_val (at_pick_f rfl rfl) rfl (wl_val (at_move rfl) rfl (wl_off (t := 73) rfl (by decide) rfl (wl_off (t := 73) rfl (by decide) rfl (wl_off (t := 73) rfl (by decide) rfl (wl_off (t := 73) rfl (by decide) rfl (wl_val (at_pick_f rfl rfl) rfl (wl_val (at_assign rfl) rfl (wl_nil (wk_prune [(8, .bool false)] ⟨rfl, trivial⟩ fun f1 => wk_then (wc_ret (wk_ret1 (x := false) rfl (by decide) rfl so h)))))))))))))))))))))))))))))
end Go.Proofs.Ytmnoecpnoofdjaa.G
