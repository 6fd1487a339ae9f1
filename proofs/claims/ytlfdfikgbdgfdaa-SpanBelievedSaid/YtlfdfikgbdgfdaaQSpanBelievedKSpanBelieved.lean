/- Of this text what the row needs. -/
import Derived.Test.YtlfdfikgbdgfdaaQSpanBelievedGF
import Derived.Test.YtlfdfikgbdgfdaaQSpanBelievedKbits
import Derived.Test.YtlfdfikgbdgfdaaQSpanBelievedKgeom
import Derived.Test.YtlfdfikgbdgfdaaQSpanBelievedKmosaiclaw17
import Derived.Test.YtlfdfikgbdgfdaaQSpanBelievedKspan
namespace Go.Proofs.Ytlfdfikgbdgfdaa.G
open Go.RowKit
set_option linter.unusedVariables false
set_option linter.unusedSimpArgs false
def mosaiclaw17_SpanBelieved.enc : Bool → Value := fun r => .bool r
def mosaiclaw17_SpanBelieved.s (a0 : ByteArray) (a1 : Int) (a2 : Int) (a3_0 : Int) (a3_1 : Int) (a3_2 : Int) (a3_3 : Sl) (a3_4 : Sl) (a3_5 : Ints 16) (a3_6 : Sl) (a3_7 : Ints 16) (a3_8 : Sl) (a3_9 : Ints 16) (a3_10 : Sl) (a3_11 : Ints 16) (a3_12 : Sl) (a3_13 : Ints 16) (a3_14 : Sl) (a3_15 : Ints 16) (a3_16 : Sl) (a3_17 : Ints 16) (a3_18 : Sl) (a3_19 : Ints 16) (a3_20 : Sl) (a3_21 : Int) (a3_22 : Int) (H0 : Hp) (Q : Bool → Hp → Prop) : Prop :=
  Gn [] H0 (fun (b1 : Nat) (H2 : Hp) => mosaiclaw17_alive.s H2 (fun x3 H4 => Pv [b1] H2 H4 ∧ (mosaiclaw17_large.s a3_0 a3_1 a3_2 a3_3 a3_4 a3_5 a3_6 a3_7 a3_8 a3_9 a3_10 a3_11 a3_12 a3_13 a3_14 a3_15 a3_16 a3_17 a3_18 a3_19 a3_20 a3_21 a3_22 H4 (fun x6 H7 => Pv [b1] H4 H7 ∧ (if x6 = true then (Q x3 H7) else (span_Decode.s a0 a1 a2 a3_0 a3_1 a3_2 a3_3 a3_4 a3_5 a3_6 a3_7 a3_8 a3_9 a3_10 a3_11 a3_12 a3_13 a3_14 a3_15 a3_16 a3_17 a3_18 a3_19 a3_20 a3_21 a3_22 H7 (fun x10 H11 => Pv [b1] H7 H11 ∧ (Gn [] H11 (fun (b13 : Nat) (H15 : Hp) => Join (fun (s17 : Bool) (H18 : Hp) => if s17 = true then (Q false H18) else (if (x10.2.2.2.2 != 0) = true then (Join (fun (s21 : Bool) (H22 : Hp) => Q s21 H22) (fun (J20 : Bool → Hp → Prop) => if (x10.1 == 0) = true then (if (x10.2.1 == 0) = true then (if (x10.2.2.1 == 0) = true then (J20 (((x10.2.2.2.1.n : Int) == 0)) H18) else (J20 (false) H18)) else (J20 (false) H18)) else (J20 (false) H18))) else (bits_Open.s a0 a1 a2 H18 (fun x24 H25 => Pv [b1, b13] H18 H25 ∧ (Join (fun (s28 : Bool) (H29 : Hp) => if s28 = true then (Q false H29) else (if (x10.1 != 1) = true then (Join (fun (s32 : Bool) (H33 : Hp) => Q s32 H33) (fun (J31 : Bool → Hp → Prop) => if ((x10.2.2.2.1.n : Int) == 0) = true then (if (x10.1 != 3) = true then (J31 (true) H29) else (J31 ((x10.2.1 == a3_22)) H29)) else (J31 (false) H29))) else (Gn [] H29 (fun (b35 : Nat) (H37 : Hp) => geom_Walk.s a3_0 a3_1 a3_2 a3_3 a3_4 a3_21 a3_22 H37 (fun x38 H39 => Pv [b1, b13, b35] H37 H39 ∧ (Bk H39 b1 32 (c32 a3_0 a3_1 a3_2 a3_3 a3_4 a3_5 a3_6 a3_7 a3_8 a3_9 a3_10 a3_11 a3_12 a3_13 a3_14 a3_15 a3_16 a3_17 a3_18 a3_19 a3_20 a3_21 a3_22) → (Bk H39 b13 40 (c40 x10.1 x10.2.1 x10.2.2.1 x10.2.2.2.1) → (Bk H39 b35 3 [.int .i64 0] → (Rg H39 (fun r41 D49 H44 => geom_Walk_1.s (.func (.yield (D49 + 1)) #[] #[]) (fun (x45 : Int × Int × Int × Int × Bool) (H47 : Hp) (K46 : Bool → Hp → Prop) => Lp H47 (D49 + 1) r41 ∧ (Lp H47 (D49 + 1) r41 ∧ Up (putL H47 (D49 + 1) (bsy r41)) (fun H50 => ldI .i64 H50 (⟨b35, 0, none⟩ : Addr) (fun x51 => st H50 (⟨b35, 0, none⟩ : Addr) (.int .i64 (IntKind.wrap .i64 (x51 + 1))) (fun H53 => Lp H53 (D49 + 1) (bsy r41) ∧ K46 true (putL H53 (D49 + 1) r41)))))) x38.1 x38.2.1 x38.2.2.1 x38.2.2.2.1 x38.2.2.2.2 H44 (fun _ H48 => Lp H48 (D49 + 1) r41 ∧ Up (putL H48 (D49 + 1) (exh r41)) (fun H55 => Join (fun (s57 : Bool) (H58 : Hp) => if s57 = true then (tkD (D49 :: []) H58 (fun H59 => Q false H59)) else (∃ k60, Fix (fun (rec65 : Int → Hp → Prop) (s62 : Int) (H63 : Hp) => ldI .i64 H63 (⟨b35, 0, none⟩ : Addr) (fun x66 => if decide (s62 < x66) = true then (∃ k68, Fix (fun (rec73 : Int → Hp → Prop) (s70 : Int) (H71 : Hp) => if decide (s70 < 64) = true then (ldL H71 (⟨b13, 3, none⟩ : Addr) (fun x74 => 0 ≤ s62 ∧ s62 < (x74.n : Int) ∧ someA x74.a (fun p78 => 0 ≤ s70 ∧ s70 < (64 : Int) ∧ (ldI .i16 H71 ((p78.add (Int.toNat s62 * 64)).add (Int.toNat s70 * 1)) (fun x82 => Join (fun (s85 : Bool) (H86 : Hp) => if s85 = true then (tkD (D49 :: []) H86 (fun H87 => Q false H87)) else (rec73 ((IntKind.wrap .i64 (s70 + 1))) H86)) (fun (J84 : Bool → Hp → Prop) => if decide ((1023 : Int) < x82) = true then (J84 (true) H71) else (if decide (x82 < (-1024)) = true then (J84 (true) H71) else (if (x82 == (-1024)) = true then (J84 ((decide ((0 : Int) < s70))) H71) else (J84 (false) H71))))))))) else (rec65 ((IntKind.wrap .i64 (s62 + 1))) H71)) k68 (0) H63) else (tkD (D49 :: []) H63 (fun H88 => Q true H88)))) k60 (0) H58)) (fun (J56 : Bool → Hp → Prop) => ldI .i64 H55 (⟨b35, 0, none⟩ : Addr) (fun x90 => ldL H55 (⟨b13, 3, none⟩ : Addr) (fun x92 => if (x90 != (x92.n : Int)) = true then (J56 (true) H55) else (ldI .i64 H55 (⟨b13, 1, none⟩ : Addr) (fun x94 => ldI .i64 H55 (⟨b1, 142, none⟩ : Addr) (fun x96 => if (x94 != x96) = true then (J56 (true) H55) else (ldI .i64 H55 (⟨b13, 2, none⟩ : Addr) (fun x98 => bits_Source_Left.s x24 H55 (fun x100 H101 => cellAt H101 (⟨b13, 2, none⟩ : Addr) = some (.int .i64 x98) ∧ (J56 ((decide ((7 : Int) < (IntKind.wrap .i64 (x100 - x98))))) H101)))))))))))))))))))))) (fun (J27 : Bool → Hp → Prop) => if x24.isNone = true then (J27 (true) H25) else (if decide (x10.1 < 1) = true then (J27 (true) H25) else (if decide ((4 : Int) < x10.1) = true then (J27 (true) H25) else (bits_Source_Left.s x24 H25 (fun x107 H108 => Pv [b1, b13] H25 H108 ∧ (if decide (x107 < x10.2.2.1) = true then (J27 (true) H108) else (if decide (x10.2.2.1 < 0) = true then (J27 (true) H108) else (if decide (x10.2.1 < 0) = true then (J27 (true) H108) else (J27 ((decide (a3_22 < x10.2.1))) H108)))))))))))))) (fun (J16 : Bool → Hp → Prop) => span_Check.s a3_0 a3_1 a3_2 a3_3 a3_4 a3_5 a3_6 a3_7 a3_8 a3_9 a3_10 a3_11 a3_12 a3_13 a3_14 a3_15 a3_16 a3_17 a3_18 a3_19 a3_20 a3_21 a3_22 H15 (fun x114 H115 => Pv [b1, b13] H15 H115 ∧ (if (x10.2.2.2.2 != x114) = true then (J16 (true) H115) else (J16 ((!x3)) H115)))))))))))))
set_option maxRecDepth 20000 in
set_option maxHeartbeats 4000000 in
theorem mosaiclaw17_SpanBelieved.calls (a0 : ByteArray) (a1 : Int) (a2 : Int) (a3_0 : Int) (a3_1 : Int) (a3_2 : Int) (a3_3 : Sl) (a3_4 : Sl) (a3_5 : Ints 16) (a3_6 : Sl) (a3_7 : Ints 16) (a3_8 : Sl) (a3_9 : Ints 16) (a3_10 : Sl) (a3_11 : Ints 16) (a3_12 : Sl) (a3_13 : Ints 16) (a3_14 : Sl) (a3_15 : Ints 16) (a3_16 : Sl) (a3_17 : Ints 16) (a3_18 : Sl) (a3_19 : Ints 16) (a3_20 : Sl) (a3_21 : Int) (a3_22 : Int) (w0 : World) (Q : Bool → Hp → Prop) (h : mosaiclaw17_SpanBelieved.s a0 a1 a2 a3_0 a3_1 a3_2 a3_3 a3_4 a3_5 a3_6 a3_7 a3_8 a3_9 a3_10 a3_11 a3_12 a3_13 a3_14 a3_15 a3_16 a3_17 a3_18 a3_19 a3_20 a3_21 a3_22 w0.heap Q) :
    Ca Try.prog 7 #[.string a0, .int .i64 a1, .int .i64 a2, .agg (c32 a3_0 a3_1 a3_2 a3_3 a3_4 a3_5 a3_6 a3_7 a3_8 a3_9 a3_10 a3_11 a3_12 a3_13 a3_14 a3_15 a3_16 a3_17 a3_18 a3_19 a3_20 a3_21 a3_22).toArray] w0 (Rt mosaiclaw17_SpanBelieved.enc Q w0) := by
  refine ca_startM (c := _) Try.func7 rfl Try.ntmps7 rfl ?_
  have so : Sm w0 w0 := Sm.refl w0
  unfold mosaiclaw17_SpanBelieved.s at h
  refine wc_prune [(0, .string a0), (1, .int .i64 a1), (2, .int .i64 a2), (3, .agg (c32 a3_0 a3_1 a3_2 a3_3 a3_4 a3_5 a3_6 a3_7 a3_8 a3_9 a3_10 a3_11 a3_12 a3_13 a3_14 a3_15 a3_16 a3_17 a3_18 a3_19 a3_20 a3_21 a3_22).toArray)] ⟨rfl, rfl, rfl, rfl, trivial⟩ (fun f1 => ?_)
  refine wc_seq ?_
  refine wc_region ?_
  refine wl_newT (T := 32) (cs := (c32 a3_0 a3_1 a3_2 a3_3 a3_4 a3_5 a3_6 a3_7 a3_8 a3_9 a3_10 a3_11 a3_12 a3_13 a3_14 a3_15 a3_16 a3_17 a3_18 a3_19 a3_20 a3_21 a3_22)) (ef_box rfl rfl) rfl so ?_; intro b1 w2 hb_b1 t_b1 k_b1 so
  have g_b1 := Nat.le_of_eq hb_b1.symm
  have hc := k_b1.ch (F := [])
  refine wl_val (at_assign rfl) rfl ?_
  refine wl_nil ?_
  refine wk_prune [(0, .string a0), (1, .int .i64 a1), (2, .int .i64 a2), (7, .pointer (some (⟨b1, 0, none⟩ : Addr)))] ⟨rfl, rfl, rfl, rfl, trivial⟩ (fun f1 => ?_)
  refine wk_then ?_
  refine wc_seq ?_
  refine wc_region ?_
  replace h := h b1 _ hc g_b1 t_b1.lt; clear hc
  refine wl_callF (mosaiclaw17_alive.calls _ _ h) enter11 rfl trivial so ?_; intro x3 w4 h so
  obtain ⟨q5, h⟩ := h
  replace t_b1 := pv_bk q5 t_b1 (by simp)
  refine wl_val (at_assign rfl) rfl ?_
  refine wl_nil ?_
  refine wk_prune [(0, .string a0), (1, .int .i64 a1), (2, .int .i64 a2), (7, .pointer (some (⟨b1, 0, none⟩ : Addr))), (9, .bool x3)] ⟨rfl, rfl, rfl, rfl, rfl, trivial⟩ (fun f1 => ?_)
  refine wk_then ?_
  refine wc_seq ?_
  refine wc_seq ?_
  refine wc_region ?_
  refine wl_val (at_loadA (cs := (c32 a3_0 a3_1 a3_2 a3_3 a3_4 a3_5 a3_6 a3_7 a3_8 a3_9 a3_10 a3_11 a3_12 a3_13 a3_14 a3_15 a3_16 a3_17 a3_18 a3_19 a3_20 a3_21 a3_22)) Try.underlying32 rfl (by rw [len32]; exact sz32) rfl (ldA_full t_b1)) rfl ?_
  refine wl_callF (mosaiclaw17_large.calls _ _ _ _ _ _ _ _ _ _ _ _ _ _ _ _ _ _ _ _ _ _ _ _ _ h) enter12 rfl trivial so ?_; intro x6 w7 h so
  obtain ⟨q8, h⟩ := h
  replace t_b1 := pv_bk q8 t_b1 (by simp)
  refine wl_nil ?_
  refine wk_prune [(0, .string a0), (1, .int .i64 a1), (2, .int .i64 a2), (7, .pointer (some (⟨b1, 0, none⟩ : Addr))), (9, .bool x3), (20, .bool x6)] ⟨rfl, rfl, rfl, rfl, rfl, rfl, trivial⟩ (fun f1 => ?_)
  refine wk_then ?_
  refine wc_cond rfl h (fun h => ?_) (fun h => ?_)
  · refine wc_seq ?_
    refine wc_region ?_
    refine wl_val (at_move rfl) rfl ?_
    refine wl_val (at_assign rfl) rfl ?_
    refine wl_nil ?_
    refine wk_prune [(8, .bool x3)] ⟨rfl, trivial⟩ (fun f1 => ?_)
    refine wk_then ?_
    refine wc_ret ?_
    refine wk_thenR ?_
    refine wk_tk (K := fun H => H = w7.heap) (Ds := []) rfl so ?_; intro w9 hw so; rw [← hw] at h; clear hw
    exact wk_ret1 (x := x3) rfl (by decide) rfl so h
  · refine wc_skip ?_
    refine wk_prune [(0, .string a0), (1, .int .i64 a1), (2, .int .i64 a2), (7, .pointer (some (⟨b1, 0, none⟩ : Addr))), (9, .bool x3)] ⟨rfl, rfl, rfl, rfl, rfl, trivial⟩ (fun f1 => ?_)
    refine wk_then ?_
    refine wc_seq ?_
    refine wc_region ?_
    refine wl_val (at_move rfl) rfl ?_
    refine wl_val (at_move rfl) rfl ?_
    refine wl_val (at_move rfl) rfl ?_
    refine wl_val (at_loadA (cs := (c32 a3_0 a3_1 a3_2 a3_3 a3_4 a3_5 a3_6 a3_7 a3_8 a3_9 a3_10 a3_11 a3_12 a3_13 a3_14 a3_15 a3_16 a3_17 a3_18 a3_19 a3_20 a3_21 a3_22)) Try.underlying32 rfl (by rw [len32]; exact sz32) rfl (ldA_full t_b1)) rfl ?_
    refine wl_callF (span_Decode.calls _ _ _ _ _ _ _ _ _ _ _ _ _ _ _ _ _ _ _ _ _ _ _ _ _ _ _ _ h) enter13 rfl trivial so ?_; intro x10 w11 h so
    obtain ⟨q12, h⟩ := h
    replace t_b1 := pv_bk q12 t_b1 (by simp)
    refine wl_val (at_move rfl) rfl ?_
    refine wl_val (at_extract rfl rfl) rfl ?_
    refine wl_val (at_extract rfl rfl) rfl ?_
    refine wl_newT (T := 40) (cs := (c40 0 0 0 ⟨none, 0, 0⟩)) (ef_alloc zero40 rfl) rfl so ?_; intro b13 w14 hb_b13 t_b13 k_b13 so
    have g_b13 := Nat.le_of_eq hb_b13.symm
    have hc := k_b13.ch (F := [])
    have n_b1_b13 : b1 ≠ b13 := fun e => by have := t_b1.lt; omega
    replace t_b1 := t_b1.keep k_b13
    refine wl_stWT (vs := (c40 x10.1 x10.2.1 x10.2.2.1 x10.2.2.2.1)) t_b13 (by first | (rw [len40, len40]) | (rw [len40]) | rfl) rfl so (fun q => ef_storeA (p := (⟨b13, 0, none⟩ : Addr)) (cs := (c40 x10.1 x10.2.1 x10.2.2.1 x10.2.2.2.1)) (by rw [len40]; exact sz40) rfl rfl (one40 _ _ _ _) q) ?_; intro w15 t_b13 s_w15 so
    replace t_b1 := t_b1.same s_w15 (n_b1_b13)
    replace hc := ch_same hc s_w15 (.inr g_b13)
    refine wl_val (at_assign rfl) rfl ?_
    refine wl_nil ?_
    refine wk_prune [(0, .string a0), (1, .int .i64 a1), (2, .int .i64 a2), (7, .pointer (some (⟨b1, 0, none⟩ : Addr))), (9, .bool x3), (10, .pointer (some (⟨b13, 0, none⟩ : Addr))), (11, .int .i64 x10.2.2.2.2)] ⟨rfl, rfl, rfl, rfl, rfl, rfl, rfl, trivial⟩ (fun f1 => ?_)
    refine wk_then ?_
    refine wc_seq ?_
    replace h := h b13 _ hc g_b13 t_b13.lt; clear hc
    refine wc_seq ?_
    refine wc_joinG (w0 := w0) (fun (H : Hp) => Bk H b1 32 (c32 a3_0 a3_1 a3_2 a3_3 a3_4 a3_5 a3_6 a3_7 a3_8 a3_9 a3_10 a3_11 a3_12 a3_13 a3_14 a3_15 a3_16 a3_17 a3_18 a3_19 a3_20 a3_21 a3_22) ∧ Bk H b13 40 (c40 x10.1 x10.2.1 x10.2.2.1 x10.2.2.2.1) ∧ True) (fun (s17 : Bool) => [(0, .string a0), (1, .int .i64 a1), (2, .int .i64 a2), (7, .pointer (some (⟨b1, 0, none⟩ : Addr))), (10, .pointer (some (⟨b13, 0, none⟩ : Addr))), (11, .int .i64 x10.2.2.2.2), (37, .bool s17)]) (fun (s17 : Bool) => (mks [])) h ?_ ?_
    · rintro s17 w18 f1 h ⟨t_b1, t_b13, _⟩ so; refine wk_then ?_
      refine wc_cond rfl h (fun h => ?_) (fun h => ?_)
      · refine wc_seq ?_
        refine wc_region ?_
        refine wl_val (at_assign rfl) rfl ?_
        refine wl_nil ?_
        refine wk_prune [(8, .bool false)] ⟨rfl, trivial⟩ (fun f1 => ?_)
        refine wk_then ?_
        refine wc_ret ?_
        refine wk_thenR ?_
        refine wk_tk (K := fun H => H = w18.heap) (Ds := []) rfl so ?_; intro w19 hw so; rw [← hw] at h; clear hw
        exact wk_ret1 (x := false) rfl (by decide) rfl so h
      · refine wc_skip ?_
        refine wk_prune [(0, .string a0), (1, .int .i64 a1), (2, .int .i64 a2), (7, .pointer (some (⟨b1, 0, none⟩ : Addr))), (10, .pointer (some (⟨b13, 0, none⟩ : Addr))), (11, .int .i64 x10.2.2.2.2)] ⟨rfl, rfl, rfl, rfl, rfl, rfl, trivial⟩ (fun f1 => ?_)
        refine wk_then ?_
        refine wc_seq ?_
        refine wc_seq ?_
        refine wc_region ?_
        refine wl_val (at_move rfl) rfl ?_
        refine wl_val (at_neq rfl rfl) rfl ?_
        refine wl_nil ?_
        refine wk_prune [(0, .string a0), (1, .int .i64 a1), (2, .int .i64 a2), (7, .pointer (some (⟨b1, 0, none⟩ : Addr))), (10, .pointer (some (⟨b13, 0, none⟩ : Addr))), (39, .bool (x10.2.2.2.2 != 0))] ⟨rfl, rfl, rfl, rfl, rfl, rfl, trivial⟩ (fun f1 => ?_)
        refine wk_then ?_
        refine wc_cond rfl h (fun h => ?_) (fun h => ?_)
        · refine wc_seq ?_
          refine wc_join (w0 := w0) (fun (s21 : Bool) => [(8, .bool s21)]) h ?_ ?_
          · rintro s21 w22 f1 h so; refine wk_then ?_
            refine wc_ret ?_
            refine wk_thenR ?_
            refine wk_tk (K := fun H => H = w22.heap) (Ds := []) rfl so ?_; intro w23 hw so; rw [← hw] at h; clear hw
            exact wk_ret1 (x := s21) rfl (by decide) rfl so h
          · intro J20 h hJ20
            refine wc_region ?_
            refine wl_val (at_fieldAddr Try.underlying40 rfl rfl sz37 (by decide) rfl) rfl ?_
            refine wl_val (at_load (v := .int .i8 x10.1) Try.underlying37 rfl rfl ((t_b13.cell 0).trans (by first | rfl | simp [List.getElem?_append, ints_len, bools_len]))) rfl ?_
            refine wl_val (at_eql rfl rfl) rfl ?_
            refine wl_val (at_move rfl) rfl ?_
            refine bif_ h (fun hb h => ?_) (fun hb h => ?_)
            · refine wl_set (t := 43) (v := .bool true) (congrArg Value.bool hb) ?_; clear hb
              refine wl_on (t := 43) rfl (by decide) rfl ?_
              refine wl_val (at_fieldAddr Try.underlying40 rfl rfl sz3 (by decide) rfl) rfl ?_
              refine wl_on (t := 43) rfl (by decide) rfl ?_
              refine wl_val (at_load (v := .int .i64 x10.2.1) Try.underlying3 rfl rfl ((t_b13.cell 1).trans (by first | rfl | simp [List.getElem?_append, ints_len, bools_len]))) rfl ?_
              refine wl_on (t := 43) rfl (by decide) rfl ?_
              refine wl_val (at_eql rfl rfl) rfl ?_
              refine wl_val (at_pick_t rfl rfl) rfl ?_
              refine wl_val (at_move rfl) rfl ?_
              refine bif_ h (fun hb h => ?_) (fun hb h => ?_)
              · refine wl_set (t := 48) (v := .bool true) (congrArg Value.bool hb) ?_; clear hb
                refine wl_on (t := 48) rfl (by decide) rfl ?_
                refine wl_val (at_fieldAddr Try.underlying40 rfl rfl sz3 (by decide) rfl) rfl ?_
                refine wl_on (t := 48) rfl (by decide) rfl ?_
                refine wl_val (at_load (v := .int .i64 x10.2.2.1) Try.underlying3 rfl rfl ((t_b13.cell 2).trans (by first | rfl | simp [List.getElem?_append, ints_len, bools_len]))) rfl ?_
                refine wl_on (t := 48) rfl (by decide) rfl ?_
                refine wl_val (at_eql rfl rfl) rfl ?_
                refine wl_val (at_pick_t rfl rfl) rfl ?_
                refine wl_val (at_move rfl) rfl ?_
                refine bif_ h (fun hb h => ?_) (fun hb h => ?_)
                · refine wl_set (t := 53) (v := .bool true) (congrArg Value.bool hb) ?_; clear hb
                  refine wl_on (t := 53) rfl (by decide) rfl ?_
                  refine wl_val (at_fieldAddr Try.underlying40 rfl rfl sz38 (by decide) rfl) rfl ?_
                  refine wl_on (t := 53) rfl (by decide) rfl ?_
                  refine wl_val (at_load (v := .slice x10.2.2.2.1.a x10.2.2.2.1.n x10.2.2.2.1.c) Try.underlying38 rfl rfl ((t_b13.cell 3).trans (by first | rfl | simp [List.getElem?_append, ints_len, bools_len]))) rfl ?_
                  refine wl_on (t := 53) rfl (by decide) rfl ?_
                  refine wl_val (at_lenL Try.underlying38 rfl) rfl ?_
                  refine wl_on (t := 53) rfl (by decide) rfl ?_
                  refine wl_val (at_eql rfl rfl) rfl ?_
                  refine wl_val (at_pick_t rfl rfl) rfl ?_
                  refine wl_val (at_assign rfl) rfl ?_
                  refine wl_nil ?_
                  exact wk_prune [(8, .bool ((x10.2.2.2.1.n : Int) == 0))] ⟨rfl, trivial⟩ (fun f1 => hJ20 (((x10.2.2.2.1.n : Int) == 0)) _ f1 h so)
                · refine wl_set (t := 53) (v := .bool false) (congrArg Value.bool hb) ?_; clear hb
                  refine wl_off (t := 53) rfl (by decide) rfl ?_
                  refine wl_off (t := 53) rfl (by decide) rfl ?_
                  refine wl_off (t := 53) rfl (by decide) rfl ?_
                  refine wl_off (t := 53) rfl (by decide) rfl ?_
                  refine wl_val (at_pick_f rfl rfl) rfl ?_
                  refine wl_val (at_assign rfl) rfl ?_
                  refine wl_nil ?_
                  exact wk_prune [(8, .bool false)] ⟨rfl, trivial⟩ (fun f1 => hJ20 (false) _ f1 h so)
              · refine wl_set (t := 48) (v := .bool false) (congrArg Value.bool hb) ?_; clear hb
                refine wl_off (t := 48) rfl (by decide) rfl ?_
                refine wl_off (t := 48) rfl (by decide) rfl ?_
                refine wl_off (t := 48) rfl (by decide) rfl ?_
                refine wl_val (at_pick_f rfl rfl) rfl ?_
                refine wl_val (at_move rfl) rfl ?_
                refine wl_off (t := 53) rfl (by decide) rfl ?_
                refine wl_off (t := 53) rfl (by decide) rfl ?_
                refine wl_off (t := 53) rfl (by decide) rfl ?_
                refine wl_off (t := 53) rfl (by decide) rfl ?_
                refine wl_val (at_pick_f rfl rfl) rfl ?_
                refine wl_val (at_assign rfl) rfl ?_
                refine wl_nil ?_
                exact wk_prune [(8, .bool false)] ⟨rfl, trivial⟩ (fun f1 => hJ20 (false) _ f1 h so)
            · refine wl_set (t := 43) (v := .bool false) (congrArg Value.bool hb) ?_; clear hb
              refine wl_off (t := 43) rfl (by decide) rfl ?_
              refine wl_off (t := 43) rfl (by decide) rfl ?_
              refine wl_off (t := 43) rfl (by decide) rfl ?_
              refine wl_val (at_pick_f rfl rfl) rfl ?_
              refine wl_val (at_move rfl) rfl ?_
              refine wl_off (t := 48) rfl (by decide) rfl ?_
              refine wl_off (t := 48) rfl (by decide) rfl ?_
              refine wl_off (t := 48) rfl (by decide) rfl ?_
              refine wl_val (at_pick_f rfl rfl) rfl ?_
              refine wl_val (at_move rfl) rfl ?_
              refine wl_off (t := 53) rfl (by decide) rfl ?_
              refine wl_off (t := 53) rfl (by decide) rfl ?_
              refine wl_off (t := 53) rfl (by decide) rfl ?_
              refine wl_off (t := 53) rfl (by decide) rfl ?_
              refine wl_val (at_pick_f rfl rfl) rfl ?_
              refine wl_val (at_assign rfl) rfl ?_
              refine wl_nil ?_
              exact wk_prune [(8, .bool false)] ⟨rfl, trivial⟩ (fun f1 => hJ20 (false) _ f1 h so)
        · refine wc_skip ?_
          refine wk_prune [(0, .string a0), (1, .int .i64 a1), (2, .int .i64 a2), (7, .pointer (some (⟨b1, 0, none⟩ : Addr))), (10, .pointer (some (⟨b13, 0, none⟩ : Addr)))] ⟨rfl, rfl, rfl, rfl, rfl, trivial⟩ (fun f1 => ?_)
          refine wk_then ?_
          refine wc_seq ?_
          refine wc_region ?_
          refine wl_val (at_move rfl) rfl ?_
          refine wl_val (at_move rfl) rfl ?_
          refine wl_val (at_move rfl) rfl ?_
          refine wl_callF (bits_Open.calls _ _ _ _ _ h) enter14 rfl trivial so ?_; intro x24 w25 h so
          obtain ⟨q26, h⟩ := h
          replace t_b1 := pv_bk q26 t_b1 (by simp)
          replace t_b13 := pv_bk q26 t_b13 (by simp)
          refine wl_val (at_assign rfl) rfl ?_
          refine wl_nil ?_
          refine wk_prune [(7, .pointer (some (⟨b1, 0, none⟩ : Addr))), (10, .pointer (some (⟨b13, 0, none⟩ : Addr))), (12, .pointer x24)] ⟨rfl, rfl, rfl, trivial⟩ (fun f1 => ?_)
          refine wk_then ?_
          refine wc_seq ?_
          refine wc_seq ?_
          refine wc_joinG (w0 := w0) (fun (H : Hp) => Bk H b1 32 (c32 a3_0 a3_1 a3_2 a3_3 a3_4 a3_5 a3_6 a3_7 a3_8 a3_9 a3_10 a3_11 a3_12 a3_13 a3_14 a3_15 a3_16 a3_17 a3_18 a3_19 a3_20 a3_21 a3_22) ∧ Bk H b13 40 (c40 x10.1 x10.2.1 x10.2.2.1 x10.2.2.2.1) ∧ True) (fun (s28 : Bool) => [(7, .pointer (some (⟨b1, 0, none⟩ : Addr))), (10, .pointer (some (⟨b13, 0, none⟩ : Addr))), (12, .pointer x24), (98, .bool s28)]) (fun (s28 : Bool) => (mks [])) h ?_ ?_
          · rintro s28 w29 f1 h ⟨t_b1, t_b13, _⟩ so; refine wk_then ?_
            refine wc_cond rfl h (fun h => ?_) (fun h => ?_)
            · refine wc_seq ?_
              refine wc_region ?_
              refine wl_val (at_assign rfl) rfl ?_
              refine wl_nil ?_
              refine wk_prune [(8, .bool false)] ⟨rfl, trivial⟩ (fun f1 => ?_)
              refine wk_then ?_
              refine wc_ret ?_
              refine wk_thenR ?_
              refine wk_tk (K := fun H => H = w29.heap) (Ds := []) rfl so ?_; intro w30 hw so; rw [← hw] at h; clear hw
              exact wk_ret1 (x := false) rfl (by decide) rfl so h
            · refine wc_skip ?_
              refine wk_prune [(7, .pointer (some (⟨b1, 0, none⟩ : Addr))), (10, .pointer (some (⟨b13, 0, none⟩ : Addr))), (12, .pointer x24)] ⟨rfl, rfl, rfl, trivial⟩ (fun f1 => ?_)
              refine wk_then ?_
              refine wc_seq ?_
              refine wc_seq ?_
              refine wc_region ?_
              refine wl_val (at_fieldAddr Try.underlying40 rfl rfl sz37 (by decide) rfl) rfl ?_
              refine wl_val (at_load (v := .int .i8 x10.1) Try.underlying37 rfl rfl ((t_b13.cell 0).trans (by first | rfl | simp [List.getElem?_append, ints_len, bools_len]))) rfl ?_
              refine wl_val (at_neq rfl rfl) rfl ?_
              refine wl_nil ?_
              refine wk_prune [(7, .pointer (some (⟨b1, 0, none⟩ : Addr))), (10, .pointer (some (⟨b13, 0, none⟩ : Addr))), (12, .pointer x24), (101, .bool (x10.1 != 1))] ⟨rfl, rfl, rfl, rfl, trivial⟩ (fun f1 => ?_)
              refine wk_then ?_
              refine wc_cond rfl h (fun h => ?_) (fun h => ?_)
              · refine wc_seq ?_
                refine wc_join (w0 := w0) (fun (s32 : Bool) => [(8, .bool s32)]) h ?_ ?_
                · rintro s32 w33 f1 h so; refine wk_then ?_
                  refine wc_ret ?_
                  refine wk_thenR ?_
                  refine wk_tk (K := fun H => H = w33.heap) (Ds := []) rfl so ?_; intro w34 hw so; rw [← hw] at h; clear hw
                  exact wk_ret1 (x := s32) rfl (by decide) rfl so h
                · intro J31 h hJ31
                  refine wc_region ?_
                  refine wl_val (at_fieldAddr Try.underlying40 rfl rfl sz38 (by decide) rfl) rfl ?_
                  refine wl_val (at_load (v := .slice x10.2.2.2.1.a x10.2.2.2.1.n x10.2.2.2.1.c) Try.underlying38 rfl rfl ((t_b13.cell 3).trans (by first | rfl | simp [List.getElem?_append, ints_len, bools_len]))) rfl ?_
                  refine wl_val (at_lenL Try.underlying38 rfl) rfl ?_
                  refine wl_val (at_eql rfl rfl) rfl ?_
                  refine wl_val (at_move rfl) rfl ?_
                  refine bif_ h (fun hb h => ?_) (fun hb h => ?_)
                  · refine wl_set (t := 106) (v := .bool true) (congrArg Value.bool hb) ?_; clear hb
                    refine wl_on (t := 106) rfl (by decide) rfl ?_
                    refine wl_val (at_fieldAddr Try.underlying40 rfl rfl sz37 (by decide) rfl) rfl ?_
                    refine wl_on (t := 106) rfl (by decide) rfl ?_
                    refine wl_val (at_load (v := .int .i8 x10.1) Try.underlying37 rfl rfl ((t_b13.cell 0).trans (by first | rfl | simp [List.getElem?_append, ints_len, bools_len]))) rfl ?_
                    refine wl_on (t := 106) rfl (by decide) rfl ?_
                    refine wl_val (at_neq rfl rfl) rfl ?_
                    refine wl_on (t := 106) rfl (by decide) rfl ?_
                    refine wl_val (at_move rfl) rfl ?_
                    refine bif_ h (fun hb h => ?_) (fun hb h => ?_)
                    · refine wl_set (t := 110) (v := .bool true) (congrArg Value.bool hb) ?_; clear hb
                      refine wl_off (t := 110) rfl (by decide) rfl ?_
                      refine wl_off (t := 110) rfl (by decide) rfl ?_
                      refine wl_off (t := 110) rfl (by decide) rfl ?_
                      refine wl_off (t := 110) rfl (by decide) rfl ?_
                      refine wl_off (t := 110) rfl (by decide) rfl ?_
                      refine wl_on (t := 106) rfl (by decide) rfl ?_
                      refine wl_val (at_pick_t rfl rfl) rfl ?_
                      refine wl_val (at_pick_t rfl rfl) rfl ?_
                      refine wl_val (at_assign rfl) rfl ?_
                      refine wl_nil ?_
                      exact wk_prune [(8, .bool true)] ⟨rfl, trivial⟩ (fun f1 => hJ31 (true) _ f1 h so)
                    · refine wl_set (t := 110) (v := .bool false) (congrArg Value.bool hb) ?_; clear hb
                      refine wl_on (t := 110) rfl (by decide) rfl ?_
                      refine wl_val (at_fieldAddr Try.underlying40 rfl rfl sz3 (by decide) rfl) rfl ?_
                      refine wl_on (t := 110) rfl (by decide) rfl ?_
                      refine wl_val (at_load (v := .int .i64 x10.2.1) Try.underlying3 rfl rfl ((t_b13.cell 1).trans (by first | rfl | simp [List.getElem?_append, ints_len, bools_len]))) rfl ?_
                      refine wl_on (t := 110) rfl (by decide) rfl ?_
                      refine wl_val (at_fieldAddr Try.underlying32 rfl rfl sz3 (by decide) rfl) rfl ?_
                      refine wl_on (t := 110) rfl (by decide) rfl ?_
                      refine wl_val (at_load (v := .int .i64 a3_22) Try.underlying3 rfl rfl ((t_b1.cell 142).trans (by first | rfl | simp [List.getElem?_append, ints_len, bools_len]))) rfl ?_
                      refine wl_on (t := 110) rfl (by decide) rfl ?_
                      refine wl_val (at_eql rfl rfl) rfl ?_
                      refine wl_on (t := 106) rfl (by decide) rfl ?_
                      refine wl_val (at_pick_f rfl rfl) rfl ?_
                      refine wl_val (at_pick_t rfl rfl) rfl ?_
                      refine wl_val (at_assign rfl) rfl ?_
                      refine wl_nil ?_
                      exact wk_prune [(8, .bool (x10.2.1 == a3_22))] ⟨rfl, trivial⟩ (fun f1 => hJ31 ((x10.2.1 == a3_22)) _ f1 h so)
                  · refine wl_set (t := 106) (v := .bool false) (congrArg Value.bool hb) ?_; clear hb
                    refine wl_off (t := 106) rfl (by decide) rfl ?_
                    refine wl_off (t := 106) rfl (by decide) rfl ?_
                    refine wl_off (t := 106) rfl (by decide) rfl ?_
                    refine wl_off (t := 106) rfl (by decide) rfl ?_
                    refine wl_off' (t := 110) rfl (by decide) rfl ?_
                    refine wl_off' (t := 110) rfl (by decide) rfl ?_
                    refine wl_off' (t := 110) rfl (by decide) rfl ?_
                    refine wl_off' (t := 110) rfl (by decide) rfl ?_
                    refine wl_off' (t := 110) rfl (by decide) rfl ?_
                    refine wl_off (t := 106) rfl (by decide) rfl ?_
                    refine wl_val (at_pick_f rfl rfl) rfl ?_
                    refine wl_val (at_assign rfl) rfl ?_
                    refine wl_nil ?_
                    exact wk_prune [(8, .bool false)] ⟨rfl, trivial⟩ (fun f1 => hJ31 (false) _ f1 h so)
              · refine wc_skip ?_
                refine wk_prune [(7, .pointer (some (⟨b1, 0, none⟩ : Addr))), (10, .pointer (some (⟨b13, 0, none⟩ : Addr))), (12, .pointer x24)] ⟨rfl, rfl, rfl, trivial⟩ (fun f1 => ?_)
                refine wk_then ?_
                refine wc_seq ?_
                refine wc_region ?_
                refine wl_newT (T := 3) (cs := [.int .i64 0]) (ef_alloc zero3 rfl) rfl so ?_; intro b35 w36 hb_b35 t_b35 k_b35 so
                have g_b35 := Nat.le_of_eq hb_b35.symm
                have hc := k_b35.ch (F := [])
                have n_b1_b35 : b1 ≠ b35 := fun e => by have := t_b1.lt; omega
                replace t_b1 := t_b1.keep k_b35
                have n_b13_b35 : b13 ≠ b35 := fun e => by have := t_b13.lt; omega
                replace t_b13 := t_b13.keep k_b35
                refine wl_stT (v := .int .i64 0) (cs' := [.int .i64 0]) t_b35 (by first | decide | simp [ints_len, bools_len]) (by first | rfl | simp [List.set_append, ints_len, bools_len]) rfl so (fun q1 q2 => ef_store (sz := sz3) rfl rfl rfl q1 q2) ?_; intro w37 t_b35 s_w37 so
                replace t_b1 := t_b1.same s_w37 (n_b1_b35)
                replace t_b13 := t_b13.same s_w37 (n_b13_b35)
                replace hc := ch_same hc s_w37 (.inr g_b35)
                refine wl_nil ?_
                refine wk_prune [(7, .pointer (some (⟨b1, 0, none⟩ : Addr))), (10, .pointer (some (⟨b13, 0, none⟩ : Addr))), (12, .pointer x24), (13, .pointer (some (⟨b35, 0, none⟩ : Addr)))] ⟨rfl, rfl, rfl, rfl, trivial⟩ (fun f1 => ?_)
                refine wk_then ?_
                refine wc_seq ?_
                refine wc_region ?_
                refine wl_val (at_fieldAddr Try.underlying32 rfl rfl sz24 (by decide) rfl) rfl ?_
                refine wl_val (at_loadA (cs := (c24 a3_0 a3_1 a3_2 a3_3)) Try.underlying24 rfl (by rw [len24]; exact sz24) rfl (ldA_sub (pre := []) (sub := (c24 a3_0 a3_1 a3_2 a3_3)) (post := ([.slice a3_4.a a3_4.n a3_4.c] ++ (ints .u8 a3_5.1) ++ [.slice a3_6.a a3_6.n a3_6.c] ++ (ints .u8 a3_7.1) ++ [.slice a3_8.a a3_8.n a3_8.c] ++ (ints .u8 a3_9.1) ++ [.slice a3_10.a a3_10.n a3_10.c] ++ (ints .u8 a3_11.1) ++ [.slice a3_12.a a3_12.n a3_12.c] ++ (ints .u8 a3_13.1) ++ [.slice a3_14.a a3_14.n a3_14.c] ++ (ints .u8 a3_15.1) ++ [.slice a3_16.a a3_16.n a3_16.c] ++ (ints .u8 a3_17.1) ++ [.slice a3_18.a a3_18.n a3_18.c] ++ (ints .u8 a3_19.1) ++ [.slice a3_20.a a3_20.n a3_20.c, .int .i64 a3_21, .int .i64 a3_22])) (by first | exact t_b1 | (have q := t_b1; simp only [List.append_assoc, List.cons_append, List.nil_append, List.append_nil] at q ⊢; exact q)) (by first | rfl | simp [ints_len, bools_len]))) rfl ?_
                refine wl_val (at_fieldAddr Try.underlying32 rfl rfl sz25 (by decide) rfl) rfl ?_
                refine wl_val (at_load (v := .slice a3_4.a a3_4.n a3_4.c) Try.underlying25 rfl rfl ((t_b1.cell 4).trans (by first | rfl | simp [List.getElem?_append, ints_len, bools_len]))) rfl ?_
                refine wl_val (at_fieldAddr Try.underlying32 rfl rfl sz3 (by decide) rfl) rfl ?_
                refine wl_val (at_load (v := .int .i64 a3_21) Try.underlying3 rfl rfl ((t_b1.cell 141).trans (by first | rfl | simp [List.getElem?_append, ints_len, bools_len]))) rfl ?_
                refine wl_val (at_fieldAddr Try.underlying32 rfl rfl sz3 (by decide) rfl) rfl ?_
                refine wl_val (at_load (v := .int .i64 a3_22) Try.underlying3 rfl rfl ((t_b1.cell 142).trans (by first | rfl | simp [List.getElem?_append, ints_len, bools_len]))) rfl ?_
                replace h := h b35 _ hc g_b35 t_b35.lt; clear hc
                refine wl_callF (geom_Walk.calls _ _ _ _ _ _ _ _ _ h) enter17 rfl trivial so ?_; intro x38 w39 h so
                obtain ⟨q40, h⟩ := h
                replace t_b1 := pv_bk q40 t_b1 (by simp)
                replace t_b13 := pv_bk q40 t_b13 (by simp)
                replace t_b35 := pv_bk q40 t_b35 (by simp)
                refine wl_val (at_assign rfl) rfl ?_
                refine wl_nil ?_
                refine wk_prune [(7, .pointer (some (⟨b1, 0, none⟩ : Addr))), (10, .pointer (some (⟨b13, 0, none⟩ : Addr))), (12, .pointer x24), (13, .pointer (some (⟨b35, 0, none⟩ : Addr))), (14, .func (.func 29) #[] #[.pointer (some x38.1), .pointer (some x38.2.1), .pointer (some x38.2.2.1), .pointer (some x38.2.2.2.1), .pointer (some x38.2.2.2.2)])] ⟨rfl, rfl, rfl, rfl, rfl, trivial⟩ (fun f1 => ?_)
                refine wk_then ?_
                refine wc_seq ?_
                refine wc_seq ?_
                refine wc_region ?_
                refine wl_val (at_move rfl) rfl ?_
                refine wl_val (at_eqlNF (v := .func (.func 29) #[] #[.pointer (some x38.1), .pointer (some x38.2.1), .pointer (some x38.2.2.1), .pointer (some x38.2.2.2.1), .pointer (some x38.2.2.2.2)]) Try.underlying50 rfl rfl rfl) rfl ?_
                refine wl_nil ?_
                refine wk_prune [(7, .pointer (some (⟨b1, 0, none⟩ : Addr))), (10, .pointer (some (⟨b13, 0, none⟩ : Addr))), (12, .pointer x24), (13, .pointer (some (⟨b35, 0, none⟩ : Addr))), (14, .func (.func 29) #[] #[.pointer (some x38.1), .pointer (some x38.2.1), .pointer (some x38.2.2.1), .pointer (some x38.2.2.2.1), .pointer (some x38.2.2.2.2)]), (128, .bool false)] ⟨rfl, rfl, rfl, rfl, rfl, rfl, trivial⟩ (fun f1 => ?_)
                refine wk_then ?_
                refine wc_cond_f rfl ?_
                refine wc_skip ?_
                refine wk_prune [(7, .pointer (some (⟨b1, 0, none⟩ : Addr))), (10, .pointer (some (⟨b13, 0, none⟩ : Addr))), (12, .pointer x24), (13, .pointer (some (⟨b35, 0, none⟩ : Addr))), (14, .func (.func 29) #[] #[.pointer (some x38.1), .pointer (some x38.2.1), .pointer (some x38.2.2.1), .pointer (some x38.2.2.2.1), .pointer (some x38.2.2.2.2)])] ⟨rfl, rfl, rfl, rfl, rfl, trivial⟩ (fun f1 => ?_)
                refine wk_then ?_
                refine wc_seq ?_
                refine wc_seq ?_
                refine wc_region ?_
                refine wl_val (at_move rfl) rfl ?_
                refine wl_nil ?_
                refine wk_prune [(7, .pointer (some (⟨b1, 0, none⟩ : Addr))), (10, .pointer (some (⟨b13, 0, none⟩ : Addr))), (12, .pointer x24), (13, .pointer (some (⟨b35, 0, none⟩ : Addr))), (129, .func (.func 29) #[] #[.pointer (some x38.1), .pointer (some x38.2.1), .pointer (some x38.2.2.1), .pointer (some x38.2.2.2.1), .pointer (some x38.2.2.2.2)])] ⟨rfl, rfl, rfl, rfl, rfl, trivial⟩ (fun f1 => ?_)
                refine wk_then ?_
                refine wc_block ?_
                replace h := h t_b1
                replace h := h t_b13
                replace h := h t_b35
                refine wc_prune [(7, .pointer (some (⟨b1, 0, none⟩ : Addr))), (10, .pointer (some (⟨b13, 0, none⟩ : Addr))), (12, .pointer x24), (13, .pointer (some (⟨b35, 0, none⟩ : Addr))), (129, .func (.func 29) #[] #[.pointer (some x38.1), .pointer (some x38.2.1), .pointer (some x38.2.2.1), .pointer (some x38.2.2.2.1), .pointer (some x38.2.2.2.2)])] ⟨rfl, rfl, rfl, rfl, rfl, trivial⟩ (fun f1 => ?_)
                refine wc_rng (caps := [.pointer (some x38.1), .pointer (some x38.2.1), .pointer (some x38.2.2.1), .pointer (some x38.2.2.2.1), .pointer (some x38.2.2.2.2)]) rfl enter29 so h ?_; intro r41 D49 w44 q42 q43 h so
                refine Ca.mono (geom_Walk_1.calls _ _ (yok (ps := [130]) q43 (fun _ => rfl) fun x45 w47 K46 h => ?_) _ _ _ _ _ w44 _ h) ?_
                · refine ⟨h.1, ?_⟩; replace h := h.2; have so := Sm.refl w47; refine wc_prune [(13, .pointer (some (⟨b35, 0, none⟩ : Addr)))] ⟨rfl, trivial⟩ (fun f1 => ?_)
                  refine wc_skip ?_
                  refine wk_prune [(13, .pointer (some (⟨b35, 0, none⟩ : Addr)))] ⟨rfl, trivial⟩ (fun f1 => ?_)
                  refine wk_asg q42 h so ?_; intro w50 h so
                  refine wc_block ?_
                  refine wc_region ?_
                  obtain ⟨x51, q52, h⟩ := h
                  refine wl_val (at_load Try.underlying3 rfl rfl q52) rfl ?_
                  refine wl_val (at_add rfl rfl) rfl ?_
                  refine wl_st (v := .int .i64 (IntKind.wrap .i64 (x51 + 1))) h rfl so (fun q1 q2 => ef_store (sz := sz3) rfl rfl rfl q1 q2) ?_; intro w53 h so
                  refine wl_nil ?_
                  refine wk_blkN ?_
                  exact wk_rdN q42 h so
                · rintro _ w48 ⟨_, rfl, h, q54⟩; replace so := so.trans q54
                  skip
                  · refine rp_none q42 h so ?_; intro w55 h so
                    refine wk_blkN ?_
                    refine wk_prune [(7, .pointer (some (⟨b1, 0, none⟩ : Addr))), (10, .pointer (some (⟨b13, 0, none⟩ : Addr))), (12, .pointer x24), (13, .pointer (some (⟨b35, 0, none⟩ : Addr)))] ⟨rfl, rfl, rfl, rfl, trivial⟩ (fun f1 => ?_)
                    refine wk_then ?_
                    refine wc_seq ?_
                    refine wc_seq ?_
                    refine wc_join (w0 := w0) (fun (s57 : Bool) => [(10, .pointer (some (⟨b13, 0, none⟩ : Addr))), (13, .pointer (some (⟨b35, 0, none⟩ : Addr))), (152, .bool s57)]) h ?_ ?_
                    · rintro s57 w58 f1 h so; refine wk_then ?_
                      refine wc_cond rfl h (fun h => ?_) (fun h => ?_)
                      · refine wc_seq ?_
                        refine wc_region ?_
                        refine wl_val (at_assign rfl) rfl ?_
                        refine wl_nil ?_
                        refine wk_prune [(8, .bool false)] ⟨rfl, trivial⟩ (fun f1 => ?_)
                        refine wk_then ?_
                        refine wc_ret ?_
                        refine wk_thenR ?_
                        refine wk_tk h so ?_; intro w59 h so
                        exact wk_ret1 (x := false) rfl (by decide) rfl so h
                      · refine wc_skip ?_
                        refine wk_prune [(10, .pointer (some (⟨b13, 0, none⟩ : Addr))), (13, .pointer (some (⟨b35, 0, none⟩ : Addr)))] ⟨rfl, rfl, trivial⟩ (fun f1 => ?_)
                        refine wk_then ?_
                        refine wc_seq ?_
                        refine wc_seq ?_
                        refine wc_region ?_
                        refine wl_val (at_assign rfl) rfl ?_
                        refine wl_nil ?_
                        refine wk_prune [(10, .pointer (some (⟨b13, 0, none⟩ : Addr))), (13, .pointer (some (⟨b35, 0, none⟩ : Addr))), (15, .int .i64 0)] ⟨rfl, rfl, rfl, trivial⟩ (fun f1 => ?_)
                        refine wk_then ?_
                        refine wc_block ?_
                        obtain ⟨k60, h⟩ := h
                        refine wc_loop (fun k a w => ∃ (s62 : Int) (f1 : Nat → Value), a = ac 183 (en f1 [(10, .pointer (some (⟨b13, 0, none⟩ : Addr))), (13, .pointer (some (⟨b35, 0, none⟩ : Addr))), (15, .int .i64 s62)]) (mks (D49 :: [])) ∧ Sm w0 w ∧ Fix _ k s62 w.heap) k60 ⟨(0), _, ac_again ⟨rfl, rfl, rfl, trivial⟩, so, h⟩ ?_
                        rintro k61 a64 w63 ⟨s62, f1, rfl, so, h⟩
                        rcases k61 with _ | k61
                        · exact h.elim
                        replace h := Fix.un h; refine wc_in ?_
                        refine wc_seq ?_
                        refine wc_seq ?_
                        refine wc_region ?_
                        refine wl_val (at_move rfl) rfl ?_
                        obtain ⟨x66, q67, h⟩ := h
                        refine wl_val (at_load Try.underlying3 rfl rfl q67) rfl ?_
                        refine wl_val (at_lss rfl rfl) rfl ?_
                        refine wl_nil ?_
                        refine wk_prune [(10, .pointer (some (⟨b13, 0, none⟩ : Addr))), (13, .pointer (some (⟨b35, 0, none⟩ : Addr))), (15, .int .i64 s62), (155, .bool (decide (s62 < x66)))] ⟨rfl, rfl, rfl, rfl, trivial⟩ (fun f1 => ?_)
                        refine wk_then ?_
                        refine wc_cond rfl h (fun h => ?_) (fun h => ?_)
                        · refine wc_skip ?_
                          refine wk_prune [(10, .pointer (some (⟨b13, 0, none⟩ : Addr))), (13, .pointer (some (⟨b35, 0, none⟩ : Addr))), (15, .int .i64 s62)] ⟨rfl, rfl, rfl, trivial⟩ (fun f1 => ?_)
                          refine wk_then ?_
                          refine wc_seq ?_
                          refine wc_block ?_
                          refine wc_seq ?_
                          refine wc_region ?_
                          refine wl_val (at_assign rfl) rfl ?_
                          refine wl_nil ?_
                          refine wk_prune [(10, .pointer (some (⟨b13, 0, none⟩ : Addr))), (13, .pointer (some (⟨b35, 0, none⟩ : Addr))), (15, .int .i64 s62), (16, .int .i64 0)] ⟨rfl, rfl, rfl, rfl, trivial⟩ (fun f1 => ?_)
                          refine wk_then ?_
                          refine wc_block ?_
                          obtain ⟨k68, h⟩ := h
                          refine wc_loop (fun k a w => ∃ (s70 : Int) (f1 : Nat → Value), a = ac 183 (en f1 [(10, .pointer (some (⟨b13, 0, none⟩ : Addr))), (13, .pointer (some (⟨b35, 0, none⟩ : Addr))), (15, .int .i64 s62), (16, .int .i64 s70)]) (mks (D49 :: [])) ∧ Sm w0 w ∧ Fix _ k s70 w.heap) k68 ⟨(0), _, ac_again ⟨rfl, rfl, rfl, rfl, trivial⟩, so, h⟩ ?_
                          rintro k69 a72 w71 ⟨s70, f1, rfl, so, h⟩
                          rcases k69 with _ | k69
                          · exact h.elim
                          replace h := Fix.un h; refine wc_in ?_
                          refine wc_seq ?_
                          refine wc_seq ?_
                          refine wc_region ?_
                          refine wl_val (at_move rfl) rfl ?_
                          refine wl_val (at_lss rfl rfl) rfl ?_
                          refine wl_nil ?_
                          refine wk_prune [(10, .pointer (some (⟨b13, 0, none⟩ : Addr))), (13, .pointer (some (⟨b35, 0, none⟩ : Addr))), (15, .int .i64 s62), (16, .int .i64 s70), (159, .bool (decide (s70 < 64)))] ⟨rfl, rfl, rfl, rfl, rfl, trivial⟩ (fun f1 => ?_)
                          refine wk_then ?_
                          refine wc_cond rfl h (fun h => ?_) (fun h => ?_)
                          · refine wc_skip ?_
                            refine wk_prune [(10, .pointer (some (⟨b13, 0, none⟩ : Addr))), (13, .pointer (some (⟨b35, 0, none⟩ : Addr))), (15, .int .i64 s62), (16, .int .i64 s70)] ⟨rfl, rfl, rfl, rfl, trivial⟩ (fun f1 => ?_)
                            refine wk_then ?_
                            refine wc_seq ?_
                            refine wc_block ?_
                            refine wc_seq ?_
                            refine wc_region ?_
                            refine wl_val (at_fieldAddr Try.underlying40 rfl rfl sz38 (by decide) rfl) rfl ?_
                            obtain ⟨x74, q75, h⟩ := h
                            refine wl_val (at_load Try.underlying38 rfl rfl q75) rfl ?_
                            refine wl_val (at_move rfl) rfl ?_
                            refine wl_val (at_move rfl) rfl ?_
                            obtain ⟨q76, q77, p78, q79, h⟩ := h
                            refine wl_val (at_ixAddrL Try.underlying38 sz54 (sl_some q79) rfl q76 q77) rfl ?_
                            obtain ⟨q80, q81, h⟩ := h
                            refine wl_val (at_ixAddrA Try.underlying54 sz52 rfl rfl q80 q81) rfl ?_
                            obtain ⟨x82, q83, h⟩ := h
                            refine wl_val (at_load Try.underlying52 rfl rfl q83) rfl ?_
                            refine wl_val (at_assign rfl) rfl ?_
                            refine wl_nil ?_
                            refine wk_prune [(10, .pointer (some (⟨b13, 0, none⟩ : Addr))), (13, .pointer (some (⟨b35, 0, none⟩ : Addr))), (15, .int .i64 s62), (16, .int .i64 s70), (17, .int .i16 x82)] ⟨rfl, rfl, rfl, rfl, rfl, trivial⟩ (fun f1 => ?_)
                            refine wk_then ?_
                            refine wc_seq ?_
                            refine wc_join (w0 := w0) (fun (s85 : Bool) => [(10, .pointer (some (⟨b13, 0, none⟩ : Addr))), (13, .pointer (some (⟨b35, 0, none⟩ : Addr))), (15, .int .i64 s62), (16, .int .i64 s70), (182, .bool s85)]) h ?_ ?_
                            · rintro s85 w86 f1 h so; refine wk_then ?_
                              refine wc_cond rfl h (fun h => ?_) (fun h => ?_)
                              · refine wc_seq ?_
                                refine wc_region ?_
                                refine wl_val (at_assign rfl) rfl ?_
                                refine wl_nil ?_
                                refine wk_prune [(8, .bool false)] ⟨rfl, trivial⟩ (fun f1 => ?_)
                                refine wk_then ?_
                                refine wc_ret ?_
                                refine wk_blkR ?_
                                refine wk_thenR ?_
                                refine wk_thenR ?_
                                refine wk_blkR ?_
                                refine wk_blkR ?_
                                refine wk_thenR ?_
                                refine wk_thenR ?_
                                refine wk_blkR ?_
                                refine wk_thenR ?_
                                refine wk_tk h so ?_; intro w87 h so
                                exact wk_ret1 (x := false) rfl (by decide) rfl so h
                              · refine wc_skip ?_
                                refine wk_blkN ?_
                                refine wk_prune [(10, .pointer (some (⟨b13, 0, none⟩ : Addr))), (13, .pointer (some (⟨b35, 0, none⟩ : Addr))), (15, .int .i64 s62), (16, .int .i64 s70)] ⟨rfl, rfl, rfl, rfl, trivial⟩ (fun f1 => ?_)
                                refine wk_then ?_
                                refine wc_region ?_
                                refine wl_val (at_move rfl) rfl ?_
                                refine wl_val (at_add rfl rfl) rfl ?_
                                refine wl_val (at_assign rfl) rfl ?_
                                refine wl_nil ?_
                                exact wk_again ⟨((IntKind.wrap .i64 (s70 + 1))), _, ac_again ⟨rfl, rfl, rfl, rfl, trivial⟩, so, h⟩
                            · intro J84 h hJ84
                              refine wc_region ?_
                              refine wl_val (at_move rfl) rfl ?_
                              refine wl_val (at_gtr rfl rfl) rfl ?_
                              refine wl_val (at_move rfl) rfl ?_
                              refine bif_ h (fun hb h => ?_) (fun hb h => ?_)
                              · refine wl_set (t := 171) (v := .bool true) (congrArg Value.bool hb) ?_; clear hb
                                refine wl_off (t := 171) rfl (by decide) rfl ?_
                                refine wl_off (t := 171) rfl (by decide) rfl ?_
                                refine wl_val (at_pick_t rfl rfl) rfl ?_
                                refine wl_val (at_move rfl) rfl ?_
                                refine wl_off (t := 175) rfl (by decide) rfl ?_
                                refine wl_off (t := 175) rfl (by decide) rfl ?_
                                refine wl_off (t := 175) rfl (by decide) rfl ?_
                                refine wl_off' (t := 178) rfl (by decide) rfl ?_
                                refine wl_off' (t := 178) rfl (by decide) rfl ?_
                                refine wl_off (t := 175) rfl (by decide) rfl ?_
                                refine wl_val (at_pick_t rfl rfl) rfl ?_
                                refine wl_nil ?_
                                exact wk_prune [(10, .pointer (some (⟨b13, 0, none⟩ : Addr))), (13, .pointer (some (⟨b35, 0, none⟩ : Addr))), (15, .int .i64 s62), (16, .int .i64 s70), (182, .bool true)] ⟨rfl, rfl, rfl, rfl, rfl, trivial⟩ (fun f1 => hJ84 (true) _ f1 h so)
                              · refine wl_set (t := 171) (v := .bool false) (congrArg Value.bool hb) ?_; clear hb
                                refine wl_on (t := 171) rfl (by decide) rfl ?_
                                refine wl_val (at_move rfl) rfl ?_
                                refine wl_on (t := 171) rfl (by decide) rfl ?_
                                refine wl_val (at_lss rfl rfl) rfl ?_
                                refine wl_val (at_pick_f rfl rfl) rfl ?_
                                refine wl_val (at_move rfl) rfl ?_
                                refine bif_ h (fun hb h => ?_) (fun hb h => ?_)
                                · refine wl_set (t := 175) (v := .bool true) (congrArg Value.bool hb) ?_; clear hb
                                  refine wl_off (t := 175) rfl (by decide) rfl ?_
                                  refine wl_off (t := 175) rfl (by decide) rfl ?_
                                  refine wl_off (t := 175) rfl (by decide) rfl ?_
                                  refine wl_off' (t := 178) rfl (by decide) rfl ?_
                                  refine wl_off' (t := 178) rfl (by decide) rfl ?_
                                  refine wl_off (t := 175) rfl (by decide) rfl ?_
                                  refine wl_val (at_pick_t rfl rfl) rfl ?_
                                  refine wl_nil ?_
                                  exact wk_prune [(10, .pointer (some (⟨b13, 0, none⟩ : Addr))), (13, .pointer (some (⟨b35, 0, none⟩ : Addr))), (15, .int .i64 s62), (16, .int .i64 s70), (182, .bool true)] ⟨rfl, rfl, rfl, rfl, rfl, trivial⟩ (fun f1 => hJ84 (true) _ f1 h so)
                                · refine wl_set (t := 175) (v := .bool false) (congrArg Value.bool hb) ?_; clear hb
                                  refine wl_on (t := 175) rfl (by decide) rfl ?_
                                  refine wl_val (at_move rfl) rfl ?_
                                  refine wl_on (t := 175) rfl (by decide) rfl ?_
                                  refine wl_val (at_eql rfl rfl) rfl ?_
                                  refine wl_on (t := 175) rfl (by decide) rfl ?_
                                  refine wl_val (at_move rfl) rfl ?_
                                  refine bif_ h (fun hb h => ?_) (fun hb h => ?_)
                                  · refine wl_set (t := 178) (v := .bool true) (congrArg Value.bool hb) ?_; clear hb
                                    refine wl_on (t := 178) rfl (by decide) rfl ?_
                                    refine wl_val (at_move rfl) rfl ?_
                                    refine wl_on (t := 178) rfl (by decide) rfl ?_
                                    refine wl_val (at_gtr rfl rfl) rfl ?_
                                    refine wl_on (t := 175) rfl (by decide) rfl ?_
                                    refine wl_val (at_pick_t rfl rfl) rfl ?_
                                    refine wl_val (at_pick_f rfl rfl) rfl ?_
                                    refine wl_nil ?_
                                    exact wk_prune [(10, .pointer (some (⟨b13, 0, none⟩ : Addr))), (13, .pointer (some (⟨b35, 0, none⟩ : Addr))), (15, .int .i64 s62), (16, .int .i64 s70), (182, .bool (decide ((0 : Int) < s70)))] ⟨rfl, rfl, rfl, rfl, rfl, trivial⟩ (fun f1 => hJ84 ((decide ((0 : Int) < s70))) _ f1 h so)
                                  · refine wl_set (t := 178) (v := .bool false) (congrArg Value.bool hb) ?_; clear hb
                                    refine wl_off (t := 178) rfl (by decide) rfl ?_
                                    refine wl_off (t := 178) rfl (by decide) rfl ?_
                                    refine wl_on (t := 175) rfl (by decide) rfl ?_
                                    refine wl_val (at_pick_f rfl rfl) rfl ?_
                                    refine wl_val (at_pick_f rfl rfl) rfl ?_
                                    refine wl_nil ?_
                                    exact wk_prune [(10, .pointer (some (⟨b13, 0, none⟩ : Addr))), (13, .pointer (some (⟨b35, 0, none⟩ : Addr))), (15, .int .i64 s62), (16, .int .i64 s70), (182, .bool false)] ⟨rfl, rfl, rfl, rfl, rfl, trivial⟩ (fun f1 => hJ84 (false) _ f1 h so)
                          · refine wc_exit ?_
                            refine wk_thenE ?_
                            refine wk_thenE ?_
                            refine wk_blkE ?_
                            refine wk_blkN ?_
                            refine wk_prune [(10, .pointer (some (⟨b13, 0, none⟩ : Addr))), (13, .pointer (some (⟨b35, 0, none⟩ : Addr))), (15, .int .i64 s62)] ⟨rfl, rfl, rfl, trivial⟩ (fun f1 => ?_)
                            refine wk_then ?_
                            refine wc_region ?_
                            refine wl_val (at_move rfl) rfl ?_
                            refine wl_val (at_add rfl rfl) rfl ?_
                            refine wl_val (at_assign rfl) rfl ?_
                            refine wl_nil ?_
                            exact wk_again ⟨((IntKind.wrap .i64 (s62 + 1))), _, ac_again ⟨rfl, rfl, rfl, trivial⟩, so, h⟩
                        · refine wc_exit ?_
                          refine wk_thenE ?_
                          refine wk_thenE ?_
                          refine wk_blkE ?_
                          refine wk_prune [] trivial (fun f1 => ?_)
                          refine wk_then ?_
                          refine wc_seq ?_
                          refine wc_region ?_
                          refine wl_val (at_assign rfl) rfl ?_
                          refine wl_nil ?_
                          refine wk_prune [(8, .bool true)] ⟨rfl, trivial⟩ (fun f1 => ?_)
                          refine wk_then ?_
                          refine wc_ret ?_
                          refine wk_tk h so ?_; intro w88 h so
                          exact wk_ret1 (x := true) rfl (by decide) rfl so h
                    · intro J56 h hJ56
                      refine wc_wo [0, 0, 2, 6, 15, 31, 63, 127, 63, 319, 1023, 2047, 4095, 8191, 16383, 8191, 40959, 131071, 262143, 524287] mixed (by kernel_rfl) so ?_; intro w89 hw so; rw [← hw] at h; clear hw
                      refine wo_pure (m' := 2) 1 rfl (by kernel_rfl) rfl rfl (fun H => at_fieldAddr Try.underlying40 rfl rfl sz38 (by decide) rfl) ?_
                      obtain ⟨x90, q91, h⟩ := h
                      refine wo_load (m' := 3) 0 (fun H => cellAt H (⟨b35, 0, none⟩ : Addr) = some (.int .i64 x90)) rfl (by kernel_rfl) rfl rfl (fun H q91 => at_load Try.underlying3 rfl rfl q91) q91 ?_
                      obtain ⟨x92, q93, h⟩ := h
                      refine wo_load (m' := 7) 2 (fun H => cellAt H (⟨b13, 3, none⟩ : Addr) = some (.slice x92.a x92.n x92.c)) rfl (by kernel_rfl) rfl rfl (fun H q93 => at_load Try.underlying38 rfl rfl q93) q93 ?_
                      refine wo_pure (m' := 15) 3 rfl (by kernel_rfl) rfl rfl (fun H => at_lenL Try.underlying38 rfl) ?_
                      refine wo_pure (m' := 31) 4 rfl (by kernel_rfl) rfl rfl (fun H => at_neq rfl rfl) ?_
                      refine wo_pure (m' := 63) 5 rfl (by kernel_rfl) rfl rfl (fun H => at_move rfl) ?_
                      refine bif_ h (fun hb h => ?_) (fun hb h => ?_)
                      · refine wo_set (t := 138) (v := .bool true) (congrArg Value.bool hb) ?_; clear hb
                        refine wo_off (m' := 127) 6 rfl (by kernel_rfl) rfl (t := 138) rfl (by decide) rfl ?_
                        refine wo_off (m' := 255) 7 rfl (by kernel_rfl) rfl (t := 138) rfl (by decide) rfl ?_
                        refine wo_off (m' := 511) 8 rfl (by kernel_rfl) rfl (t := 138) rfl (by decide) rfl ?_
                        refine wo_off (m' := 1023) 9 rfl (by kernel_rfl) rfl (t := 138) rfl (by decide) rfl ?_
                        refine wo_off (m' := 2047) 10 rfl (by kernel_rfl) rfl (t := 138) rfl (by decide) rfl ?_
                        refine wo_pure (m' := 4095) 11 rfl (by kernel_rfl) rfl rfl (fun H => at_pick_t rfl rfl) ?_
                        refine wo_pure (m' := 8191) 12 rfl (by kernel_rfl) rfl rfl (fun H => at_move rfl) ?_
                        refine wo_off (m' := 16383) 13 rfl (by kernel_rfl) rfl (t := 145) rfl (by decide) rfl ?_
                        refine wo_off (m' := 32767) 14 rfl (by kernel_rfl) rfl (t := 145) rfl (by decide) rfl ?_
                        refine wo_off (m' := 65535) 15 rfl (by kernel_rfl) rfl (t := 145) rfl (by decide) rfl ?_
                        refine wo_off (m' := 131071) 16 rfl (by kernel_rfl) rfl (t := 145) rfl (by decide) rfl ?_
                        refine wo_off (m' := 262143) 17 rfl (by kernel_rfl) rfl (t := 145) rfl (by decide) rfl ?_
                        refine wo_off (m' := 524287) 18 rfl (by kernel_rfl) rfl (t := 145) rfl (by decide) rfl ?_
                        refine wo_pure (m' := 1048575) 19 rfl (by kernel_rfl) rfl rfl (fun H => at_pick_t rfl rfl) ?_
                        refine wo_done (by kernel_rfl) ?_
                        exact wk_prune [(10, .pointer (some (⟨b13, 0, none⟩ : Addr))), (13, .pointer (some (⟨b35, 0, none⟩ : Addr))), (152, .bool true)] ⟨rfl, rfl, rfl, trivial⟩ (fun f1 => hJ56 (true) _ f1 h so)
                      · refine wo_set (t := 138) (v := .bool false) (congrArg Value.bool hb) ?_; clear hb
                        refine wo_pureG (m' := 127) 6 rfl (by kernel_rfl) rfl (t := 138) rfl (by decide) rfl (fun H => at_fieldAddr Try.underlying40 rfl rfl sz3 (by decide) rfl) ?_
                        refine wo_pureG (m' := 383) 8 rfl (by kernel_rfl) rfl (t := 138) rfl (by decide) rfl (fun H => at_fieldAddr Try.underlying32 rfl rfl sz3 (by decide) rfl) ?_
                        obtain ⟨x94, q95, h⟩ := h
                        refine wo_loadG (m' := 511) 7 (fun H => cellAt H (⟨b13, 1, none⟩ : Addr) = some (.int .i64 x94)) rfl (by kernel_rfl) rfl (t := 138) rfl (by decide) rfl (fun H q95 => at_load Try.underlying3 rfl rfl q95) q95 ?_
                        obtain ⟨x96, q97, h⟩ := h
                        refine wo_loadG (m' := 1023) 9 (fun H => cellAt H (⟨b1, 142, none⟩ : Addr) = some (.int .i64 x96)) rfl (by kernel_rfl) rfl (t := 138) rfl (by decide) rfl (fun H q97 => at_load Try.underlying3 rfl rfl q97) q97 ?_
                        refine wo_pureG (m' := 2047) 10 rfl (by kernel_rfl) rfl (t := 138) rfl (by decide) rfl (fun H => at_neq rfl rfl) ?_
                        refine wo_pure (m' := 4095) 11 rfl (by kernel_rfl) rfl rfl (fun H => at_pick_f rfl rfl) ?_
                        refine wo_pure (m' := 8191) 12 rfl (by kernel_rfl) rfl rfl (fun H => at_move rfl) ?_
                        refine bif_ h (fun hb h => ?_) (fun hb h => ?_)
                        · refine wo_set (t := 145) (v := .bool true) (congrArg Value.bool hb) ?_; clear hb
                          refine wo_off (m' := 16383) 13 rfl (by kernel_rfl) rfl (t := 145) rfl (by decide) rfl ?_
                          refine wo_off (m' := 32767) 14 rfl (by kernel_rfl) rfl (t := 145) rfl (by decide) rfl ?_
                          refine wo_off (m' := 65535) 15 rfl (by kernel_rfl) rfl (t := 145) rfl (by decide) rfl ?_
                          refine wo_off (m' := 131071) 16 rfl (by kernel_rfl) rfl (t := 145) rfl (by decide) rfl ?_
                          refine wo_off (m' := 262143) 17 rfl (by kernel_rfl) rfl (t := 145) rfl (by decide) rfl ?_
                          refine wo_off (m' := 524287) 18 rfl (by kernel_rfl) rfl (t := 145) rfl (by decide) rfl ?_
                          refine wo_pure (m' := 1048575) 19 rfl (by kernel_rfl) rfl rfl (fun H => at_pick_t rfl rfl) ?_
                          refine wo_done (by kernel_rfl) ?_
                          exact wk_prune [(10, .pointer (some (⟨b13, 0, none⟩ : Addr))), (13, .pointer (some (⟨b35, 0, none⟩ : Addr))), (152, .bool true)] ⟨rfl, rfl, rfl, trivial⟩ (fun f1 => hJ56 (true) _ f1 h so)
                        · refine wo_set (t := 145) (v := .bool false) (congrArg Value.bool hb) ?_; clear hb
                          refine wo_pureG (m' := 16383) 13 rfl (by kernel_rfl) rfl (t := 145) rfl (by decide) rfl (fun H => at_move rfl) ?_
                          refine wo_pureG (m' := 49151) 15 rfl (by kernel_rfl) rfl (t := 145) rfl (by decide) rfl (fun H => at_fieldAddr Try.underlying40 rfl rfl sz3 (by decide) rfl) ?_
                          obtain ⟨x98, q99, h⟩ := h
                          refine wo_loadG (m' := 114687) 16 (fun H => cellAt H (⟨b13, 2, none⟩ : Addr) = some (.int .i64 x98)) rfl (by kernel_rfl) rfl (t := 145) rfl (by decide) rfl (fun H q99 => at_load Try.underlying3 rfl rfl q99) q99 ?_
                          refine wo_take (m' := 131071) 14 [false, true, true, true, true] rfl (by kernel_rfl) rfl (by kernel_rfl) ?_
                          refine wl_on (t := 145) rfl (by decide) rfl ?_
                          refine wl_callF (bits_Source_Left.calls _ _ _ h) enter15 rfl trivial so ?_; intro x100 w101 h so
                          refine wl_nil ?_
                          obtain ⟨q102, h⟩ := h
                          refine wk_tq ⟨q102, trivial⟩ ?_
                          refine wo_pureG (m' := 262143) 17 rfl (by kernel_rfl) rfl (t := 145) rfl (by decide) rfl (fun H => at_sub rfl rfl) ?_
                          refine wo_pureG (m' := 524287) 18 rfl (by kernel_rfl) rfl (t := 145) rfl (by decide) rfl (fun H => at_gtr rfl rfl) ?_
                          refine wo_pure (m' := 1048575) 19 rfl (by kernel_rfl) rfl rfl (fun H => at_pick_f rfl rfl) ?_
                          refine wo_done (by kernel_rfl) ?_
                          exact wk_prune [(10, .pointer (some (⟨b13, 0, none⟩ : Addr))), (13, .pointer (some (⟨b35, 0, none⟩ : Addr))), (152, .bool (decide ((7 : Int) < (IntKind.wrap .i64 (x100 - x98)))))] ⟨rfl, rfl, rfl, trivial⟩ (fun f1 => hJ56 ((decide ((7 : Int) < (IntKind.wrap .i64 (x100 - x98))))) _ f1 h so)
          · intro J27 h hJ27
            refine wc_wo [0, 1, 3, 7, 15, 31, 63, 127, 255, 511, 1023, 2047, 4095, 8191, 16383, 8191, 40959, 131071, 262143, 524287, 1048575, 2097151, 4194303, 8388607, 16777215, 33554431, 67108863, 134217727, 268435455, 536870911, 1073741823, 2147483647, 1073741823, 5368709119, 17179869183, 34359738367] mixed (by kernel_rfl) so ?_; intro w103 hw so; rw [← hw] at h t_b1 t_b13; clear hw
            refine wo_pure (m' := 1) 0 rfl (by kernel_rfl) rfl rfl (fun H => at_move rfl) ?_
            refine wo_pure (m' := 3) 1 rfl (by kernel_rfl) rfl rfl (fun H => at_eqlP Try.underlying43 rfl rfl) ?_
            refine wo_pure (m' := 7) 2 rfl (by kernel_rfl) rfl rfl (fun H => at_move rfl) ?_
            refine bif_ h (fun hb h => ?_) (fun hb h => ?_)
            · refine wo_set (t := 65) (v := .bool true) (congrArg Value.bool hb) ?_; clear hb
              refine wo_off (m' := 15) 3 rfl (by kernel_rfl) rfl (t := 65) rfl (by decide) rfl ?_
              refine wo_off (m' := 31) 4 rfl (by kernel_rfl) rfl (t := 65) rfl (by decide) rfl ?_
              refine wo_off (m' := 63) 5 rfl (by kernel_rfl) rfl (t := 65) rfl (by decide) rfl ?_
              refine wo_pure (m' := 127) 6 rfl (by kernel_rfl) rfl rfl (fun H => at_pick_t rfl rfl) ?_
              refine wo_pure (m' := 255) 7 rfl (by kernel_rfl) rfl rfl (fun H => at_move rfl) ?_
              refine wo_off (m' := 511) 8 rfl (by kernel_rfl) rfl (t := 70) rfl (by decide) rfl ?_
              refine wo_off (m' := 1023) 9 rfl (by kernel_rfl) rfl (t := 70) rfl (by decide) rfl ?_
              refine wo_off (m' := 2047) 10 rfl (by kernel_rfl) rfl (t := 70) rfl (by decide) rfl ?_
              refine wo_pure (m' := 4095) 11 rfl (by kernel_rfl) rfl rfl (fun H => at_pick_t rfl rfl) ?_
              refine wo_pure (m' := 8191) 12 rfl (by kernel_rfl) rfl rfl (fun H => at_move rfl) ?_
              refine wo_off (m' := 16383) 13 rfl (by kernel_rfl) rfl (t := 75) rfl (by decide) rfl ?_
              refine wo_off (m' := 32767) 14 rfl (by kernel_rfl) rfl (t := 75) rfl (by decide) rfl ?_
              refine wo_off (m' := 65535) 15 rfl (by kernel_rfl) rfl (t := 75) rfl (by decide) rfl ?_
              refine wo_off (m' := 131071) 16 rfl (by kernel_rfl) rfl (t := 75) rfl (by decide) rfl ?_
              refine wo_off (m' := 262143) 17 rfl (by kernel_rfl) rfl (t := 75) rfl (by decide) rfl ?_
              refine wo_pure (m' := 524287) 18 rfl (by kernel_rfl) rfl rfl (fun H => at_pick_t rfl rfl) ?_
              refine wo_pure (m' := 1048575) 19 rfl (by kernel_rfl) rfl rfl (fun H => at_move rfl) ?_
              refine wo_off (m' := 2097151) 20 rfl (by kernel_rfl) rfl (t := 82) rfl (by decide) rfl ?_
              refine wo_off (m' := 4194303) 21 rfl (by kernel_rfl) rfl (t := 82) rfl (by decide) rfl ?_
              refine wo_off (m' := 8388607) 22 rfl (by kernel_rfl) rfl (t := 82) rfl (by decide) rfl ?_
              refine wo_pure (m' := 16777215) 23 rfl (by kernel_rfl) rfl rfl (fun H => at_pick_t rfl rfl) ?_
              refine wo_pure (m' := 33554431) 24 rfl (by kernel_rfl) rfl rfl (fun H => at_move rfl) ?_
              refine wo_off (m' := 67108863) 25 rfl (by kernel_rfl) rfl (t := 87) rfl (by decide) rfl ?_
              refine wo_off (m' := 134217727) 26 rfl (by kernel_rfl) rfl (t := 87) rfl (by decide) rfl ?_
              refine wo_off (m' := 268435455) 27 rfl (by kernel_rfl) rfl (t := 87) rfl (by decide) rfl ?_
              refine wo_pure (m' := 536870911) 28 rfl (by kernel_rfl) rfl rfl (fun H => at_pick_t rfl rfl) ?_
              refine wo_pure (m' := 1073741823) 29 rfl (by kernel_rfl) rfl rfl (fun H => at_move rfl) ?_
              refine wo_off (m' := 2147483647) 30 rfl (by kernel_rfl) rfl (t := 92) rfl (by decide) rfl ?_
              refine wo_off (m' := 4294967295) 31 rfl (by kernel_rfl) rfl (t := 92) rfl (by decide) rfl ?_
              refine wo_off (m' := 8589934591) 32 rfl (by kernel_rfl) rfl (t := 92) rfl (by decide) rfl ?_
              refine wo_off (m' := 17179869183) 33 rfl (by kernel_rfl) rfl (t := 92) rfl (by decide) rfl ?_
              refine wo_off (m' := 34359738367) 34 rfl (by kernel_rfl) rfl (t := 92) rfl (by decide) rfl ?_
              refine wo_pure (m' := 68719476735) 35 rfl (by kernel_rfl) rfl rfl (fun H => at_pick_t rfl rfl) ?_
              refine wo_done (by kernel_rfl) ?_
              exact wk_prune [(7, .pointer (some (⟨b1, 0, none⟩ : Addr))), (10, .pointer (some (⟨b13, 0, none⟩ : Addr))), (12, .pointer x24), (98, .bool true)] ⟨rfl, rfl, rfl, rfl, trivial⟩ (fun f1 => hJ27 (true) _ f1 h ⟨t_b1, t_b13, trivial⟩ so)
            · refine wo_set (t := 65) (v := .bool false) (congrArg Value.bool hb) ?_; clear hb
              refine wo_pureG (m' := 15) 3 rfl (by kernel_rfl) rfl (t := 65) rfl (by decide) rfl (fun H => at_fieldAddr Try.underlying40 rfl rfl sz37 (by decide) rfl) ?_
              have q104 : cellAt w103.heap (⟨b13, 0, none⟩ : Addr) = some (.int .i8 x10.1) := (t_b13.cell 0).trans (by first | rfl | simp [List.getElem?_append, ints_len, bools_len])
              refine wo_loadG (m' := 31) 4 (fun H => cellAt H (⟨b13, 0, none⟩ : Addr) = some (.int .i8 x10.1)) rfl (by kernel_rfl) rfl (t := 65) rfl (by decide) rfl (fun H q104 => at_load (v := .int .i8 x10.1) Try.underlying37 rfl rfl (q104)) q104 ?_
              refine wo_pureG (m' := 63) 5 rfl (by kernel_rfl) rfl (t := 65) rfl (by decide) rfl (fun H => at_lss rfl rfl) ?_
              refine wo_pure (m' := 127) 6 rfl (by kernel_rfl) rfl rfl (fun H => at_pick_f rfl rfl) ?_
              refine wo_pure (m' := 255) 7 rfl (by kernel_rfl) rfl rfl (fun H => at_move rfl) ?_
              refine bif_ h (fun hb h => ?_) (fun hb h => ?_)
              · refine wo_set (t := 70) (v := .bool true) (congrArg Value.bool hb) ?_; clear hb
                refine wo_off (m' := 511) 8 rfl (by kernel_rfl) rfl (t := 70) rfl (by decide) rfl ?_
                refine wo_off (m' := 1023) 9 rfl (by kernel_rfl) rfl (t := 70) rfl (by decide) rfl ?_
                refine wo_off (m' := 2047) 10 rfl (by kernel_rfl) rfl (t := 70) rfl (by decide) rfl ?_
                refine wo_pure (m' := 4095) 11 rfl (by kernel_rfl) rfl rfl (fun H => at_pick_t rfl rfl) ?_
                refine wo_pure (m' := 8191) 12 rfl (by kernel_rfl) rfl rfl (fun H => at_move rfl) ?_
                refine wo_off (m' := 16383) 13 rfl (by kernel_rfl) rfl (t := 75) rfl (by decide) rfl ?_
                refine wo_off (m' := 32767) 14 rfl (by kernel_rfl) rfl (t := 75) rfl (by decide) rfl ?_
                refine wo_off (m' := 65535) 15 rfl (by kernel_rfl) rfl (t := 75) rfl (by decide) rfl ?_
                refine wo_off (m' := 131071) 16 rfl (by kernel_rfl) rfl (t := 75) rfl (by decide) rfl ?_
                refine wo_off (m' := 262143) 17 rfl (by kernel_rfl) rfl (t := 75) rfl (by decide) rfl ?_
                refine wo_pure (m' := 524287) 18 rfl (by kernel_rfl) rfl rfl (fun H => at_pick_t rfl rfl) ?_
                refine wo_pure (m' := 1048575) 19 rfl (by kernel_rfl) rfl rfl (fun H => at_move rfl) ?_
                refine wo_off (m' := 2097151) 20 rfl (by kernel_rfl) rfl (t := 82) rfl (by decide) rfl ?_
                refine wo_off (m' := 4194303) 21 rfl (by kernel_rfl) rfl (t := 82) rfl (by decide) rfl ?_
                refine wo_off (m' := 8388607) 22 rfl (by kernel_rfl) rfl (t := 82) rfl (by decide) rfl ?_
                refine wo_pure (m' := 16777215) 23 rfl (by kernel_rfl) rfl rfl (fun H => at_pick_t rfl rfl) ?_
                refine wo_pure (m' := 33554431) 24 rfl (by kernel_rfl) rfl rfl (fun H => at_move rfl) ?_
                refine wo_off (m' := 67108863) 25 rfl (by kernel_rfl) rfl (t := 87) rfl (by decide) rfl ?_
                refine wo_off (m' := 134217727) 26 rfl (by kernel_rfl) rfl (t := 87) rfl (by decide) rfl ?_
                refine wo_off (m' := 268435455) 27 rfl (by kernel_rfl) rfl (t := 87) rfl (by decide) rfl ?_
                refine wo_pure (m' := 536870911) 28 rfl (by kernel_rfl) rfl rfl (fun H => at_pick_t rfl rfl) ?_
                refine wo_pure (m' := 1073741823) 29 rfl (by kernel_rfl) rfl rfl (fun H => at_move rfl) ?_
                refine wo_off (m' := 2147483647) 30 rfl (by kernel_rfl) rfl (t := 92) rfl (by decide) rfl ?_
                refine wo_off (m' := 4294967295) 31 rfl (by kernel_rfl) rfl (t := 92) rfl (by decide) rfl ?_
                refine wo_off (m' := 8589934591) 32 rfl (by kernel_rfl) rfl (t := 92) rfl (by decide) rfl ?_
                refine wo_off (m' := 17179869183) 33 rfl (by kernel_rfl) rfl (t := 92) rfl (by decide) rfl ?_
                refine wo_off (m' := 34359738367) 34 rfl (by kernel_rfl) rfl (t := 92) rfl (by decide) rfl ?_
                refine wo_pure (m' := 68719476735) 35 rfl (by kernel_rfl) rfl rfl (fun H => at_pick_t rfl rfl) ?_
                refine wo_done (by kernel_rfl) ?_
                exact wk_prune [(7, .pointer (some (⟨b1, 0, none⟩ : Addr))), (10, .pointer (some (⟨b13, 0, none⟩ : Addr))), (12, .pointer x24), (98, .bool true)] ⟨rfl, rfl, rfl, rfl, trivial⟩ (fun f1 => hJ27 (true) _ f1 h ⟨t_b1, t_b13, trivial⟩ so)
              · refine wo_set (t := 70) (v := .bool false) (congrArg Value.bool hb) ?_; clear hb
                refine wo_pureG (m' := 511) 8 rfl (by kernel_rfl) rfl (t := 70) rfl (by decide) rfl (fun H => at_fieldAddr Try.underlying40 rfl rfl sz37 (by decide) rfl) ?_
                have q105 : cellAt w103.heap (⟨b13, 0, none⟩ : Addr) = some (.int .i8 x10.1) := (t_b13.cell 0).trans (by first | rfl | simp [List.getElem?_append, ints_len, bools_len])
                refine wo_loadG (m' := 1023) 9 (fun H => cellAt H (⟨b13, 0, none⟩ : Addr) = some (.int .i8 x10.1)) rfl (by kernel_rfl) rfl (t := 70) rfl (by decide) rfl (fun H q105 => at_load (v := .int .i8 x10.1) Try.underlying37 rfl rfl (q105)) q105 ?_
                refine wo_pureG (m' := 2047) 10 rfl (by kernel_rfl) rfl (t := 70) rfl (by decide) rfl (fun H => at_gtr rfl rfl) ?_
                refine wo_pure (m' := 4095) 11 rfl (by kernel_rfl) rfl rfl (fun H => at_pick_f rfl rfl) ?_
                refine wo_pure (m' := 8191) 12 rfl (by kernel_rfl) rfl rfl (fun H => at_move rfl) ?_
                refine bif_ h (fun hb h => ?_) (fun hb h => ?_)
                · refine wo_set (t := 75) (v := .bool true) (congrArg Value.bool hb) ?_; clear hb
                  refine wo_off (m' := 16383) 13 rfl (by kernel_rfl) rfl (t := 75) rfl (by decide) rfl ?_
                  refine wo_off (m' := 32767) 14 rfl (by kernel_rfl) rfl (t := 75) rfl (by decide) rfl ?_
                  refine wo_off (m' := 65535) 15 rfl (by kernel_rfl) rfl (t := 75) rfl (by decide) rfl ?_
                  refine wo_off (m' := 131071) 16 rfl (by kernel_rfl) rfl (t := 75) rfl (by decide) rfl ?_
                  refine wo_off (m' := 262143) 17 rfl (by kernel_rfl) rfl (t := 75) rfl (by decide) rfl ?_
                  refine wo_pure (m' := 524287) 18 rfl (by kernel_rfl) rfl rfl (fun H => at_pick_t rfl rfl) ?_
                  refine wo_pure (m' := 1048575) 19 rfl (by kernel_rfl) rfl rfl (fun H => at_move rfl) ?_
                  refine wo_off (m' := 2097151) 20 rfl (by kernel_rfl) rfl (t := 82) rfl (by decide) rfl ?_
                  refine wo_off (m' := 4194303) 21 rfl (by kernel_rfl) rfl (t := 82) rfl (by decide) rfl ?_
                  refine wo_off (m' := 8388607) 22 rfl (by kernel_rfl) rfl (t := 82) rfl (by decide) rfl ?_
                  refine wo_pure (m' := 16777215) 23 rfl (by kernel_rfl) rfl rfl (fun H => at_pick_t rfl rfl) ?_
                  refine wo_pure (m' := 33554431) 24 rfl (by kernel_rfl) rfl rfl (fun H => at_move rfl) ?_
                  refine wo_off (m' := 67108863) 25 rfl (by kernel_rfl) rfl (t := 87) rfl (by decide) rfl ?_
                  refine wo_off (m' := 134217727) 26 rfl (by kernel_rfl) rfl (t := 87) rfl (by decide) rfl ?_
                  refine wo_off (m' := 268435455) 27 rfl (by kernel_rfl) rfl (t := 87) rfl (by decide) rfl ?_
                  refine wo_pure (m' := 536870911) 28 rfl (by kernel_rfl) rfl rfl (fun H => at_pick_t rfl rfl) ?_
                  refine wo_pure (m' := 1073741823) 29 rfl (by kernel_rfl) rfl rfl (fun H => at_move rfl) ?_
                  refine wo_off (m' := 2147483647) 30 rfl (by kernel_rfl) rfl (t := 92) rfl (by decide) rfl ?_
                  refine wo_off (m' := 4294967295) 31 rfl (by kernel_rfl) rfl (t := 92) rfl (by decide) rfl ?_
                  refine wo_off (m' := 8589934591) 32 rfl (by kernel_rfl) rfl (t := 92) rfl (by decide) rfl ?_
                  refine wo_off (m' := 17179869183) 33 rfl (by kernel_rfl) rfl (t := 92) rfl (by decide) rfl ?_
                  refine wo_off (m' := 34359738367) 34 rfl (by kernel_rfl) rfl (t := 92) rfl (by decide) rfl ?_
                  refine wo_pure (m' := 68719476735) 35 rfl (by kernel_rfl) rfl rfl (fun H => at_pick_t rfl rfl) ?_
                  refine wo_done (by kernel_rfl) ?_
                  exact wk_prune [(7, .pointer (some (⟨b1, 0, none⟩ : Addr))), (10, .pointer (some (⟨b13, 0, none⟩ : Addr))), (12, .pointer x24), (98, .bool true)] ⟨rfl, rfl, rfl, rfl, trivial⟩ (fun f1 => hJ27 (true) _ f1 h ⟨t_b1, t_b13, trivial⟩ so)
                · refine wo_set (t := 75) (v := .bool false) (congrArg Value.bool hb) ?_; clear hb
                  refine wo_pureG (m' := 16383) 13 rfl (by kernel_rfl) rfl (t := 75) rfl (by decide) rfl (fun H => at_fieldAddr Try.underlying40 rfl rfl sz3 (by decide) rfl) ?_
                  refine wo_pureG (m' := 49151) 15 rfl (by kernel_rfl) rfl (t := 75) rfl (by decide) rfl (fun H => at_move rfl) ?_
                  have q106 : cellAt w103.heap (⟨b13, 2, none⟩ : Addr) = some (.int .i64 x10.2.2.1) := (t_b13.cell 2).trans (by first | rfl | simp [List.getElem?_append, ints_len, bools_len])
                  refine wo_loadG (m' := 65535) 14 (fun H => cellAt H (⟨b13, 2, none⟩ : Addr) = some (.int .i64 x10.2.2.1)) rfl (by kernel_rfl) rfl (t := 75) rfl (by decide) rfl (fun H q106 => at_load (v := .int .i64 x10.2.2.1) Try.underlying3 rfl rfl (q106)) q106 ?_
                  refine wo_take (m' := 131071) 16 [false, true, true] rfl (by kernel_rfl) rfl (by kernel_rfl) ?_
                  refine wl_on (t := 75) rfl (by decide) rfl ?_
                  refine wl_callF (bits_Source_Left.calls _ _ _ h) enter15 rfl trivial so ?_; intro x107 w108 h so
                  obtain ⟨q109, h⟩ := h
                  replace t_b1 := pv_bk q109 t_b1 (by simp)
                  replace t_b13 := pv_bk q109 t_b13 (by simp)
                  refine wl_nil ?_
                  refine wk_tq ⟨((t_b13.cell 2).trans (by first | rfl | simp [List.getElem?_append, ints_len, bools_len])), trivial⟩ ?_
                  refine wo_pureG (m' := 262143) 17 rfl (by kernel_rfl) rfl (t := 75) rfl (by decide) rfl (fun H => at_gtr rfl rfl) ?_
                  refine wo_pure (m' := 524287) 18 rfl (by kernel_rfl) rfl rfl (fun H => at_pick_f rfl rfl) ?_
                  refine wo_pure (m' := 1048575) 19 rfl (by kernel_rfl) rfl rfl (fun H => at_move rfl) ?_
                  refine bif_ h (fun hb h => ?_) (fun hb h => ?_)
                  · refine wo_set (t := 82) (v := .bool true) (congrArg Value.bool hb) ?_; clear hb
                    refine wo_off (m' := 2097151) 20 rfl (by kernel_rfl) rfl (t := 82) rfl (by decide) rfl ?_
                    refine wo_off (m' := 4194303) 21 rfl (by kernel_rfl) rfl (t := 82) rfl (by decide) rfl ?_
                    refine wo_off (m' := 8388607) 22 rfl (by kernel_rfl) rfl (t := 82) rfl (by decide) rfl ?_
                    refine wo_pure (m' := 16777215) 23 rfl (by kernel_rfl) rfl rfl (fun H => at_pick_t rfl rfl) ?_
                    refine wo_pure (m' := 33554431) 24 rfl (by kernel_rfl) rfl rfl (fun H => at_move rfl) ?_
                    refine wo_off (m' := 67108863) 25 rfl (by kernel_rfl) rfl (t := 87) rfl (by decide) rfl ?_
                    refine wo_off (m' := 134217727) 26 rfl (by kernel_rfl) rfl (t := 87) rfl (by decide) rfl ?_
                    refine wo_off (m' := 268435455) 27 rfl (by kernel_rfl) rfl (t := 87) rfl (by decide) rfl ?_
                    refine wo_pure (m' := 536870911) 28 rfl (by kernel_rfl) rfl rfl (fun H => at_pick_t rfl rfl) ?_
                    refine wo_pure (m' := 1073741823) 29 rfl (by kernel_rfl) rfl rfl (fun H => at_move rfl) ?_
                    refine wo_off (m' := 2147483647) 30 rfl (by kernel_rfl) rfl (t := 92) rfl (by decide) rfl ?_
                    refine wo_off (m' := 4294967295) 31 rfl (by kernel_rfl) rfl (t := 92) rfl (by decide) rfl ?_
                    refine wo_off (m' := 8589934591) 32 rfl (by kernel_rfl) rfl (t := 92) rfl (by decide) rfl ?_
                    refine wo_off (m' := 17179869183) 33 rfl (by kernel_rfl) rfl (t := 92) rfl (by decide) rfl ?_
                    refine wo_off (m' := 34359738367) 34 rfl (by kernel_rfl) rfl (t := 92) rfl (by decide) rfl ?_
                    refine wo_pure (m' := 68719476735) 35 rfl (by kernel_rfl) rfl rfl (fun H => at_pick_t rfl rfl) ?_
                    refine wo_done (by kernel_rfl) ?_
                    exact wk_prune [(7, .pointer (some (⟨b1, 0, none⟩ : Addr))), (10, .pointer (some (⟨b13, 0, none⟩ : Addr))), (12, .pointer x24), (98, .bool true)] ⟨rfl, rfl, rfl, rfl, trivial⟩ (fun f1 => hJ27 (true) _ f1 h ⟨t_b1, t_b13, trivial⟩ so)
                  · refine wo_set (t := 82) (v := .bool false) (congrArg Value.bool hb) ?_; clear hb
                    refine wo_pureG (m' := 2097151) 20 rfl (by kernel_rfl) rfl (t := 82) rfl (by decide) rfl (fun H => at_fieldAddr Try.underlying40 rfl rfl sz3 (by decide) rfl) ?_
                    have q110 : cellAt w108.heap (⟨b13, 2, none⟩ : Addr) = some (.int .i64 x10.2.2.1) := (t_b13.cell 2).trans (by first | rfl | simp [List.getElem?_append, ints_len, bools_len])
                    refine wo_loadG (m' := 4194303) 21 (fun H => cellAt H (⟨b13, 2, none⟩ : Addr) = some (.int .i64 x10.2.2.1)) rfl (by kernel_rfl) rfl (t := 82) rfl (by decide) rfl (fun H q110 => at_load (v := .int .i64 x10.2.2.1) Try.underlying3 rfl rfl (q110)) q110 ?_
                    refine wo_pureG (m' := 8388607) 22 rfl (by kernel_rfl) rfl (t := 82) rfl (by decide) rfl (fun H => at_lss rfl rfl) ?_
                    refine wo_pure (m' := 16777215) 23 rfl (by kernel_rfl) rfl rfl (fun H => at_pick_f rfl rfl) ?_
                    refine wo_pure (m' := 33554431) 24 rfl (by kernel_rfl) rfl rfl (fun H => at_move rfl) ?_
                    refine bif_ h (fun hb h => ?_) (fun hb h => ?_)
                    · refine wo_set (t := 87) (v := .bool true) (congrArg Value.bool hb) ?_; clear hb
                      refine wo_off (m' := 67108863) 25 rfl (by kernel_rfl) rfl (t := 87) rfl (by decide) rfl ?_
                      refine wo_off (m' := 134217727) 26 rfl (by kernel_rfl) rfl (t := 87) rfl (by decide) rfl ?_
                      refine wo_off (m' := 268435455) 27 rfl (by kernel_rfl) rfl (t := 87) rfl (by decide) rfl ?_
                      refine wo_pure (m' := 536870911) 28 rfl (by kernel_rfl) rfl rfl (fun H => at_pick_t rfl rfl) ?_
                      refine wo_pure (m' := 1073741823) 29 rfl (by kernel_rfl) rfl rfl (fun H => at_move rfl) ?_
                      refine wo_off (m' := 2147483647) 30 rfl (by kernel_rfl) rfl (t := 92) rfl (by decide) rfl ?_
                      refine wo_off (m' := 4294967295) 31 rfl (by kernel_rfl) rfl (t := 92) rfl (by decide) rfl ?_
                      refine wo_off (m' := 8589934591) 32 rfl (by kernel_rfl) rfl (t := 92) rfl (by decide) rfl ?_
                      refine wo_off (m' := 17179869183) 33 rfl (by kernel_rfl) rfl (t := 92) rfl (by decide) rfl ?_
                      refine wo_off (m' := 34359738367) 34 rfl (by kernel_rfl) rfl (t := 92) rfl (by decide) rfl ?_
                      refine wo_pure (m' := 68719476735) 35 rfl (by kernel_rfl) rfl rfl (fun H => at_pick_t rfl rfl) ?_
                      refine wo_done (by kernel_rfl) ?_
                      exact wk_prune [(7, .pointer (some (⟨b1, 0, none⟩ : Addr))), (10, .pointer (some (⟨b13, 0, none⟩ : Addr))), (12, .pointer x24), (98, .bool true)] ⟨rfl, rfl, rfl, rfl, trivial⟩ (fun f1 => hJ27 (true) _ f1 h ⟨t_b1, t_b13, trivial⟩ so)
                    · refine wo_set (t := 87) (v := .bool false) (congrArg Value.bool hb) ?_; clear hb
                      refine wo_pureG (m' := 67108863) 25 rfl (by kernel_rfl) rfl (t := 87) rfl (by decide) rfl (fun H => at_fieldAddr Try.underlying40 rfl rfl sz3 (by decide) rfl) ?_
                      have q111 : cellAt w108.heap (⟨b13, 1, none⟩ : Addr) = some (.int .i64 x10.2.1) := (t_b13.cell 1).trans (by first | rfl | simp [List.getElem?_append, ints_len, bools_len])
                      refine wo_loadG (m' := 134217727) 26 (fun H => cellAt H (⟨b13, 1, none⟩ : Addr) = some (.int .i64 x10.2.1)) rfl (by kernel_rfl) rfl (t := 87) rfl (by decide) rfl (fun H q111 => at_load (v := .int .i64 x10.2.1) Try.underlying3 rfl rfl (q111)) q111 ?_
                      refine wo_pureG (m' := 268435455) 27 rfl (by kernel_rfl) rfl (t := 87) rfl (by decide) rfl (fun H => at_lss rfl rfl) ?_
                      refine wo_pure (m' := 536870911) 28 rfl (by kernel_rfl) rfl rfl (fun H => at_pick_f rfl rfl) ?_
                      refine wo_pure (m' := 1073741823) 29 rfl (by kernel_rfl) rfl rfl (fun H => at_move rfl) ?_
                      refine bif_ h (fun hb h => ?_) (fun hb h => ?_)
                      · refine wo_set (t := 92) (v := .bool true) (congrArg Value.bool hb) ?_; clear hb
                        refine wo_off (m' := 2147483647) 30 rfl (by kernel_rfl) rfl (t := 92) rfl (by decide) rfl ?_
                        refine wo_off (m' := 4294967295) 31 rfl (by kernel_rfl) rfl (t := 92) rfl (by decide) rfl ?_
                        refine wo_off (m' := 8589934591) 32 rfl (by kernel_rfl) rfl (t := 92) rfl (by decide) rfl ?_
                        refine wo_off (m' := 17179869183) 33 rfl (by kernel_rfl) rfl (t := 92) rfl (by decide) rfl ?_
                        refine wo_off (m' := 34359738367) 34 rfl (by kernel_rfl) rfl (t := 92) rfl (by decide) rfl ?_
                        refine wo_pure (m' := 68719476735) 35 rfl (by kernel_rfl) rfl rfl (fun H => at_pick_t rfl rfl) ?_
                        refine wo_done (by kernel_rfl) ?_
                        exact wk_prune [(7, .pointer (some (⟨b1, 0, none⟩ : Addr))), (10, .pointer (some (⟨b13, 0, none⟩ : Addr))), (12, .pointer x24), (98, .bool true)] ⟨rfl, rfl, rfl, rfl, trivial⟩ (fun f1 => hJ27 (true) _ f1 h ⟨t_b1, t_b13, trivial⟩ so)
                      · refine wo_set (t := 92) (v := .bool false) (congrArg Value.bool hb) ?_; clear hb
                        refine wo_pureG (m' := 2147483647) 30 rfl (by kernel_rfl) rfl (t := 92) rfl (by decide) rfl (fun H => at_fieldAddr Try.underlying40 rfl rfl sz3 (by decide) rfl) ?_
                        refine wo_pureG (m' := 6442450943) 32 rfl (by kernel_rfl) rfl (t := 92) rfl (by decide) rfl (fun H => at_fieldAddr Try.underlying32 rfl rfl sz3 (by decide) rfl) ?_
                        have q112 : cellAt w108.heap (⟨b13, 1, none⟩ : Addr) = some (.int .i64 x10.2.1) := (t_b13.cell 1).trans (by first | rfl | simp [List.getElem?_append, ints_len, bools_len])
                        refine wo_loadG (m' := 8589934591) 31 (fun H => cellAt H (⟨b13, 1, none⟩ : Addr) = some (.int .i64 x10.2.1)) rfl (by kernel_rfl) rfl (t := 92) rfl (by decide) rfl (fun H q112 => at_load (v := .int .i64 x10.2.1) Try.underlying3 rfl rfl (q112)) q112 ?_
                        have q113 : cellAt w108.heap (⟨b1, 142, none⟩ : Addr) = some (.int .i64 a3_22) := (t_b1.cell 142).trans (by first | rfl | simp [List.getElem?_append, ints_len, bools_len])
                        refine wo_loadG (m' := 17179869183) 33 (fun H => cellAt H (⟨b1, 142, none⟩ : Addr) = some (.int .i64 a3_22)) rfl (by kernel_rfl) rfl (t := 92) rfl (by decide) rfl (fun H q113 => at_load (v := .int .i64 a3_22) Try.underlying3 rfl rfl (q113)) q113 ?_
                        refine wo_pureG (m' := 34359738367) 34 rfl (by kernel_rfl) rfl (t := 92) rfl (by decide) rfl (fun H => at_gtr rfl rfl) ?_
                        refine wo_pure (m' := 68719476735) 35 rfl (by kernel_rfl) rfl rfl (fun H => at_pick_f rfl rfl) ?_
                        refine wo_done (by kernel_rfl) ?_
                        exact wk_prune [(7, .pointer (some (⟨b1, 0, none⟩ : Addr))), (10, .pointer (some (⟨b13, 0, none⟩ : Addr))), (12, .pointer x24), (98, .bool (decide (a3_22 < x10.2.1)))] ⟨rfl, rfl, rfl, rfl, trivial⟩ (fun f1 => hJ27 ((decide (a3_22 < x10.2.1))) _ f1 h ⟨t_b1, t_b13, trivial⟩ so)
    · intro J16 h hJ16
      refine wc_region ?_
      refine wl_val (at_move rfl) rfl ?_
      refine wl_val (at_loadA (cs := (c32 a3_0 a3_1 a3_2 a3_3 a3_4 a3_5 a3_6 a3_7 a3_8 a3_9 a3_10 a3_11 a3_12 a3_13 a3_14 a3_15 a3_16 a3_17 a3_18 a3_19 a3_20 a3_21 a3_22)) Try.underlying32 rfl (by rw [len32]; exact sz32) rfl (ldA_full t_b1)) rfl ?_
      refine wl_callF (span_Check.calls _ _ _ _ _ _ _ _ _ _ _ _ _ _ _ _ _ _ _ _ _ _ _ _ _ h) enter9 rfl trivial so ?_; intro x114 w115 h so
      obtain ⟨q116, h⟩ := h
      replace t_b1 := pv_bk q116 t_b1 (by simp)
      replace t_b13 := pv_bk q116 t_b13 (by simp)
      refine wl_val (at_neq rfl rfl) rfl ?_
      refine wl_val (at_move rfl) rfl ?_
      refine bif_ h (fun hb h => ?_) (fun hb h => ?_)
      · refine wl_set (t := 34) (v := .bool true) (congrArg Value.bool hb) ?_; clear hb
        refine wl_off (t := 34) rfl (by decide) rfl ?_
        refine wl_off (t := 34) rfl (by decide) rfl ?_
        refine wl_val (at_pick_t rfl rfl) rfl ?_
        refine wl_nil ?_
        exact wk_prune [(0, .string a0), (1, .int .i64 a1), (2, .int .i64 a2), (7, .pointer (some (⟨b1, 0, none⟩ : Addr))), (10, .pointer (some (⟨b13, 0, none⟩ : Addr))), (11, .int .i64 x10.2.2.2.2), (37, .bool true)] ⟨rfl, rfl, rfl, rfl, rfl, rfl, rfl, trivial⟩ (fun f1 => hJ16 (true) _ f1 h ⟨t_b1, t_b13, trivial⟩ so)
      · refine wl_set (t := 34) (v := .bool false) (congrArg Value.bool hb) ?_; clear hb
        refine wl_on (t := 34) rfl (by decide) rfl ?_
        refine wl_val (at_move rfl) rfl ?_
        refine wl_on (t := 34) rfl (by decide) rfl ?_
        refine wl_val (at_not rfl) rfl ?_
        refine wl_val (at_pick_f rfl rfl) rfl ?_
        refine wl_nil ?_
        exact wk_prune [(0, .string a0), (1, .int .i64 a1), (2, .int .i64 a2), (7, .pointer (some (⟨b1, 0, none⟩ : Addr))), (10, .pointer (some (⟨b13, 0, none⟩ : Addr))), (11, .int .i64 x10.2.2.2.2), (37, .bool (!x3))] ⟨rfl, rfl, rfl, rfl, rfl, rfl, rfl, trivial⟩ (fun f1 => hJ16 ((!x3)) _ f1 h ⟨t_b1, t_b13, trivial⟩ so)
end Go.Proofs.Ytlfdfikgbdgfdaa.G
