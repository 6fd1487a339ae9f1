import Derived.Test.YtbefacccdaafeaaGF
import Derived.Test.YtbefacccdaafeaaKhuff
import Derived.Test.YtbefacccdaafeaaKmosaiclaw04
import Derived.Test.YtbefacccdaafeaaKmosaicref04
namespace Go.Proofs.Ytbefacccdaafeaa.G
open Go.RowKit
set_option linter.unusedVariables false
set_option linter.unusedSimpArgs false
/-- mosaic/mosaiclaw04.HuffCodes -/
def mosaiclaw04_HuffCodes.enc : Bool → Value := fun r => .bool r
def mosaiclaw04_HuffCodes.s (a0_0 : Ints 16) (a0_1 : Sl) (a1_0 : Ints 16) (a1_1 : Sl) (a2 : Int) (H0 : Hp) (Q : Bool → Hp → Prop) : Prop :=
  Gn [] H0 (fun (b1 : Nat) (H2 : Hp) => Gn [] H2 (fun (b3 : Nat) (H4 : Hp) => mosaiclaw04_twin.s a0_0 a0_1 H4 (fun x5 H6 => Pv [b1, b3] H4 H6 ∧ (Gn [] H6 (fun (b8 : Nat) (H10 : Hp) => mosaiclaw04_twin.s a1_0 a1_1 H10 (fun x11 H12 => Pv [b1, b3, b8] H10 H12 ∧ (Gn [] H12 (fun (b14 : Nat) (H16 : Hp) => huff_New.s x5.1 x5.2 H16 (fun x17 H18 => Pv [b1, b3, b8, b14] H16 H18 ∧ (huff_New.s x11.1 x11.2 H18 (fun x20 H21 => Pv [b1, b3, b8, b14] H18 H21 ∧ (mosaicref04_New.s a0_0 a0_1 H21 (fun x23 H24 => Pv [b1, b3, b8, b14] H21 H24 ∧ (mosaicref04_New.s a1_0 a1_1 H24 (fun x26 H27 => Pv [b1, b3, b8, b14] H24 H27 ∧ (Join (fun (s30 : Bool) (H31 : Hp) => if s30 = true then (Q false H31) else (∃ k32, Fix (fun (rec37 : Int → Hp → Prop) (s34 : Int) (H35 : Hp) => if decide (s34 < (x5.2.n : Int)) = true then (0 ≤ s34 ∧ s34 < (x5.2.n : Int) ∧ someA x5.2.a (fun p40 => st H35 (p40.add (Int.toNat s34 * 1)) (.int .u8 5) (fun H42 => Pv [b8, b14] H35 H42 ∧ (rec37 ((IntKind.wrap .i64 (s34 + 1))) H42)))) else (∃ k44, Fix (fun (rec49 : Int → Hp → Prop) (s46 : Int) (H47 : Hp) => if decide (s46 < (x11.2.n : Int)) = true then (0 ≤ s46 ∧ s46 < (x11.2.n : Int) ∧ someA x11.2.a (fun p52 => st H47 (p52.add (Int.toNat s46 * 1)) (.int .u8 6) (fun H54 => Pv [b14] H47 H54 ∧ (rec49 ((IntKind.wrap .i64 (s46 + 1))) H54)))) else (Join (fun (s57 : Bool) (H58 : Hp) => if s57 = true then (Join (fun (s60 : Bool) (H61 : Hp) => Join (fun (s63 : Bool) (H64 : Hp) => Q s63 H64) (fun (J62 : Bool → Hp → Prop) => if s60 = true then (mosaiclaw04_codes.s x17.1 x23.1 1 H61 (fun x65 H66 => J62 (x65) H66)) else (J62 (false) H61))) (fun (J59 : Bool → Hp → Prop) => mosaiclaw04_codes.s x17.1 x23.1 a2 H58 (fun x67 H68 => if x67 = true then (mosaiclaw04_codes.s x20.1 x26.1 a2 H68 (fun x69 H70 => J59 (x69) H70)) else (J59 (false) H68)))) else (if x17.1.isNone = true then (if x20.1.isNone = true then (Q true H58) else (mosaiclaw04_codes.s x20.1 x26.1 a2 H58 (fun x71 H72 => Q x71 H72))) else (mosaiclaw04_codes.s x17.1 x23.1 a2 H58 (fun x73 H74 => if x73 = true then (if x20.1.isNone = true then (Q true H74) else (mosaiclaw04_codes.s x20.1 x26.1 a2 H74 (fun x75 H76 => Q x75 H76))) else (Q false H74))))) (fun (J56 : Bool → Hp → Prop) => if (!x17.1.isNone) = true then (J56 ((!x20.1.isNone)) H47) else (J56 (false) H47)))) k44 (0) H35)) k32 (0) H31)) (fun (J29 : Bool → Hp → Prop) => if (x17.2 != x23.2) = true then (J29 (true) H27) else (if (x20.2 != x26.2) = true then (J29 (true) H27) else (if (!((!x17.1.isNone) == (x23.2 == 0))) = true then (J29 (true) H27) else (if (!((!x20.1.isNone) == (x26.2 == 0))) = true then (J29 (true) H27) else (mosaiclaw04_kept.s x5.1 x5.2 a0_0 a0_1 H27 (fun x77 H78 => Pv [b3, b8, b14] H27 H78 ∧ (if (!x77) = true then (J29 (true) H78) else (mosaiclaw04_kept.s x11.1 x11.2 a1_0 a1_1 H78 (fun x80 H81 => Pv [b8, b14] H78 H81 ∧ (J29 ((!x80)) H81))))))))))))))))))))))))))
set_option maxRecDepth 20000 in
set_option maxHeartbeats 4000000 in
theorem mosaiclaw04_HuffCodes.calls (a0_0 : Ints 16) (a0_1 : Sl) (a1_0 : Ints 16) (a1_1 : Sl) (a2 : Int) (w0 : World) (Q : Bool → Hp → Prop) (h : mosaiclaw04_HuffCodes.s a0_0 a0_1 a1_0 a1_1 a2 w0.heap Q) :
    Ca Try.prog 4 #[.agg (c25 a0_0 a0_1).toArray, .agg (c25 a1_0 a1_1).toArray, .int .i64 a2] w0 (Rt mosaiclaw04_HuffCodes.enc Q w0) := by
  refine ca_start (c := _) Try.func4 rfl Try.ntmps4 rfl ?_
  have so : Sm w0 w0 := Sm.refl w0
  unfold mosaiclaw04_HuffCodes.s at h
  refine wc_prune [(0, .agg (c25 a0_0 a0_1).toArray), (1, .agg (c25 a1_0 a1_1).toArray), (2, .int .i64 a2)] ⟨rfl, rfl, rfl, trivial⟩ (fun f1 => ?_)
  refine wc_seq ?_
  refine wc_region ?_
  refine wl_newT (T := 25) (cs := (c25 a0_0 a0_1)) (ef_box rfl rfl) rfl so ?_; intro b1 w2 hb_b1 t_b1 k_b1 so
  have g_b1 := Nat.le_of_eq hb_b1.symm
  have hc := k_b1.ch (F := [])
  replace h := h b1 _ hc g_b1 t_b1.lt; clear hc
  refine wl_newT (T := 25) (cs := (c25 a1_0 a1_1)) (ef_box rfl rfl) rfl so ?_; intro b3 w4 hb_b3 t_b3 k_b3 so
  have g_b3 := Nat.le_of_eq hb_b3.symm
  have hc := k_b3.ch (F := [])
  have n_b1_b3 : b1 ≠ b3 := fun e => by have := t_b1.lt; omega
  replace t_b1 := t_b1.keep k_b3
  refine wl_val (at_assign rfl) rfl ?_
  refine wl_nil ?_
  refine wk_prune [(2, .int .i64 a2), (3, .pointer (some (⟨b1, 0, none⟩ : Addr))), (4, .pointer (some (⟨b3, 0, none⟩ : Addr)))] ⟨rfl, rfl, rfl, trivial⟩ (fun f1 => ?_)
  refine wk_then ?_
  refine wc_seq ?_
  refine wc_region ?_
  refine wl_val (at_loadA (cs := (c25 a0_0 a0_1)) Try.underlying25 rfl (by rw [len25]; exact sz25) rfl (ldA_full t_b1)) rfl ?_
  replace h := h b3 _ hc g_b3 t_b3.lt; clear hc
  refine wl_callF (mosaiclaw04_twin.calls _ _ _ _ h) enter11 rfl trivial so ?_; intro x5 w6 h so
  obtain ⟨q7, h⟩ := h
  replace t_b1 := pv_bk q7 t_b1 (by simp)
  replace t_b3 := pv_bk q7 t_b3 (by simp)
  refine wl_newT (T := 25) (cs := (c25 (zInts 16) ⟨none, 0, 0⟩)) (ef_alloc zero25 rfl) rfl so ?_; intro b8 w9 hb_b8 t_b8 k_b8 so
  have g_b8 := Nat.le_of_eq hb_b8.symm
  have hc := k_b8.ch (F := [])
  have n_b1_b8 : b1 ≠ b8 := fun e => by have := t_b1.lt; omega
  replace t_b1 := t_b1.keep k_b8
  have n_b3_b8 : b3 ≠ b8 := fun e => by have := t_b3.lt; omega
  replace t_b3 := t_b3.keep k_b8
  refine wl_stWT (vs := (c25 x5.1 x5.2)) t_b8 (by first | (rw [len25, len25]) | (rw [len25]) | rfl) rfl so (fun q => ef_storeA (p := (⟨b8, 0, none⟩ : Addr)) (cs := (c25 x5.1 x5.2)) (by rw [len25]; exact sz25) rfl rfl (one25 _ _) q) ?_; intro w10 t_b8 s_w10 so
  replace t_b1 := t_b1.same s_w10 (n_b1_b8)
  replace t_b3 := t_b3.same s_w10 (n_b3_b8)
  replace hc := ch_same hc s_w10 (.inr g_b8)
  refine wl_nil ?_
  refine wk_prune [(2, .int .i64 a2), (3, .pointer (some (⟨b1, 0, none⟩ : Addr))), (4, .pointer (some (⟨b3, 0, none⟩ : Addr))), (7, .pointer (some (⟨b8, 0, none⟩ : Addr)))] ⟨rfl, rfl, rfl, rfl, trivial⟩ (fun f1 => ?_)
  refine wk_then ?_
  refine wc_seq ?_
  refine wc_region ?_
  refine wl_val (at_loadA (cs := (c25 a1_0 a1_1)) Try.underlying25 rfl (by rw [len25]; exact sz25) rfl (ldA_full t_b3)) rfl ?_
  replace h := h b8 _ hc g_b8 t_b8.lt; clear hc
  refine wl_callF (mosaiclaw04_twin.calls _ _ _ _ h) enter11 rfl trivial so ?_; intro x11 w12 h so
  obtain ⟨q13, h⟩ := h
  replace t_b1 := pv_bk q13 t_b1 (by simp)
  replace t_b3 := pv_bk q13 t_b3 (by simp)
  replace t_b8 := pv_bk q13 t_b8 (by simp)
  refine wl_newT (T := 25) (cs := (c25 (zInts 16) ⟨none, 0, 0⟩)) (ef_alloc zero25 rfl) rfl so ?_; intro b14 w15 hb_b14 t_b14 k_b14 so
  have g_b14 := Nat.le_of_eq hb_b14.symm
  have hc := k_b14.ch (F := [])
  have n_b1_b14 : b1 ≠ b14 := fun e => by have := t_b1.lt; omega
  replace t_b1 := t_b1.keep k_b14
  have n_b3_b14 : b3 ≠ b14 := fun e => by have := t_b3.lt; omega
  replace t_b3 := t_b3.keep k_b14
  have n_b8_b14 : b8 ≠ b14 := fun e => by have := t_b8.lt; omega
  replace t_b8 := t_b8.keep k_b14
  refine wl_stWT (vs := (c25 x11.1 x11.2)) t_b14 (by first | (rw [len25, len25]) | (rw [len25]) | rfl) rfl so (fun q => ef_storeA (p := (⟨b14, 0, none⟩ : Addr)) (cs := (c25 x11.1 x11.2)) (by rw [len25]; exact sz25) rfl rfl (one25 _ _) q) ?_; intro w16 t_b14 s_w16 so
  replace t_b1 := t_b1.same s_w16 (n_b1_b14)
  replace t_b3 := t_b3.same s_w16 (n_b3_b14)
  replace t_b8 := t_b8.same s_w16 (n_b8_b14)
  replace hc := ch_same hc s_w16 (.inr g_b14)
  refine wl_nil ?_
  refine wk_prune [(2, .int .i64 a2), (3, .pointer (some (⟨b1, 0, none⟩ : Addr))), (4, .pointer (some (⟨b3, 0, none⟩ : Addr))), (7, .pointer (some (⟨b8, 0, none⟩ : Addr))), (8, .pointer (some (⟨b14, 0, none⟩ : Addr)))] ⟨rfl, rfl, rfl, rfl, rfl, trivial⟩ (fun f1 => ?_)
  refine wk_then ?_
  refine wc_seq ?_
  refine wc_region ?_
  refine wl_val (at_loadA (cs := (c25 x5.1 x5.2)) Try.underlying25 rfl (by rw [len25]; exact sz25) rfl (ldA_full t_b8)) rfl ?_
  replace h := h b14 _ hc g_b14 t_b14.lt; clear hc
  refine wl_callF (huff_New.calls _ _ _ _ h) enter17 rfl trivial so ?_; intro x17 w18 h so
  obtain ⟨q19, h⟩ := h
  replace t_b1 := pv_bk q19 t_b1 (by simp)
  replace t_b3 := pv_bk q19 t_b3 (by simp)
  replace t_b8 := pv_bk q19 t_b8 (by simp)
  replace t_b14 := pv_bk q19 t_b14 (by simp)
  refine wl_val (at_move rfl) rfl ?_
  refine wl_val (at_extract rfl rfl) rfl ?_
  refine wl_val (at_extract rfl rfl) rfl ?_
  refine wl_val (at_assign rfl) rfl ?_
  refine wl_val (at_assign rfl) rfl ?_
  refine wl_nil ?_
  refine wk_prune [(2, .int .i64 a2), (3, .pointer (some (⟨b1, 0, none⟩ : Addr))), (4, .pointer (some (⟨b3, 0, none⟩ : Addr))), (7, .pointer (some (⟨b8, 0, none⟩ : Addr))), (8, .pointer (some (⟨b14, 0, none⟩ : Addr))), (9, .pointer x17.1), (10, .int .i64 x17.2)] ⟨rfl, rfl, rfl, rfl, rfl, rfl, rfl, trivial⟩ (fun f1 => ?_)
  refine wk_then ?_
  refine wc_seq ?_
  refine wc_region ?_
  refine wl_val (at_loadA (cs := (c25 x11.1 x11.2)) Try.underlying25 rfl (by rw [len25]; exact sz25) rfl (ldA_full t_b14)) rfl ?_
  refine wl_callF (huff_New.calls _ _ _ _ h) enter17 rfl trivial so ?_; intro x20 w21 h so
  obtain ⟨q22, h⟩ := h
  replace t_b1 := pv_bk q22 t_b1 (by simp)
  replace t_b3 := pv_bk q22 t_b3 (by simp)
  replace t_b8 := pv_bk q22 t_b8 (by simp)
  replace t_b14 := pv_bk q22 t_b14 (by simp)
  refine wl_val (at_move rfl) rfl ?_
  refine wl_val (at_extract rfl rfl) rfl ?_
  refine wl_val (at_extract rfl rfl) rfl ?_
  refine wl_val (at_assign rfl) rfl ?_
  refine wl_val (at_assign rfl) rfl ?_
  refine wl_nil ?_
  refine wk_prune [(2, .int .i64 a2), (3, .pointer (some (⟨b1, 0, none⟩ : Addr))), (4, .pointer (some (⟨b3, 0, none⟩ : Addr))), (7, .pointer (some (⟨b8, 0, none⟩ : Addr))), (8, .pointer (some (⟨b14, 0, none⟩ : Addr))), (9, .pointer x17.1), (10, .int .i64 x17.2), (11, .pointer x20.1), (12, .int .i64 x20.2)] ⟨rfl, rfl, rfl, rfl, rfl, rfl, rfl, rfl, rfl, trivial⟩ (fun f1 => ?_)
  refine wk_then ?_
  refine wc_seq ?_
  refine wc_region ?_
  refine wl_val (at_loadA (cs := (c25 a0_0 a0_1)) Try.underlying25 rfl (by rw [len25]; exact sz25) rfl (ldA_full t_b1)) rfl ?_
  refine wl_callF (mosaicref04_New.calls _ _ _ _ h) enter18 rfl trivial so ?_; intro x23 w24 h so
  obtain ⟨q25, h⟩ := h
  replace t_b1 := pv_bk q25 t_b1 (by simp)
  replace t_b3 := pv_bk q25 t_b3 (by simp)
  replace t_b8 := pv_bk q25 t_b8 (by simp)
  replace t_b14 := pv_bk q25 t_b14 (by simp)
  refine wl_val (at_move rfl) rfl ?_
  refine wl_val (at_extract rfl rfl) rfl ?_
  refine wl_val (at_extract rfl rfl) rfl ?_
  refine wl_val (at_assign rfl) rfl ?_
  refine wl_val (at_assign rfl) rfl ?_
  refine wl_nil ?_
  refine wk_prune [(2, .int .i64 a2), (3, .pointer (some (⟨b1, 0, none⟩ : Addr))), (4, .pointer (some (⟨b3, 0, none⟩ : Addr))), (7, .pointer (some (⟨b8, 0, none⟩ : Addr))), (8, .pointer (some (⟨b14, 0, none⟩ : Addr))), (9, .pointer x17.1), (10, .int .i64 x17.2), (11, .pointer x20.1), (12, .int .i64 x20.2), (13, .pointer x23.1), (14, .int .i64 x23.2)] ⟨rfl, rfl, rfl, rfl, rfl, rfl, rfl, rfl, rfl, rfl, rfl, trivial⟩ (fun f1 => ?_)
  refine wk_then ?_
  refine wc_seq ?_
  refine wc_region ?_
  refine wl_val (at_loadA (cs := (c25 a1_0 a1_1)) Try.underlying25 rfl (by rw [len25]; exact sz25) rfl (ldA_full t_b3)) rfl ?_
  refine wl_callF (mosaicref04_New.calls _ _ _ _ h) enter18 rfl trivial so ?_; intro x26 w27 h so
  obtain ⟨q28, h⟩ := h
  replace t_b1 := pv_bk q28 t_b1 (by simp)
  replace t_b3 := pv_bk q28 t_b3 (by simp)
  replace t_b8 := pv_bk q28 t_b8 (by simp)
  replace t_b14 := pv_bk q28 t_b14 (by simp)
  refine wl_val (at_move rfl) rfl ?_
  refine wl_val (at_extract rfl rfl) rfl ?_
  refine wl_val (at_extract rfl rfl) rfl ?_
  refine wl_val (at_assign rfl) rfl ?_
  refine wl_val (at_assign rfl) rfl ?_
  refine wl_nil ?_
  refine wk_prune [(2, .int .i64 a2), (3, .pointer (some (⟨b1, 0, none⟩ : Addr))), (4, .pointer (some (⟨b3, 0, none⟩ : Addr))), (7, .pointer (some (⟨b8, 0, none⟩ : Addr))), (8, .pointer (some (⟨b14, 0, none⟩ : Addr))), (9, .pointer x17.1), (10, .int .i64 x17.2), (11, .pointer x20.1), (12, .int .i64 x20.2), (13, .pointer x23.1), (14, .int .i64 x23.2), (15, .pointer x26.1), (16, .int .i64 x26.2)] ⟨rfl, rfl, rfl, rfl, rfl, rfl, rfl, rfl, rfl, rfl, rfl, rfl, rfl, trivial⟩ (fun f1 => ?_)
  refine wk_then ?_
  refine wc_seq ?_
  refine wc_seq ?_
  refine wc_joinG (w0 := w0) (fun (H : Hp) => Bk H b8 25 (c25 x5.1 x5.2) ∧ Bk H b14 25 (c25 x11.1 x11.2) ∧ True) (fun (s30 : Bool) => [(2, .int .i64 a2), (7, .pointer (some (⟨b8, 0, none⟩ : Addr))), (8, .pointer (some (⟨b14, 0, none⟩ : Addr))), (9, .pointer x17.1), (11, .pointer x20.1), (13, .pointer x23.1), (15, .pointer x26.1), (77, .bool s30)]) (fun (s30 : Bool) => []) h ?_ ?_
  · rintro s30 w31 f1 h ⟨t_b8, t_b14, _⟩ so; refine wk_then ?_
    refine wc_cond rfl h (fun h => ?_) (fun h => ?_)
    · refine wc_seq ?_
      refine wc_region ?_
      refine wl_val (at_assign rfl) rfl ?_
      refine wl_nil ?_
      refine wk_prune [(6, .bool false)] ⟨rfl, trivial⟩ (fun f1 => ?_)
      refine wk_then ?_
      refine wc_ret ?_
      refine wk_thenR ?_
      exact wk_ret1 (x := false) rfl (by decide) rfl so h
    · refine wc_skip ?_
      refine wk_prune [(2, .int .i64 a2), (7, .pointer (some (⟨b8, 0, none⟩ : Addr))), (8, .pointer (some (⟨b14, 0, none⟩ : Addr))), (9, .pointer x17.1), (11, .pointer x20.1), (13, .pointer x23.1), (15, .pointer x26.1)] ⟨rfl, rfl, rfl, rfl, rfl, rfl, rfl, trivial⟩ (fun f1 => ?_)
      refine wk_then ?_
      refine wc_seq ?_
      refine wc_seq ?_
      refine wc_region ?_
      refine wl_val (at_assign rfl) rfl ?_
      refine wl_nil ?_
      refine wk_prune [(2, .int .i64 a2), (7, .pointer (some (⟨b8, 0, none⟩ : Addr))), (8, .pointer (some (⟨b14, 0, none⟩ : Addr))), (9, .pointer x17.1), (11, .pointer x20.1), (13, .pointer x23.1), (15, .pointer x26.1), (17, .int .i64 0)] ⟨rfl, rfl, rfl, rfl, rfl, rfl, rfl, rfl, trivial⟩ (fun f1 => ?_)
      refine wk_then ?_
      refine wc_block ?_
      obtain ⟨k32, h⟩ := h
      refine wc_loop (fun k a w => ∃ (s34 : Int) (f1 : Nat → Value), a = ac 140 (en f1 [(2, .int .i64 a2), (7, .pointer (some (⟨b8, 0, none⟩ : Addr))), (8, .pointer (some (⟨b14, 0, none⟩ : Addr))), (9, .pointer x17.1), (11, .pointer x20.1), (13, .pointer x23.1), (15, .pointer x26.1), (17, .int .i64 s34)]) [] ∧ Sm w0 w ∧ (Bk w.heap b8 25 (c25 x5.1 x5.2) ∧ Bk w.heap b14 25 (c25 x11.1 x11.2) ∧ True) ∧ Fix _ k s34 w.heap) k32 ⟨(0), _, ac_again ⟨rfl, rfl, rfl, rfl, rfl, rfl, rfl, rfl, trivial⟩, so, ⟨t_b8, t_b14, trivial⟩, h⟩ ?_
      rintro k33 a36 w35 ⟨s34, f1, rfl, so, ⟨t_b8, t_b14, _⟩, h⟩
      rcases k33 with _ | k33
      · exact h.elim
      replace h := Fix.un h; refine wc_in ?_
      refine wc_seq ?_
      refine wc_seq ?_
      refine wc_region ?_
      refine wl_val (at_move rfl) rfl ?_
      refine wl_val (at_fieldAddr Try.underlying25 rfl rfl sz23 (by decide) rfl) rfl ?_
      refine wl_val (at_load (v := .slice x5.2.a x5.2.n x5.2.c) Try.underlying23 rfl rfl ((t_b8.cell 16).trans (by first | rfl | simp [List.getElem?_append, ints_len, bools_len]))) rfl ?_
      refine wl_val (at_lenL Try.underlying23 rfl) rfl ?_
      refine wl_val (at_lss rfl rfl) rfl ?_
      refine wl_nil ?_
      refine wk_prune [(2, .int .i64 a2), (7, .pointer (some (⟨b8, 0, none⟩ : Addr))), (8, .pointer (some (⟨b14, 0, none⟩ : Addr))), (9, .pointer x17.1), (11, .pointer x20.1), (13, .pointer x23.1), (15, .pointer x26.1), (17, .int .i64 s34), (82, .bool (decide (s34 < (x5.2.n : Int))))] ⟨rfl, rfl, rfl, rfl, rfl, rfl, rfl, rfl, rfl, trivial⟩ (fun f1 => ?_)
      refine wk_then ?_
      refine wc_cond rfl h (fun h => ?_) (fun h => ?_)
      · refine wc_skip ?_
        refine wk_prune [(2, .int .i64 a2), (7, .pointer (some (⟨b8, 0, none⟩ : Addr))), (8, .pointer (some (⟨b14, 0, none⟩ : Addr))), (9, .pointer x17.1), (11, .pointer x20.1), (13, .pointer x23.1), (15, .pointer x26.1), (17, .int .i64 s34)] ⟨rfl, rfl, rfl, rfl, rfl, rfl, rfl, rfl, trivial⟩ (fun f1 => ?_)
        refine wk_then ?_
        refine wc_seq ?_
        refine wc_block ?_
        refine wc_region ?_
        refine wl_val (at_fieldAddr Try.underlying25 rfl rfl sz23 (by decide) rfl) rfl ?_
        refine wl_val (at_load (v := .slice x5.2.a x5.2.n x5.2.c) Try.underlying23 rfl rfl ((t_b8.cell 16).trans (by first | rfl | simp [List.getElem?_append, ints_len, bools_len]))) rfl ?_
        refine wl_val (at_move rfl) rfl ?_
        obtain ⟨q38, q39, p40, q41, h⟩ := h
        refine wl_val (at_ixAddrL Try.underlying23 sz5 (sl_some q41) rfl q38 q39) rfl ?_
        refine wl_st (v := .int .u8 5) h rfl so (fun q1 q2 => ef_store (sz := sz5) rfl rfl rfl q1 q2) ?_; intro w42 h so
        obtain ⟨q43, h⟩ := h
        replace t_b8 := pv_bk q43 t_b8 (by simp)
        replace t_b14 := pv_bk q43 t_b14 (by simp)
        refine wl_nil ?_
        refine wk_blkN ?_
        refine wk_prune [(2, .int .i64 a2), (7, .pointer (some (⟨b8, 0, none⟩ : Addr))), (8, .pointer (some (⟨b14, 0, none⟩ : Addr))), (9, .pointer x17.1), (11, .pointer x20.1), (13, .pointer x23.1), (15, .pointer x26.1), (17, .int .i64 s34)] ⟨rfl, rfl, rfl, rfl, rfl, rfl, rfl, rfl, trivial⟩ (fun f1 => ?_)
        refine wk_then ?_
        refine wc_region ?_
        refine wl_val (at_move rfl) rfl ?_
        refine wl_val (at_add rfl rfl) rfl ?_
        refine wl_val (at_assign rfl) rfl ?_
        refine wl_nil ?_
        exact wk_again ⟨((IntKind.wrap .i64 (s34 + 1))), _, ac_again ⟨rfl, rfl, rfl, rfl, rfl, rfl, rfl, rfl, trivial⟩, so, ⟨t_b8, t_b14, trivial⟩, h⟩
      · refine wc_exit ?_
        refine wk_thenE ?_
        refine wk_thenE ?_
        refine wk_blkE ?_
        refine wk_prune [(2, .int .i64 a2), (8, .pointer (some (⟨b14, 0, none⟩ : Addr))), (9, .pointer x17.1), (11, .pointer x20.1), (13, .pointer x23.1), (15, .pointer x26.1)] ⟨rfl, rfl, rfl, rfl, rfl, rfl, trivial⟩ (fun f1 => ?_)
        refine wk_then ?_
        refine wc_seq ?_
        refine wc_seq ?_
        refine wc_region ?_
        refine wl_val (at_assign rfl) rfl ?_
        refine wl_nil ?_
        refine wk_prune [(2, .int .i64 a2), (8, .pointer (some (⟨b14, 0, none⟩ : Addr))), (9, .pointer x17.1), (11, .pointer x20.1), (13, .pointer x23.1), (15, .pointer x26.1), (18, .int .i64 0)] ⟨rfl, rfl, rfl, rfl, rfl, rfl, rfl, trivial⟩ (fun f1 => ?_)
        refine wk_then ?_
        refine wc_block ?_
        obtain ⟨k44, h⟩ := h
        refine wc_loop (fun k a w => ∃ (s46 : Int) (f1 : Nat → Value), a = ac 140 (en f1 [(2, .int .i64 a2), (8, .pointer (some (⟨b14, 0, none⟩ : Addr))), (9, .pointer x17.1), (11, .pointer x20.1), (13, .pointer x23.1), (15, .pointer x26.1), (18, .int .i64 s46)]) [] ∧ Sm w0 w ∧ (Bk w.heap b14 25 (c25 x11.1 x11.2) ∧ True) ∧ Fix _ k s46 w.heap) k44 ⟨(0), _, ac_again ⟨rfl, rfl, rfl, rfl, rfl, rfl, rfl, trivial⟩, so, ⟨t_b14, trivial⟩, h⟩ ?_
        rintro k45 a48 w47 ⟨s46, f1, rfl, so, ⟨t_b14, _⟩, h⟩
        rcases k45 with _ | k45
        · exact h.elim
        replace h := Fix.un h; refine wc_in ?_
        refine wc_seq ?_
        refine wc_seq ?_
        refine wc_region ?_
        refine wl_val (at_move rfl) rfl ?_
        refine wl_val (at_fieldAddr Try.underlying25 rfl rfl sz23 (by decide) rfl) rfl ?_
        refine wl_val (at_load (v := .slice x11.2.a x11.2.n x11.2.c) Try.underlying23 rfl rfl ((t_b14.cell 16).trans (by first | rfl | simp [List.getElem?_append, ints_len, bools_len]))) rfl ?_
        refine wl_val (at_lenL Try.underlying23 rfl) rfl ?_
        refine wl_val (at_lss rfl rfl) rfl ?_
        refine wl_nil ?_
        refine wk_prune [(2, .int .i64 a2), (8, .pointer (some (⟨b14, 0, none⟩ : Addr))), (9, .pointer x17.1), (11, .pointer x20.1), (13, .pointer x23.1), (15, .pointer x26.1), (18, .int .i64 s46), (93, .bool (decide (s46 < (x11.2.n : Int))))] ⟨rfl, rfl, rfl, rfl, rfl, rfl, rfl, rfl, trivial⟩ (fun f1 => ?_)
        refine wk_then ?_
        refine wc_cond rfl h (fun h => ?_) (fun h => ?_)
        · refine wc_skip ?_
          refine wk_prune [(2, .int .i64 a2), (8, .pointer (some (⟨b14, 0, none⟩ : Addr))), (9, .pointer x17.1), (11, .pointer x20.1), (13, .pointer x23.1), (15, .pointer x26.1), (18, .int .i64 s46)] ⟨rfl, rfl, rfl, rfl, rfl, rfl, rfl, trivial⟩ (fun f1 => ?_)
          refine wk_then ?_
          refine wc_seq ?_
          refine wc_block ?_
          refine wc_region ?_
          refine wl_val (at_fieldAddr Try.underlying25 rfl rfl sz23 (by decide) rfl) rfl ?_
          refine wl_val (at_load (v := .slice x11.2.a x11.2.n x11.2.c) Try.underlying23 rfl rfl ((t_b14.cell 16).trans (by first | rfl | simp [List.getElem?_append, ints_len, bools_len]))) rfl ?_
          refine wl_val (at_move rfl) rfl ?_
          obtain ⟨q50, q51, p52, q53, h⟩ := h
          refine wl_val (at_ixAddrL Try.underlying23 sz5 (sl_some q53) rfl q50 q51) rfl ?_
          refine wl_st (v := .int .u8 6) h rfl so (fun q1 q2 => ef_store (sz := sz5) rfl rfl rfl q1 q2) ?_; intro w54 h so
          obtain ⟨q55, h⟩ := h
          replace t_b14 := pv_bk q55 t_b14 (by simp)
          refine wl_nil ?_
          refine wk_blkN ?_
          refine wk_prune [(2, .int .i64 a2), (8, .pointer (some (⟨b14, 0, none⟩ : Addr))), (9, .pointer x17.1), (11, .pointer x20.1), (13, .pointer x23.1), (15, .pointer x26.1), (18, .int .i64 s46)] ⟨rfl, rfl, rfl, rfl, rfl, rfl, rfl, trivial⟩ (fun f1 => ?_)
          refine wk_then ?_
          refine wc_region ?_
          refine wl_val (at_move rfl) rfl ?_
          refine wl_val (at_add rfl rfl) rfl ?_
          refine wl_val (at_assign rfl) rfl ?_
          refine wl_nil ?_
          exact wk_again ⟨((IntKind.wrap .i64 (s46 + 1))), _, ac_again ⟨rfl, rfl, rfl, rfl, rfl, rfl, rfl, trivial⟩, so, ⟨t_b14, trivial⟩, h⟩
        · refine wc_exit ?_
          refine wk_thenE ?_
          refine wk_thenE ?_
          refine wk_blkE ?_
          refine wk_prune [(2, .int .i64 a2), (9, .pointer x17.1), (11, .pointer x20.1), (13, .pointer x23.1), (15, .pointer x26.1)] ⟨rfl, rfl, rfl, rfl, rfl, trivial⟩ (fun f1 => ?_)
          refine wk_then ?_
          refine wc_seq ?_
          refine wc_seq ?_
          refine wc_join (w0 := w0) (fun (s57 : Bool) => [(2, .int .i64 a2), (9, .pointer x17.1), (11, .pointer x20.1), (13, .pointer x23.1), (15, .pointer x26.1), (105, .bool s57)]) h ?_ ?_
          · rintro s57 w58 f1 h so; refine wk_then ?_
            refine wc_cond rfl h (fun h => ?_) (fun h => ?_)
            · refine wc_seq ?_
              refine wc_join (w0 := w0) (fun (s60 : Bool) => [(9, .pointer x17.1), (13, .pointer x23.1), (19, .bool s60)]) h ?_ ?_
              · rintro s60 w61 f1 h so; refine wk_then ?_
                refine wc_seq ?_
                refine wc_join (w0 := w0) (fun (s63 : Bool) => [(6, .bool s63)]) h ?_ ?_
                · rintro s63 w64 f1 h so; refine wk_then ?_
                  refine wc_ret ?_
                  refine wk_thenR ?_
                  exact wk_ret1 (x := s63) rfl (by decide) rfl so h
                · intro J62 h hJ62
                  refine wc_region ?_
                  refine wl_val (at_move rfl) rfl ?_
                  refine wl_val (at_move rfl) rfl ?_
                  refine bif_ h (fun hb h => ?_) (fun hb h => ?_)
                  · refine wl_set (t := 117) (v := .bool true) (congrArg Value.bool hb) ?_; clear hb
                    refine wl_on (t := 117) rfl (by decide) rfl ?_
                    refine wl_val (at_move rfl) rfl ?_
                    refine wl_on (t := 117) rfl (by decide) rfl ?_
                    refine wl_val (at_move rfl) rfl ?_
                    refine wl_on (t := 117) rfl (by decide) rfl ?_
                    refine wl_callF (mosaiclaw04_codes.calls _ _ _ _ _ h) enter19 rfl trivial so ?_; intro x65 w66 h so
                    refine wl_val (at_pick_t rfl rfl) rfl ?_
                    refine wl_val (at_assign rfl) rfl ?_
                    refine wl_nil ?_
                    exact wk_prune [(6, .bool x65)] ⟨rfl, trivial⟩ (fun f1 => hJ62 (x65) _ f1 h so)
                  · refine wl_set (t := 117) (v := .bool false) (congrArg Value.bool hb) ?_; clear hb
                    refine wl_off (t := 117) rfl (by decide) rfl ?_
                    refine wl_off (t := 117) rfl (by decide) rfl ?_
                    refine wl_off (t := 117) rfl (by decide) rfl ?_
                    refine wl_val (at_pick_f rfl rfl) rfl ?_
                    refine wl_val (at_assign rfl) rfl ?_
                    refine wl_nil ?_
                    exact wk_prune [(6, .bool false)] ⟨rfl, trivial⟩ (fun f1 => hJ62 (false) _ f1 h so)
              · intro J59 h hJ59
                refine wc_region ?_
                refine wl_val (at_move rfl) rfl ?_
                refine wl_val (at_move rfl) rfl ?_
                refine wl_val (at_move rfl) rfl ?_
                refine wl_callF (mosaiclaw04_codes.calls _ _ _ _ _ h) enter19 rfl trivial so ?_; intro x67 w68 h so
                refine wl_val (at_move rfl) rfl ?_
                refine bif_ h (fun hb h => ?_) (fun hb h => ?_)
                · refine wl_set (t := 110) (v := .bool true) (congrArg Value.bool hb) ?_; clear hb
                  refine wl_on (t := 110) rfl (by decide) rfl ?_
                  refine wl_val (at_move rfl) rfl ?_
                  refine wl_on (t := 110) rfl (by decide) rfl ?_
                  refine wl_val (at_move rfl) rfl ?_
                  refine wl_on (t := 110) rfl (by decide) rfl ?_
                  refine wl_val (at_move rfl) rfl ?_
                  refine wl_on (t := 110) rfl (by decide) rfl ?_
                  refine wl_callF (mosaiclaw04_codes.calls _ _ _ _ _ h) enter19 rfl trivial so ?_; intro x69 w70 h so
                  refine wl_val (at_pick_t rfl rfl) rfl ?_
                  refine wl_val (at_assign rfl) rfl ?_
                  refine wl_nil ?_
                  exact wk_prune [(9, .pointer x17.1), (13, .pointer x23.1), (19, .bool x69)] ⟨rfl, rfl, rfl, trivial⟩ (fun f1 => hJ59 (x69) _ f1 h so)
                · refine wl_set (t := 110) (v := .bool false) (congrArg Value.bool hb) ?_; clear hb
                  refine wl_off (t := 110) rfl (by decide) rfl ?_
                  refine wl_off (t := 110) rfl (by decide) rfl ?_
                  refine wl_off (t := 110) rfl (by decide) rfl ?_
                  refine wl_off (t := 110) rfl (by decide) rfl ?_
                  refine wl_val (at_pick_f rfl rfl) rfl ?_
                  refine wl_val (at_assign rfl) rfl ?_
                  refine wl_nil ?_
                  exact wk_prune [(9, .pointer x17.1), (13, .pointer x23.1), (19, .bool false)] ⟨rfl, rfl, rfl, trivial⟩ (fun f1 => hJ59 (false) _ f1 h so)
            · refine wc_skip ?_
              refine wk_prune [(2, .int .i64 a2), (9, .pointer x17.1), (11, .pointer x20.1), (13, .pointer x23.1), (15, .pointer x26.1)] ⟨rfl, rfl, rfl, rfl, rfl, trivial⟩ (fun f1 => ?_)
              refine wk_then ?_
              refine wc_seq ?_
              refine wc_region ?_
              refine wl_val (at_move rfl) rfl ?_
              refine wl_val (at_eqlP Try.underlying32 rfl rfl) rfl ?_
              refine wl_val (at_move rfl) rfl ?_
              refine bif_ h (fun hb h => ?_) (fun hb h => ?_)
              · refine wl_set (t := 124) (v := .bool true) (congrArg Value.bool hb) ?_; clear hb
                refine wl_off (t := 124) rfl (by decide) rfl ?_
                refine wl_off (t := 124) rfl (by decide) rfl ?_
                refine wl_off (t := 124) rfl (by decide) rfl ?_
                refine wl_off (t := 124) rfl (by decide) rfl ?_
                refine wl_val (at_pick_t rfl rfl) rfl ?_
                refine wl_val (at_move rfl) rfl ?_
                refine wl_on (t := 130) rfl (by decide) rfl ?_
                refine wl_val (at_move rfl) rfl ?_
                refine wl_on (t := 130) rfl (by decide) rfl ?_
                refine wl_val (at_eqlP Try.underlying32 rfl rfl) rfl ?_
                refine wl_on (t := 130) rfl (by decide) rfl ?_
                refine wl_val (at_move rfl) rfl ?_
                refine bif_ h (fun hb h => ?_) (fun hb h => ?_)
                · refine wl_set (t := 133) (v := .bool true) (congrArg Value.bool hb) ?_; clear hb
                  refine wl_off (t := 133) rfl (by decide) rfl ?_
                  refine wl_off (t := 133) rfl (by decide) rfl ?_
                  refine wl_off (t := 133) rfl (by decide) rfl ?_
                  refine wl_off (t := 133) rfl (by decide) rfl ?_
                  refine wl_on (t := 130) rfl (by decide) rfl ?_
                  refine wl_val (at_pick_t rfl rfl) rfl ?_
                  refine wl_val (at_pick_t rfl rfl) rfl ?_
                  refine wl_val (at_assign rfl) rfl ?_
                  refine wl_nil ?_
                  refine wk_prune [(6, .bool true)] ⟨rfl, trivial⟩ (fun f1 => ?_)
                  refine wk_then ?_
                  refine wc_ret ?_
                  exact wk_ret1 (x := true) rfl (by decide) rfl so h
                · refine wl_set (t := 133) (v := .bool false) (congrArg Value.bool hb) ?_; clear hb
                  refine wl_on (t := 133) rfl (by decide) rfl ?_
                  refine wl_val (at_move rfl) rfl ?_
                  refine wl_on (t := 133) rfl (by decide) rfl ?_
                  refine wl_val (at_move rfl) rfl ?_
                  refine wl_on (t := 133) rfl (by decide) rfl ?_
                  refine wl_val (at_move rfl) rfl ?_
                  refine wl_on (t := 133) rfl (by decide) rfl ?_
                  refine wl_callF (mosaiclaw04_codes.calls _ _ _ _ _ h) enter19 rfl trivial so ?_; intro x71 w72 h so
                  refine wl_on (t := 130) rfl (by decide) rfl ?_
                  refine wl_val (at_pick_f rfl rfl) rfl ?_
                  refine wl_val (at_pick_t rfl rfl) rfl ?_
                  refine wl_val (at_assign rfl) rfl ?_
                  refine wl_nil ?_
                  refine wk_prune [(6, .bool x71)] ⟨rfl, trivial⟩ (fun f1 => ?_)
                  refine wk_then ?_
                  refine wc_ret ?_
                  exact wk_ret1 (x := x71) rfl (by decide) rfl so h
              · refine wl_set (t := 124) (v := .bool false) (congrArg Value.bool hb) ?_; clear hb
                refine wl_on (t := 124) rfl (by decide) rfl ?_
                refine wl_val (at_move rfl) rfl ?_
                refine wl_on (t := 124) rfl (by decide) rfl ?_
                refine wl_val (at_move rfl) rfl ?_
                refine wl_on (t := 124) rfl (by decide) rfl ?_
                refine wl_val (at_move rfl) rfl ?_
                refine wl_on (t := 124) rfl (by decide) rfl ?_
                refine wl_callF (mosaiclaw04_codes.calls _ _ _ _ _ h) enter19 rfl trivial so ?_; intro x73 w74 h so
                refine wl_val (at_pick_f rfl rfl) rfl ?_
                refine wl_val (at_move rfl) rfl ?_
                refine bif_ h (fun hb h => ?_) (fun hb h => ?_)
                · refine wl_set (t := 130) (v := .bool true) (congrArg Value.bool hb) ?_; clear hb
                  refine wl_on (t := 130) rfl (by decide) rfl ?_
                  refine wl_val (at_move rfl) rfl ?_
                  refine wl_on (t := 130) rfl (by decide) rfl ?_
                  refine wl_val (at_eqlP Try.underlying32 rfl rfl) rfl ?_
                  refine wl_on (t := 130) rfl (by decide) rfl ?_
                  refine wl_val (at_move rfl) rfl ?_
                  refine bif_ h (fun hb h => ?_) (fun hb h => ?_)
                  · refine wl_set (t := 133) (v := .bool true) (congrArg Value.bool hb) ?_; clear hb
                    refine wl_off (t := 133) rfl (by decide) rfl ?_
                    refine wl_off (t := 133) rfl (by decide) rfl ?_
                    refine wl_off (t := 133) rfl (by decide) rfl ?_
                    refine wl_off (t := 133) rfl (by decide) rfl ?_
                    refine wl_on (t := 130) rfl (by decide) rfl ?_
                    refine wl_val (at_pick_t rfl rfl) rfl ?_
                    refine wl_val (at_pick_t rfl rfl) rfl ?_
                    refine wl_val (at_assign rfl) rfl ?_
                    refine wl_nil ?_
                    refine wk_prune [(6, .bool true)] ⟨rfl, trivial⟩ (fun f1 => ?_)
                    refine wk_then ?_
                    refine wc_ret ?_
                    exact wk_ret1 (x := true) rfl (by decide) rfl so h
                  · refine wl_set (t := 133) (v := .bool false) (congrArg Value.bool hb) ?_; clear hb
                    refine wl_on (t := 133) rfl (by decide) rfl ?_
                    refine wl_val (at_move rfl) rfl ?_
                    refine wl_on (t := 133) rfl (by decide) rfl ?_
                    refine wl_val (at_move rfl) rfl ?_
                    refine wl_on (t := 133) rfl (by decide) rfl ?_
                    refine wl_val (at_move rfl) rfl ?_
                    refine wl_on (t := 133) rfl (by decide) rfl ?_
                    refine wl_callF (mosaiclaw04_codes.calls _ _ _ _ _ h) enter19 rfl trivial so ?_; intro x75 w76 h so
                    refine wl_on (t := 130) rfl (by decide) rfl ?_
                    refine wl_val (at_pick_f rfl rfl) rfl ?_
                    refine wl_val (at_pick_t rfl rfl) rfl ?_
                    refine wl_val (at_assign rfl) rfl ?_
                    refine wl_nil ?_
                    refine wk_prune [(6, .bool x75)] ⟨rfl, trivial⟩ (fun f1 => ?_)
                    refine wk_then ?_
                    refine wc_ret ?_
                    exact wk_ret1 (x := x75) rfl (by decide) rfl so h
                · refine wl_set (t := 130) (v := .bool false) (congrArg Value.bool hb) ?_; clear hb
                  refine wl_off (t := 130) rfl (by decide) rfl ?_
                  refine wl_off (t := 130) rfl (by decide) rfl ?_
                  refine wl_off (t := 130) rfl (by decide) rfl ?_
                  refine wl_off' (t := 133) rfl (by decide) rfl ?_
                  refine wl_off' (t := 133) rfl (by decide) rfl ?_
                  refine wl_off' (t := 133) rfl (by decide) rfl ?_
                  refine wl_off' (t := 133) rfl (by decide) rfl ?_
                  refine wl_off (t := 130) rfl (by decide) rfl ?_
                  refine wl_val (at_pick_f rfl rfl) rfl ?_
                  refine wl_val (at_assign rfl) rfl ?_
                  refine wl_nil ?_
                  refine wk_prune [(6, .bool false)] ⟨rfl, trivial⟩ (fun f1 => ?_)
                  refine wk_then ?_
                  refine wc_ret ?_
                  exact wk_ret1 (x := false) rfl (by decide) rfl so h
          · intro J56 h hJ56
            refine wc_region ?_
            refine wl_val (at_move rfl) rfl ?_
            refine wl_val (at_neqP Try.underlying32 rfl rfl) rfl ?_
            refine wl_val (at_move rfl) rfl ?_
            refine bif_ h (fun hb h => ?_) (fun hb h => ?_)
            · refine wl_set (t := 102) (v := .bool true) (congrArg Value.bool hb) ?_; clear hb
              refine wl_on (t := 102) rfl (by decide) rfl ?_
              refine wl_val (at_move rfl) rfl ?_
              refine wl_on (t := 102) rfl (by decide) rfl ?_
              refine wl_val (at_neqP Try.underlying32 rfl rfl) rfl ?_
              refine wl_val (at_pick_t rfl rfl) rfl ?_
              refine wl_nil ?_
              exact wk_prune [(2, .int .i64 a2), (9, .pointer x17.1), (11, .pointer x20.1), (13, .pointer x23.1), (15, .pointer x26.1), (105, .bool (!x20.1.isNone))] ⟨rfl, rfl, rfl, rfl, rfl, rfl, trivial⟩ (fun f1 => hJ56 ((!x20.1.isNone)) _ f1 h so)
            · refine wl_set (t := 102) (v := .bool false) (congrArg Value.bool hb) ?_; clear hb
              refine wl_off (t := 102) rfl (by decide) rfl ?_
              refine wl_off (t := 102) rfl (by decide) rfl ?_
              refine wl_val (at_pick_f rfl rfl) rfl ?_
              refine wl_nil ?_
              exact wk_prune [(2, .int .i64 a2), (9, .pointer x17.1), (11, .pointer x20.1), (13, .pointer x23.1), (15, .pointer x26.1), (105, .bool false)] ⟨rfl, rfl, rfl, rfl, rfl, rfl, trivial⟩ (fun f1 => hJ56 (false) _ f1 h so)
  · intro J29 h hJ29
    refine wc_region ?_
    refine wl_val (at_move rfl) rfl ?_
    refine wl_val (at_move rfl) rfl ?_
    refine wl_val (at_neq rfl rfl) rfl ?_
    refine wl_val (at_move rfl) rfl ?_
    refine bif_ h (fun hb h => ?_) (fun hb h => ?_)
    · refine wl_set (t := 47) (v := .bool true) (congrArg Value.bool hb) ?_; clear hb
      refine wl_off (t := 47) rfl (by decide) rfl ?_
      refine wl_off (t := 47) rfl (by decide) rfl ?_
      refine wl_off (t := 47) rfl (by decide) rfl ?_
      refine wl_val (at_pick_t rfl rfl) rfl ?_
      refine wl_val (at_move rfl) rfl ?_
      refine wl_off (t := 52) rfl (by decide) rfl ?_
      refine wl_off (t := 52) rfl (by decide) rfl ?_
      refine wl_off (t := 52) rfl (by decide) rfl ?_
      refine wl_off (t := 52) rfl (by decide) rfl ?_
      refine wl_off (t := 52) rfl (by decide) rfl ?_
      refine wl_val (at_pick_t rfl rfl) rfl ?_
      refine wl_val (at_move rfl) rfl ?_
      refine wl_off (t := 59) rfl (by decide) rfl ?_
      refine wl_off (t := 59) rfl (by decide) rfl ?_
      refine wl_off (t := 59) rfl (by decide) rfl ?_
      refine wl_off (t := 59) rfl (by decide) rfl ?_
      refine wl_off (t := 59) rfl (by decide) rfl ?_
      refine wl_val (at_pick_t rfl rfl) rfl ?_
      refine wl_val (at_move rfl) rfl ?_
      refine wl_off (t := 66) rfl (by decide) rfl ?_
      refine wl_off (t := 66) rfl (by decide) rfl ?_
      refine wl_off (t := 66) rfl (by decide) rfl ?_
      refine wl_off (t := 66) rfl (by decide) rfl ?_
      refine wl_val (at_pick_t rfl rfl) rfl ?_
      refine wl_val (at_move rfl) rfl ?_
      refine wl_off (t := 72) rfl (by decide) rfl ?_
      refine wl_off (t := 72) rfl (by decide) rfl ?_
      refine wl_off (t := 72) rfl (by decide) rfl ?_
      refine wl_off (t := 72) rfl (by decide) rfl ?_
      refine wl_val (at_pick_t rfl rfl) rfl ?_
      refine wl_nil ?_
      exact wk_prune [(2, .int .i64 a2), (7, .pointer (some (⟨b8, 0, none⟩ : Addr))), (8, .pointer (some (⟨b14, 0, none⟩ : Addr))), (9, .pointer x17.1), (11, .pointer x20.1), (13, .pointer x23.1), (15, .pointer x26.1), (77, .bool true)] ⟨rfl, rfl, rfl, rfl, rfl, rfl, rfl, rfl, trivial⟩ (fun f1 => hJ29 (true) _ f1 h ⟨t_b8, t_b14, trivial⟩ so)
    · refine wl_set (t := 47) (v := .bool false) (congrArg Value.bool hb) ?_; clear hb
      refine wl_on (t := 47) rfl (by decide) rfl ?_
      refine wl_val (at_move rfl) rfl ?_
      refine wl_on (t := 47) rfl (by decide) rfl ?_
      refine wl_val (at_move rfl) rfl ?_
      refine wl_on (t := 47) rfl (by decide) rfl ?_
      refine wl_val (at_neq rfl rfl) rfl ?_
      refine wl_val (at_pick_f rfl rfl) rfl ?_
      refine wl_val (at_move rfl) rfl ?_
      refine bif_ h (fun hb h => ?_) (fun hb h => ?_)
      · refine wl_set (t := 52) (v := .bool true) (congrArg Value.bool hb) ?_; clear hb
        refine wl_off (t := 52) rfl (by decide) rfl ?_
        refine wl_off (t := 52) rfl (by decide) rfl ?_
        refine wl_off (t := 52) rfl (by decide) rfl ?_
        refine wl_off (t := 52) rfl (by decide) rfl ?_
        refine wl_off (t := 52) rfl (by decide) rfl ?_
        refine wl_val (at_pick_t rfl rfl) rfl ?_
        refine wl_val (at_move rfl) rfl ?_
        refine wl_off (t := 59) rfl (by decide) rfl ?_
        refine wl_off (t := 59) rfl (by decide) rfl ?_
        refine wl_off (t := 59) rfl (by decide) rfl ?_
        refine wl_off (t := 59) rfl (by decide) rfl ?_
        refine wl_off (t := 59) rfl (by decide) rfl ?_
        refine wl_val (at_pick_t rfl rfl) rfl ?_
        refine wl_val (at_move rfl) rfl ?_
        refine wl_off (t := 66) rfl (by decide) rfl ?_
        refine wl_off (t := 66) rfl (by decide) rfl ?_
        refine wl_off (t := 66) rfl (by decide) rfl ?_
        refine wl_off (t := 66) rfl (by decide) rfl ?_
        refine wl_val (at_pick_t rfl rfl) rfl ?_
        refine wl_val (at_move rfl) rfl ?_
        refine wl_off (t := 72) rfl (by decide) rfl ?_
        refine wl_off (t := 72) rfl (by decide) rfl ?_
        refine wl_off (t := 72) rfl (by decide) rfl ?_
        refine wl_off (t := 72) rfl (by decide) rfl ?_
        refine wl_val (at_pick_t rfl rfl) rfl ?_
        refine wl_nil ?_
        exact wk_prune [(2, .int .i64 a2), (7, .pointer (some (⟨b8, 0, none⟩ : Addr))), (8, .pointer (some (⟨b14, 0, none⟩ : Addr))), (9, .pointer x17.1), (11, .pointer x20.1), (13, .pointer x23.1), (15, .pointer x26.1), (77, .bool true)] ⟨rfl, rfl, rfl, rfl, rfl, rfl, rfl, rfl, trivial⟩ (fun f1 => hJ29 (true) _ f1 h ⟨t_b8, t_b14, trivial⟩ so)
      · refine wl_set (t := 52) (v := .bool false) (congrArg Value.bool hb) ?_; clear hb
        refine wl_on (t := 52) rfl (by decide) rfl ?_
        refine wl_val (at_move rfl) rfl ?_
        refine wl_on (t := 52) rfl (by decide) rfl ?_
        refine wl_val (at_neqP Try.underlying32 rfl rfl) rfl ?_
        refine wl_on (t := 52) rfl (by decide) rfl ?_
        refine wl_val (at_move rfl) rfl ?_
        refine wl_on (t := 52) rfl (by decide) rfl ?_
        refine wl_val (at_eql rfl rfl) rfl ?_
        refine wl_on (t := 52) rfl (by decide) rfl ?_
        refine wl_val (at_neqB Try.underlying4 rfl rfl) rfl ?_
        refine wl_val (at_pick_f rfl rfl) rfl ?_
        refine wl_val (at_move rfl) rfl ?_
        refine bif_ h (fun hb h => ?_) (fun hb h => ?_)
        · refine wl_set (t := 59) (v := .bool true) (congrArg Value.bool hb) ?_; clear hb
          refine wl_off (t := 59) rfl (by decide) rfl ?_
          refine wl_off (t := 59) rfl (by decide) rfl ?_
          refine wl_off (t := 59) rfl (by decide) rfl ?_
          refine wl_off (t := 59) rfl (by decide) rfl ?_
          refine wl_off (t := 59) rfl (by decide) rfl ?_
          refine wl_val (at_pick_t rfl rfl) rfl ?_
          refine wl_val (at_move rfl) rfl ?_
          refine wl_off (t := 66) rfl (by decide) rfl ?_
          refine wl_off (t := 66) rfl (by decide) rfl ?_
          refine wl_off (t := 66) rfl (by decide) rfl ?_
          refine wl_off (t := 66) rfl (by decide) rfl ?_
          refine wl_val (at_pick_t rfl rfl) rfl ?_
          refine wl_val (at_move rfl) rfl ?_
          refine wl_off (t := 72) rfl (by decide) rfl ?_
          refine wl_off (t := 72) rfl (by decide) rfl ?_
          refine wl_off (t := 72) rfl (by decide) rfl ?_
          refine wl_off (t := 72) rfl (by decide) rfl ?_
          refine wl_val (at_pick_t rfl rfl) rfl ?_
          refine wl_nil ?_
          exact wk_prune [(2, .int .i64 a2), (7, .pointer (some (⟨b8, 0, none⟩ : Addr))), (8, .pointer (some (⟨b14, 0, none⟩ : Addr))), (9, .pointer x17.1), (11, .pointer x20.1), (13, .pointer x23.1), (15, .pointer x26.1), (77, .bool true)] ⟨rfl, rfl, rfl, rfl, rfl, rfl, rfl, rfl, trivial⟩ (fun f1 => hJ29 (true) _ f1 h ⟨t_b8, t_b14, trivial⟩ so)
        · refine wl_set (t := 59) (v := .bool false) (congrArg Value.bool hb) ?_; clear hb
          refine wl_on (t := 59) rfl (by decide) rfl ?_
          refine wl_val (at_move rfl) rfl ?_
          refine wl_on (t := 59) rfl (by decide) rfl ?_
          refine wl_val (at_neqP Try.underlying32 rfl rfl) rfl ?_
          refine wl_on (t := 59) rfl (by decide) rfl ?_
          refine wl_val (at_move rfl) rfl ?_
          refine wl_on (t := 59) rfl (by decide) rfl ?_
          refine wl_val (at_eql rfl rfl) rfl ?_
          refine wl_on (t := 59) rfl (by decide) rfl ?_
          refine wl_val (at_neqB Try.underlying4 rfl rfl) rfl ?_
          refine wl_val (at_pick_f rfl rfl) rfl ?_
          refine wl_val (at_move rfl) rfl ?_
          refine bif_ h (fun hb h => ?_) (fun hb h => ?_)
          · refine wl_set (t := 66) (v := .bool true) (congrArg Value.bool hb) ?_; clear hb
            refine wl_off (t := 66) rfl (by decide) rfl ?_
            refine wl_off (t := 66) rfl (by decide) rfl ?_
            refine wl_off (t := 66) rfl (by decide) rfl ?_
            refine wl_off (t := 66) rfl (by decide) rfl ?_
            refine wl_val (at_pick_t rfl rfl) rfl ?_
            refine wl_val (at_move rfl) rfl ?_
            refine wl_off (t := 72) rfl (by decide) rfl ?_
            refine wl_off (t := 72) rfl (by decide) rfl ?_
            refine wl_off (t := 72) rfl (by decide) rfl ?_
            refine wl_off (t := 72) rfl (by decide) rfl ?_
            refine wl_val (at_pick_t rfl rfl) rfl ?_
            refine wl_nil ?_
            exact wk_prune [(2, .int .i64 a2), (7, .pointer (some (⟨b8, 0, none⟩ : Addr))), (8, .pointer (some (⟨b14, 0, none⟩ : Addr))), (9, .pointer x17.1), (11, .pointer x20.1), (13, .pointer x23.1), (15, .pointer x26.1), (77, .bool true)] ⟨rfl, rfl, rfl, rfl, rfl, rfl, rfl, rfl, trivial⟩ (fun f1 => hJ29 (true) _ f1 h ⟨t_b8, t_b14, trivial⟩ so)
          · refine wl_set (t := 66) (v := .bool false) (congrArg Value.bool hb) ?_; clear hb
            refine wl_on (t := 66) rfl (by decide) rfl ?_
            refine wl_val (at_loadA (cs := (c25 x5.1 x5.2)) Try.underlying25 rfl (by rw [len25]; exact sz25) rfl (ldA_full t_b8)) rfl ?_
            refine wl_on (t := 66) rfl (by decide) rfl ?_
            refine wl_val (at_loadA (cs := (c25 a0_0 a0_1)) Try.underlying25 rfl (by rw [len25]; exact sz25) rfl (ldA_full t_b1)) rfl ?_
            refine wl_on (t := 66) rfl (by decide) rfl ?_
            refine wl_callF (mosaiclaw04_kept.calls _ _ _ _ _ _ h) enter16 rfl trivial so ?_; intro x77 w78 h so
            obtain ⟨q79, h⟩ := h
            replace t_b3 := pv_bk q79 t_b3 (by simp)
            replace t_b8 := pv_bk q79 t_b8 (by simp)
            replace t_b14 := pv_bk q79 t_b14 (by simp)
            refine wl_on (t := 66) rfl (by decide) rfl ?_
            refine wl_val (at_not rfl) rfl ?_
            refine wl_val (at_pick_f rfl rfl) rfl ?_
            refine wl_val (at_move rfl) rfl ?_
            refine bif_ h (fun hb h => ?_) (fun hb h => ?_)
            · refine wl_set (t := 72) (v := .bool true) (congrArg Value.bool hb) ?_; clear hb
              refine wl_off (t := 72) rfl (by decide) rfl ?_
              refine wl_off (t := 72) rfl (by decide) rfl ?_
              refine wl_off (t := 72) rfl (by decide) rfl ?_
              refine wl_off (t := 72) rfl (by decide) rfl ?_
              refine wl_val (at_pick_t rfl rfl) rfl ?_
              refine wl_nil ?_
              exact wk_prune [(2, .int .i64 a2), (7, .pointer (some (⟨b8, 0, none⟩ : Addr))), (8, .pointer (some (⟨b14, 0, none⟩ : Addr))), (9, .pointer x17.1), (11, .pointer x20.1), (13, .pointer x23.1), (15, .pointer x26.1), (77, .bool true)] ⟨rfl, rfl, rfl, rfl, rfl, rfl, rfl, rfl, trivial⟩ (fun f1 => hJ29 (true) _ f1 h ⟨t_b8, t_b14, trivial⟩ so)
            · refine wl_set (t := 72) (v := .bool false) (congrArg Value.bool hb) ?_; clear hb
              refine wl_on (t := 72) rfl (by decide) rfl ?_
              refine wl_val (at_loadA (cs := (c25 x11.1 x11.2)) Try.underlying25 rfl (by rw [len25]; exact sz25) rfl (ldA_full t_b14)) rfl ?_
              refine wl_on (t := 72) rfl (by decide) rfl ?_
              refine wl_val (at_loadA (cs := (c25 a1_0 a1_1)) Try.underlying25 rfl (by rw [len25]; exact sz25) rfl (ldA_full t_b3)) rfl ?_
              refine wl_on (t := 72) rfl (by decide) rfl ?_
              refine wl_callF (mosaiclaw04_kept.calls _ _ _ _ _ _ h) enter16 rfl trivial so ?_; intro x80 w81 h so
              obtain ⟨q82, h⟩ := h
              replace t_b8 := pv_bk q82 t_b8 (by simp)
              replace t_b14 := pv_bk q82 t_b14 (by simp)
              refine wl_on (t := 72) rfl (by decide) rfl ?_
              refine wl_val (at_not rfl) rfl ?_
              refine wl_val (at_pick_f rfl rfl) rfl ?_
              refine wl_nil ?_
              exact wk_prune [(2, .int .i64 a2), (7, .pointer (some (⟨b8, 0, none⟩ : Addr))), (8, .pointer (some (⟨b14, 0, none⟩ : Addr))), (9, .pointer x17.1), (11, .pointer x20.1), (13, .pointer x23.1), (15, .pointer x26.1), (77, .bool (!x80))] ⟨rfl, rfl, rfl, rfl, rfl, rfl, rfl, rfl, trivial⟩ (fun f1 => hJ29 ((!x80)) _ f1 h ⟨t_b8, t_b14, trivial⟩ so)
end Go.Proofs.Ytbefacccdaafeaa.G
