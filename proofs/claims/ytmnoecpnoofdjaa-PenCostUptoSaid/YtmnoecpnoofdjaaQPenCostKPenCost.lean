/- Of this text what the row needs. -/
import Derived.Test.YtmnoecpnoofdjaaQPenCostKshelf
import Derived.Test.YtmnoecpnoofdjaaQPenCostKmosaiclaw18
import Derived.Test.YtmnoecpnoofdjaaQPenCostKpen
namespace Go.Proofs.Ytmnoecpnoofdjaa.G
open Go.RowKit
set_option linter.unusedVariables false
set_option linter.unusedSimpArgs false
def mosaiclaw18_PenCost.enc : Bool → Value := fun r => .bool r
def mosaiclaw18_PenCost.s (a0_0 : Int) (a0_1 : Int) (a0_2 : Int) (a0_3 : Sl) (a0_4 : Sl) (a0_5 : Ints 16) (a0_6 : Sl) (a0_7 : Ints 16) (a0_8 : Sl) (a0_9 : Ints 16) (a0_10 : Sl) (a0_11 : Ints 16) (a0_12 : Sl) (a0_13 : Ints 16) (a0_14 : Sl) (a0_15 : Ints 16) (a0_16 : Sl) (a0_17 : Ints 16) (a0_18 : Sl) (a0_19 : Ints 16) (a0_20 : Sl) (a0_21 : Int) (a0_22 : Int) (a1 : Sl) (H0 : Hp) (Q : Bool → Hp → Prop) : Prop :=
  Gn [] H0 (fun (b1 : Nat) (H2 : Hp) => mosaiclaw18_awake.s H2 (fun x3 H4 => Pv [b1] H2 H4 ∧ (mosaiclaw18_twin.s a0_0 a0_1 a0_2 a0_3 a0_4 a0_5 a0_6 a0_7 a0_8 a0_9 a0_10 a0_11 a0_12 a0_13 a0_14 a0_15 a0_16 a0_17 a0_18 a0_19 a0_20 a0_21 a0_22 H4 (fun x6 H7 => Pv [b1] H4 H7 ∧ (pen_Encode.s x6.1 x6.2.1 x6.2.2.1 x6.2.2.2.1 x6.2.2.2.2.1 x6.2.2.2.2.2.1 x6.2.2.2.2.2.2.1 x6.2.2.2.2.2.2.2.1 x6.2.2.2.2.2.2.2.2.1 x6.2.2.2.2.2.2.2.2.2.1 x6.2.2.2.2.2.2.2.2.2.2.1 x6.2.2.2.2.2.2.2.2.2.2.2.1 x6.2.2.2.2.2.2.2.2.2.2.2.2.1 x6.2.2.2.2.2.2.2.2.2.2.2.2.2.1 x6.2.2.2.2.2.2.2.2.2.2.2.2.2.2.1 x6.2.2.2.2.2.2.2.2.2.2.2.2.2.2.2.1 x6.2.2.2.2.2.2.2.2.2.2.2.2.2.2.2.2.1 x6.2.2.2.2.2.2.2.2.2.2.2.2.2.2.2.2.2.1 x6.2.2.2.2.2.2.2.2.2.2.2.2.2.2.2.2.2.2.1 x6.2.2.2.2.2.2.2.2.2.2.2.2.2.2.2.2.2.2.2.1 x6.2.2.2.2.2.2.2.2.2.2.2.2.2.2.2.2.2.2.2.2.1 x6.2.2.2.2.2.2.2.2.2.2.2.2.2.2.2.2.2.2.2.2.2.1 x6.2.2.2.2.2.2.2.2.2.2.2.2.2.2.2.2.2.2.2.2.2.2 a1 H7 (fun x9 H10 => Pv [b1] H7 H10 ∧ (mosaiclaw18_twin.s a0_0 a0_1 a0_2 a0_3 a0_4 a0_5 a0_6 a0_7 a0_8 a0_9 a0_10 a0_11 a0_12 a0_13 a0_14 a0_15 a0_16 a0_17 a0_18 a0_19 a0_20 a0_21 a0_22 H10 (fun x12 H13 => Pv [b1] H10 H13 ∧ (pen_Count.s x12.1 x12.2.1 x12.2.2.1 x12.2.2.2.1 x12.2.2.2.2.1 x12.2.2.2.2.2.1 x12.2.2.2.2.2.2.1 x12.2.2.2.2.2.2.2.1 x12.2.2.2.2.2.2.2.2.1 x12.2.2.2.2.2.2.2.2.2.1 x12.2.2.2.2.2.2.2.2.2.2.1 x12.2.2.2.2.2.2.2.2.2.2.2.1 x12.2.2.2.2.2.2.2.2.2.2.2.2.1 x12.2.2.2.2.2.2.2.2.2.2.2.2.2.1 x12.2.2.2.2.2.2.2.2.2.2.2.2.2.2.1 x12.2.2.2.2.2.2.2.2.2.2.2.2.2.2.2.1 x12.2.2.2.2.2.2.2.2.2.2.2.2.2.2.2.2.1 x12.2.2.2.2.2.2.2.2.2.2.2.2.2.2.2.2.2.1 x12.2.2.2.2.2.2.2.2.2.2.2.2.2.2.2.2.2.2.1 x12.2.2.2.2.2.2.2.2.2.2.2.2.2.2.2.2.2.2.2.1 x12.2.2.2.2.2.2.2.2.2.2.2.2.2.2.2.2.2.2.2.2.1 x12.2.2.2.2.2.2.2.2.2.2.2.2.2.2.2.2.2.2.2.2.2.1 x12.2.2.2.2.2.2.2.2.2.2.2.2.2.2.2.2.2.2.2.2.2.2 a1 H13 (fun x15 H16 => Pv [b1] H13 H16 ∧ (Gn [] H16 (fun (b18 : Nat) (H19 : Hp) => Gn [b18] H19 (fun (b20 : Nat) (H23 : Hp) => Join (fun (s25 : Bool) (H26 : Hp) => if s25 = true then (Join (fun (s28 : Bool) (H29 : Hp) => Q s28 H29) (fun (J27 : Bool → Hp → Prop) => if x3 = true then (if (x15.2.2.2.2.2.2.2.2 == 0) = true then (J27 (true) H26) else (J27 ((x9.2 != 0)) H26)) else (J27 (false) H26))) else (Bk H26 b1 32 (c32 a0_0 a0_1 a0_2 a0_3 a0_4 a0_5 a0_6 a0_7 a0_8 a0_9 a0_10 a0_11 a0_12 a0_13 a0_14 a0_15 a0_16 a0_17 a0_18 a0_19 a0_20 a0_21 a0_22) → (Bk H26 b18 40 (c40 x15.1 x15.2.1 x15.2.2.1 x15.2.2.2.1) → (Bk H26 b20 40 (c40 x15.2.2.2.2.1 x15.2.2.2.2.2.1 x15.2.2.2.2.2.2.1 x15.2.2.2.2.2.2.2.1) → (∃ k30, Fix (fun (rec35 : (Bool × Int × Int) → Hp → Prop) (s32 : Bool × Int × Int) (H33 : Hp) => if decide (s32.2.2 < 4) = true then (Join (fun (s37 : Bool × Int) (H38 : Hp) => rec35 (s37.1, s37.2, (IntKind.wrap .i64 (s32.2.2 + 1))) H38) (fun (J36 : (Bool × Int) → Hp → Prop) => ∃ k39, Fix (fun (rec44 : (Bool × Bool × Int) → Hp → Prop) (s41 : Bool × Bool × Int) (H42 : Hp) => if decide (s41.2.2 < 256) = true then (Join (fun (s46 : Bool × Bool) (H47 : Hp) => rec44 (s46.1, s46.2, (IntKind.wrap .i64 (s41.2.2 + 1))) H47) (fun (J45 : (Bool × Bool) → Hp → Prop) => Join (fun (s49 : Bool) (H50 : Hp) => if s41.2.1 = true then (J45 (s49, true) H50) else (0 ≤ s32.2.2 ∧ s32.2.2 < (4 : Int) ∧ (0 ≤ s41.2.2 ∧ s41.2.2 < (256 : Int) ∧ (ldI .i64 H50 (((⟨b20, 0, none⟩ : Addr).add (Int.toNat s32.2.2 * 256)).add (Int.toNat s41.2.2 * 1)) (fun x55 => J45 (s49, (decide ((0 : Int) < x55))) H50))))) (fun (J48 : Bool → Hp → Prop) => if s41.1 = true then (J48 (true) H42) else (0 ≤ s32.2.2 ∧ s32.2.2 < (4 : Int) ∧ (0 ≤ s41.2.2 ∧ s41.2.2 < (256 : Int) ∧ (ldI .i64 H42 (((⟨b18, 0, none⟩ : Addr).add (Int.toNat s32.2.2 * 256)).add (Int.toNat s41.2.2 * 1)) (fun x61 => J48 ((decide ((0 : Int) < x61))) H42))))))) else (Join (fun (s64 : Bool × Int) (H65 : Hp) => if s41.2.1 = true then (0 ≤ s32.2.2 ∧ s32.2.2 < (4 : Int) ∧ (0 ≤ s32.2.2 ∧ s32.2.2 < (4 : Int) ∧ (∃ x71 : Ints 16, ∃ x72 : Sl, ldA H65 ((⟨b1, 73, none⟩ : Addr).add (Int.toNat s32.2.2 * 17)) (c29 x71 x72) ∧ (∃ x74 : Ints 256, ldA H65 ((⟨b20, 0, none⟩ : Addr).add (Int.toNat s32.2.2 * 256)) (c39 x74) ∧ (mosaiclaw18_bits.s x71 x72 x74 false H65 (fun x76 H77 => if s64.1 = true then (J36 (x76.2, (IntKind.wrap .i64 (s64.2 + x76.1))) H77) else (J36 (false, (IntKind.wrap .i64 (s64.2 + x76.1))) H77))))))) else (J36 (s64.1, s64.2) H65)) (fun (J63 : (Bool × Int) → Hp → Prop) => if s41.1 = true then (0 ≤ s32.2.2 ∧ s32.2.2 < (4 : Int) ∧ (0 ≤ s32.2.2 ∧ s32.2.2 < (4 : Int) ∧ (∃ x83 : Ints 16, ∃ x84 : Sl, ldA H42 ((⟨b1, 5, none⟩ : Addr).add (Int.toNat s32.2.2 * 17)) (c29 x83 x84) ∧ (∃ x86 : Ints 256, ldA H42 ((⟨b18, 0, none⟩ : Addr).add (Int.toNat s32.2.2 * 256)) (c39 x86) ∧ (mosaiclaw18_bits.s x83 x84 x86 true H42 (fun x88 H89 => if s32.1 = true then (J63 (x88.2, (IntKind.wrap .i64 (s32.2.1 + x88.1))) H89) else (J63 (false, (IntKind.wrap .i64 (s32.2.1 + x88.1))) H89))))))) else (J63 (s32.1, s32.2.1) H42)))) k39 (false, false, 0) H33)) else (∃ k90, Fix (fun (rec95 : (Int × Int) → Hp → Prop) (s92 : Int × Int) (H93 : Hp) => if decide (s92.2 < (x9.1.size : Int)) = true then (Join (fun (s97 : Int) (H98 : Hp) => rec95 (s97, (IntKind.wrap .i64 (s92.2 + 1))) H98) (fun (J96 : Int → Hp → Prop) => 0 ≤ s92.2 ∧ s92.2 < (x9.1.size : Int) ∧ (if ((bt x9.1 s92.2) == 255) = true then (J96 ((IntKind.wrap .i64 (s92.1 + 1))) H93) else (J96 (s92.1) H93)))) else (if s32.1 = true then (Q ((IntKind.wrap .i64 ((x9.1.size : Int) - s92.1)) == (IntKind.wrap .i64 (Int.tdiv (IntKind.wrap .i64 (s32.2.1 + 7)) 8))) H93) else (Q false H93))) k90 (0, 0) H33)) k30 (x3, 0, 0) H26))))) (fun (J24 : Bool → Hp → Prop) => if (x9.2 != 0) = true then (J24 (true) H23) else (J24 ((x15.2.2.2.2.2.2.2.2 != 0)) H23)))))))))))))))
set_option maxRecDepth 20000 in
set_option maxHeartbeats 4000000 in
theorem mosaiclaw18_PenCost.calls (a0_0 : Int) (a0_1 : Int) (a0_2 : Int) (a0_3 : Sl) (a0_4 : Sl) (a0_5 : Ints 16) (a0_6 : Sl) (a0_7 : Ints 16) (a0_8 : Sl) (a0_9 : Ints 16) (a0_10 : Sl) (a0_11 : Ints 16) (a0_12 : Sl) (a0_13 : Ints 16) (a0_14 : Sl) (a0_15 : Ints 16) (a0_16 : Sl) (a0_17 : Ints 16) (a0_18 : Sl) (a0_19 : Ints 16) (a0_20 : Sl) (a0_21 : Int) (a0_22 : Int) (a1 : Sl) (w0 : World) (Q : Bool → Hp → Prop) (h : mosaiclaw18_PenCost.s a0_0 a0_1 a0_2 a0_3 a0_4 a0_5 a0_6 a0_7 a0_8 a0_9 a0_10 a0_11 a0_12 a0_13 a0_14 a0_15 a0_16 a0_17 a0_18 a0_19 a0_20 a0_21 a0_22 a1 w0.heap Q) :
    Ca Try.prog 3 #[.agg (c32 a0_0 a0_1 a0_2 a0_3 a0_4 a0_5 a0_6 a0_7 a0_8 a0_9 a0_10 a0_11 a0_12 a0_13 a0_14 a0_15 a0_16 a0_17 a0_18 a0_19 a0_20 a0_21 a0_22).toArray, .slice a1.a a1.n a1.c] w0 (Rt mosaiclaw18_PenCost.enc Q w0) := by
  refine ca_start (c := _) Try.func3 rfl Try.ntmps3 rfl ?_
  have so : Sm w0 w0 := Sm.refl w0
  unfold mosaiclaw18_PenCost.s at h
  refine wc_prune [(0, .agg (c32 a0_0 a0_1 a0_2 a0_3 a0_4 a0_5 a0_6 a0_7 a0_8 a0_9 a0_10 a0_11 a0_12 a0_13 a0_14 a0_15 a0_16 a0_17 a0_18 a0_19 a0_20 a0_21 a0_22).toArray), (1, .slice a1.a a1.n a1.c)] ⟨rfl, rfl, trivial⟩ (fun f1 => ?_)
  refine wc_seq ?_
  refine wc_region ?_
  refine wl_newT (T := 32) (cs := (c32 a0_0 a0_1 a0_2 a0_3 a0_4 a0_5 a0_6 a0_7 a0_8 a0_9 a0_10 a0_11 a0_12 a0_13 a0_14 a0_15 a0_16 a0_17 a0_18 a0_19 a0_20 a0_21 a0_22)) (ef_box rfl rfl) rfl so ?_; intro b1 w2 hb_b1 t_b1 k_b1 so
  have g_b1 := Nat.le_of_eq hb_b1.symm
  have hc := k_b1.ch (F := [])
  refine wl_val (at_assign rfl) rfl ?_
  refine wl_nil ?_
  refine wk_prune [(1, .slice a1.a a1.n a1.c), (2, .pointer (some (⟨b1, 0, none⟩ : Addr)))] ⟨rfl, rfl, trivial⟩ (fun f1 => ?_)
  refine wk_then ?_
  refine wc_seq ?_
  refine wc_region ?_
  replace h := h b1 _ hc g_b1 t_b1.lt; clear hc
  refine wl_callF (mosaiclaw18_awake.calls _ _ h) enter5 rfl trivial so ?_; intro x3 w4 h so
  obtain ⟨q5, h⟩ := h
  replace t_b1 := pv_bk q5 t_b1 (by simp)
  refine wl_val (at_assign rfl) rfl ?_
  refine wl_nil ?_
  refine wk_prune [(1, .slice a1.a a1.n a1.c), (2, .pointer (some (⟨b1, 0, none⟩ : Addr))), (5, .bool x3)] ⟨rfl, rfl, rfl, trivial⟩ (fun f1 => ?_)
  refine wk_then ?_
  refine wc_seq ?_
  refine wc_region ?_
  refine wl_val (at_loadA (cs := (c32 a0_0 a0_1 a0_2 a0_3 a0_4 a0_5 a0_6 a0_7 a0_8 a0_9 a0_10 a0_11 a0_12 a0_13 a0_14 a0_15 a0_16 a0_17 a0_18 a0_19 a0_20 a0_21 a0_22)) Try.underlying32 rfl (by rw [len32]; exact sz32) rfl (ldA_full t_b1)) rfl ?_
  refine wl_callF (mosaiclaw18_twin.calls _ _ _ _ _ _ _ _ _ _ _ _ _ _ _ _ _ _ _ _ _ _ _ _ _ h) enter7 rfl trivial so ?_; intro x6 w7 h so
  obtain ⟨q8, h⟩ := h
  replace t_b1 := pv_bk q8 t_b1 (by simp)
  refine wl_val (at_move rfl) rfl ?_
  refine wl_callF (pen_Encode.calls _ _ _ _ _ _ _ _ _ _ _ _ _ _ _ _ _ _ _ _ _ _ _ _ _ _ h) enter6 rfl trivial so ?_; intro x9 w10 h so
  obtain ⟨q11, h⟩ := h
  replace t_b1 := pv_bk q11 t_b1 (by simp)
  refine wl_val (at_move rfl) rfl ?_
  refine wl_val (at_extract rfl rfl) rfl ?_
  refine wl_val (at_extract rfl rfl) rfl ?_
  refine wl_val (at_assign rfl) rfl ?_
  refine wl_val (at_assign rfl) rfl ?_
  refine wl_nil ?_
  refine wk_prune [(1, .slice a1.a a1.n a1.c), (2, .pointer (some (⟨b1, 0, none⟩ : Addr))), (5, .bool x3), (6, .string x9.1), (7, .int .i64 x9.2)] ⟨rfl, rfl, rfl, rfl, rfl, trivial⟩ (fun f1 => ?_)
  refine wk_then ?_
  refine wc_seq ?_
  refine wc_region ?_
  refine wl_val (at_loadA (cs := (c32 a0_0 a0_1 a0_2 a0_3 a0_4 a0_5 a0_6 a0_7 a0_8 a0_9 a0_10 a0_11 a0_12 a0_13 a0_14 a0_15 a0_16 a0_17 a0_18 a0_19 a0_20 a0_21 a0_22)) Try.underlying32 rfl (by rw [len32]; exact sz32) rfl (ldA_full t_b1)) rfl ?_
  refine wl_callF (mosaiclaw18_twin.calls _ _ _ _ _ _ _ _ _ _ _ _ _ _ _ _ _ _ _ _ _ _ _ _ _ h) enter7 rfl trivial so ?_; intro x12 w13 h so
  obtain ⟨q14, h⟩ := h
  replace t_b1 := pv_bk q14 t_b1 (by simp)
  refine wl_val (at_move rfl) rfl ?_
  refine wl_callF (pen_Count.calls _ _ _ _ _ _ _ _ _ _ _ _ _ _ _ _ _ _ _ _ _ _ _ _ _ _ h) enter8 rfl trivial so ?_; intro x15 w16 h so
  obtain ⟨q17, h⟩ := h
  replace t_b1 := pv_bk q17 t_b1 (by simp)
  refine wl_val (at_move rfl) rfl ?_
  refine wl_val (at_extract rfl rfl) rfl ?_
  refine wl_val (at_extract rfl rfl) rfl ?_
  refine wl_val (at_extract rfl rfl) rfl ?_
  refine wl_newT (T := 40) (cs := (c40 (zInts 256) (zInts 256) (zInts 256) (zInts 256))) (ef_alloc zero40 rfl) rfl so ?_; intro b18 w19 hb_b18 t_b18 k_b18 so
  have g_b18 := Nat.le_of_eq hb_b18.symm
  have hc := k_b18.ch (F := [])
  have n_b1_b18 : b1 ≠ b18 := fun e => by have := t_b1.lt; omega
  replace t_b1 := t_b1.keep k_b18
  replace h := h b18 _ hc g_b18 t_b18.lt; clear hc
  refine wl_newT (T := 40) (cs := (c40 (zInts 256) (zInts 256) (zInts 256) (zInts 256))) (ef_alloc zero40 rfl) rfl so ?_; intro b20 w21 hb_b20 t_b20 k_b20 so
  have g_b20 := Nat.le_of_eq hb_b20.symm
  have hc := k_b20.ch (F := [])
  have n_b1_b20 : b1 ≠ b20 := fun e => by have := t_b1.lt; omega
  replace t_b1 := t_b1.keep k_b20
  have n_b18_b20 : b18 ≠ b20 := fun e => by have := t_b18.lt; omega
  replace t_b18 := t_b18.keep k_b20
  refine wl_stWT (vs := (c40 x15.1 x15.2.1 x15.2.2.1 x15.2.2.2.1)) t_b18 (by first | (rw [len40, len40]) | (rw [len40]) | rfl) rfl so (fun q => ef_storeA (p := (⟨b18, 0, none⟩ : Addr)) (cs := (c40 x15.1 x15.2.1 x15.2.2.1 x15.2.2.2.1)) (by rw [len40]; exact sz40) rfl rfl (one40 _ _ _ _) q) ?_; intro w22 t_b18 s_w22 so
  replace t_b1 := t_b1.same s_w22 (n_b1_b18)
  replace t_b20 := t_b20.same s_w22 (Ne.symm n_b18_b20)
  replace hc := ch_more hc s_w22
  refine wl_stWT (vs := (c40 x15.2.2.2.2.1 x15.2.2.2.2.2.1 x15.2.2.2.2.2.2.1 x15.2.2.2.2.2.2.2.1)) t_b20 (by first | (rw [len40, len40]) | (rw [len40]) | rfl) rfl so (fun q => ef_storeA (p := (⟨b20, 0, none⟩ : Addr)) (cs := (c40 x15.2.2.2.2.1 x15.2.2.2.2.2.1 x15.2.2.2.2.2.2.1 x15.2.2.2.2.2.2.2.1)) (by rw [len40]; exact sz40) rfl rfl (one40 _ _ _ _) q) ?_; intro w23 t_b20 s_w23 so
  replace t_b1 := t_b1.same s_w23 (n_b1_b20)
  replace t_b18 := t_b18.same s_w23 (n_b18_b20)
  replace hc := ch_same hc s_w23 (.inr g_b20)
  refine wl_val (at_assign rfl) rfl ?_
  refine wl_nil ?_
  refine wk_prune [(2, .pointer (some (⟨b1, 0, none⟩ : Addr))), (5, .bool x3), (6, .string x9.1), (7, .int .i64 x9.2), (8, .pointer (some (⟨b18, 0, none⟩ : Addr))), (9, .pointer (some (⟨b20, 0, none⟩ : Addr))), (10, .int .i64 x15.2.2.2.2.2.2.2.2)] ⟨rfl, rfl, rfl, rfl, rfl, rfl, rfl, trivial⟩ (fun f1 => ?_)
  refine wk_then ?_
  refine wc_seq ?_
  replace h := h b20 _ hc g_b20 t_b20.lt; clear hc
  refine wc_seq ?_
  refine wc_joinG (w0 := w0) (fun (H : Hp) => Bk H b1 32 (c32 a0_0 a0_1 a0_2 a0_3 a0_4 a0_5 a0_6 a0_7 a0_8 a0_9 a0_10 a0_11 a0_12 a0_13 a0_14 a0_15 a0_16 a0_17 a0_18 a0_19 a0_20 a0_21 a0_22) ∧ Bk H b18 40 (c40 x15.1 x15.2.1 x15.2.2.1 x15.2.2.2.1) ∧ Bk H b20 40 (c40 x15.2.2.2.2.1 x15.2.2.2.2.2.1 x15.2.2.2.2.2.2.1 x15.2.2.2.2.2.2.2.1) ∧ True) (fun (s25 : Bool) => [(2, .pointer (some (⟨b1, 0, none⟩ : Addr))), (5, .bool x3), (6, .string x9.1), (7, .int .i64 x9.2), (8, .pointer (some (⟨b18, 0, none⟩ : Addr))), (9, .pointer (some (⟨b20, 0, none⟩ : Addr))), (10, .int .i64 x15.2.2.2.2.2.2.2.2), (43, .bool s25)]) (fun (s25 : Bool) => []) h ?_ ?_
  · rintro s25 w26 f1 h ⟨t_b1, t_b18, t_b20, _⟩ so; refine wk_then ?_
    refine wc_cond rfl h (fun h => ?_) (fun h => ?_)
    · refine wc_seq ?_
      refine wc_join (w0 := w0) (fun (s28 : Bool) => [(4, .bool s28)]) h ?_ ?_
      · rintro s28 w29 f1 h so; refine wk_then ?_
        refine wc_ret ?_
        refine wk_thenR ?_
        exact wk_ret1 (x := s28) rfl (by decide) rfl so h
      · intro J27 h hJ27
        refine wc_region ?_
        refine wl_val (at_move rfl) rfl ?_
        refine wl_val (at_move rfl) rfl ?_
        refine bif_ h (fun hb h => ?_) (fun hb h => ?_)
        · refine wl_set (t := 45) (v := .bool true) (congrArg Value.bool hb) ?_; clear hb
          refine wl_on (t := 45) rfl (by decide) rfl ?_
          refine wl_val (at_move rfl) rfl ?_
          refine wl_on (t := 45) rfl (by decide) rfl ?_
          refine wl_val (at_eql rfl rfl) rfl ?_
          refine wl_on (t := 45) rfl (by decide) rfl ?_
          refine wl_val (at_move rfl) rfl ?_
          refine bif_ h (fun hb h => ?_) (fun hb h => ?_)
          · refine wl_set (t := 48) (v := .bool true) (congrArg Value.bool hb) ?_; clear hb
            refine wl_off (t := 48) rfl (by decide) rfl ?_
            refine wl_off (t := 48) rfl (by decide) rfl ?_
            refine wl_on (t := 45) rfl (by decide) rfl ?_
            refine wl_val (at_pick_t rfl rfl) rfl ?_
            refine wl_val (at_pick_t rfl rfl) rfl ?_
            refine wl_val (at_assign rfl) rfl ?_
            refine wl_nil ?_
            exact wk_prune [(4, .bool true)] ⟨rfl, trivial⟩ (fun f1 => hJ27 (true) _ f1 h so)
          · refine wl_set (t := 48) (v := .bool false) (congrArg Value.bool hb) ?_; clear hb
            refine wl_on (t := 48) rfl (by decide) rfl ?_
            refine wl_val (at_move rfl) rfl ?_
            refine wl_on (t := 48) rfl (by decide) rfl ?_
            refine wl_val (at_neq rfl rfl) rfl ?_
            refine wl_on (t := 45) rfl (by decide) rfl ?_
            refine wl_val (at_pick_f rfl rfl) rfl ?_
            refine wl_val (at_pick_t rfl rfl) rfl ?_
            refine wl_val (at_assign rfl) rfl ?_
            refine wl_nil ?_
            exact wk_prune [(4, .bool (x9.2 != 0))] ⟨rfl, trivial⟩ (fun f1 => hJ27 ((x9.2 != 0)) _ f1 h so)
        · refine wl_set (t := 45) (v := .bool false) (congrArg Value.bool hb) ?_; clear hb
          refine wl_off (t := 45) rfl (by decide) rfl ?_
          refine wl_off (t := 45) rfl (by decide) rfl ?_
          refine wl_off (t := 45) rfl (by decide) rfl ?_
          refine wl_off' (t := 48) rfl (by decide) rfl ?_
          refine wl_off' (t := 48) rfl (by decide) rfl ?_
          refine wl_off (t := 45) rfl (by decide) rfl ?_
          refine wl_val (at_pick_f rfl rfl) rfl ?_
          refine wl_val (at_assign rfl) rfl ?_
          refine wl_nil ?_
          exact wk_prune [(4, .bool false)] ⟨rfl, trivial⟩ (fun f1 => hJ27 (false) _ f1 h so)
    · refine wc_skip ?_
      refine wk_prune [(2, .pointer (some (⟨b1, 0, none⟩ : Addr))), (5, .bool x3), (6, .string x9.1), (8, .pointer (some (⟨b18, 0, none⟩ : Addr))), (9, .pointer (some (⟨b20, 0, none⟩ : Addr)))] ⟨rfl, rfl, rfl, rfl, rfl, trivial⟩ (fun f1 => ?_)
      refine wk_then ?_
      refine wc_seq ?_
      refine wc_region ?_
      refine wl_val (at_assign rfl) rfl ?_
      refine wl_nil ?_
      refine wk_prune [(2, .pointer (some (⟨b1, 0, none⟩ : Addr))), (5, .bool x3), (6, .string x9.1), (8, .pointer (some (⟨b18, 0, none⟩ : Addr))), (9, .pointer (some (⟨b20, 0, none⟩ : Addr))), (11, .int .i64 0)] ⟨rfl, rfl, rfl, rfl, rfl, rfl, trivial⟩ (fun f1 => ?_)
      refine wk_then ?_
      refine wc_seq ?_
      refine wc_seq ?_
      refine wc_region ?_
      refine wl_val (at_assign rfl) rfl ?_
      refine wl_nil ?_
      refine wk_prune [(2, .pointer (some (⟨b1, 0, none⟩ : Addr))), (5, .bool x3), (6, .string x9.1), (8, .pointer (some (⟨b18, 0, none⟩ : Addr))), (9, .pointer (some (⟨b20, 0, none⟩ : Addr))), (11, .int .i64 0), (12, .int .i64 0)] ⟨rfl, rfl, rfl, rfl, rfl, rfl, rfl, trivial⟩ (fun f1 => ?_)
      refine wk_then ?_
      refine wc_block ?_
      replace h := h t_b1
      replace h := h t_b18
      replace h := h t_b20
      obtain ⟨k30, h⟩ := h
      refine wc_loop (fun k a w => ∃ (s32 : Bool × Int × Int) (f1 : Nat → Value), a = ac 140 (en f1 [(2, .pointer (some (⟨b1, 0, none⟩ : Addr))), (5, .bool s32.1), (6, .string x9.1), (8, .pointer (some (⟨b18, 0, none⟩ : Addr))), (9, .pointer (some (⟨b20, 0, none⟩ : Addr))), (11, .int .i64 s32.2.1), (12, .int .i64 s32.2.2)]) [] ∧ Sm w0 w ∧ Fix _ k s32 w.heap) k30 ⟨(x3, 0, 0), _, ac_again ⟨rfl, rfl, rfl, rfl, rfl, rfl, rfl, trivial⟩, so, h⟩ ?_
      rintro k31 a34 w33 ⟨s32, f1, rfl, so, h⟩
      rcases k31 with _ | k31
      · exact h.elim
      replace h := Fix.un h; refine wc_in ?_
      refine wc_seq ?_
      refine wc_seq ?_
      refine wc_region ?_
      refine wl_val (at_move rfl) rfl ?_
      refine wl_val (at_lss rfl rfl) rfl ?_
      refine wl_nil ?_
      refine wk_prune [(2, .pointer (some (⟨b1, 0, none⟩ : Addr))), (5, .bool s32.1), (6, .string x9.1), (8, .pointer (some (⟨b18, 0, none⟩ : Addr))), (9, .pointer (some (⟨b20, 0, none⟩ : Addr))), (11, .int .i64 s32.2.1), (12, .int .i64 s32.2.2), (54, .bool (decide (s32.2.2 < 4)))] ⟨rfl, rfl, rfl, rfl, rfl, rfl, rfl, rfl, trivial⟩ (fun f1 => ?_)
      refine wk_then ?_
      refine wc_cond rfl h (fun h => ?_) (fun h => ?_)
      · refine wc_skip ?_
        refine wk_prune [(2, .pointer (some (⟨b1, 0, none⟩ : Addr))), (5, .bool s32.1), (6, .string x9.1), (8, .pointer (some (⟨b18, 0, none⟩ : Addr))), (9, .pointer (some (⟨b20, 0, none⟩ : Addr))), (11, .int .i64 s32.2.1), (12, .int .i64 s32.2.2)] ⟨rfl, rfl, rfl, rfl, rfl, rfl, rfl, trivial⟩ (fun f1 => ?_)
        refine wk_then ?_
        refine wc_seq ?_
        refine wc_join (w0 := w0) (fun (s37 : Bool × Int) => [(2, .pointer (some (⟨b1, 0, none⟩ : Addr))), (5, .bool s37.1), (6, .string x9.1), (8, .pointer (some (⟨b18, 0, none⟩ : Addr))), (9, .pointer (some (⟨b20, 0, none⟩ : Addr))), (11, .int .i64 s37.2), (12, .int .i64 s32.2.2)]) h ?_ ?_
        · rintro s37 w38 f1 h so; refine wk_then ?_
          refine wc_region ?_
          refine wl_val (at_move rfl) rfl ?_
          refine wl_val (at_add rfl rfl) rfl ?_
          refine wl_val (at_assign rfl) rfl ?_
          refine wl_nil ?_
          exact wk_again ⟨(s37.1, s37.2, (IntKind.wrap .i64 (s32.2.2 + 1))), _, ac_again ⟨rfl, rfl, rfl, rfl, rfl, rfl, rfl, trivial⟩, so, h⟩
        · intro J36 h hJ36
          refine wc_block ?_
          refine wc_seq ?_
          refine wc_region ?_
          refine wl_val (at_assign rfl) rfl ?_
          refine wl_nil ?_
          refine wk_prune [(2, .pointer (some (⟨b1, 0, none⟩ : Addr))), (5, .bool s32.1), (6, .string x9.1), (8, .pointer (some (⟨b18, 0, none⟩ : Addr))), (9, .pointer (some (⟨b20, 0, none⟩ : Addr))), (11, .int .i64 s32.2.1), (12, .int .i64 s32.2.2), (13, .bool false)] ⟨rfl, rfl, rfl, rfl, rfl, rfl, rfl, rfl, trivial⟩ (fun f1 => ?_)
          refine wk_then ?_
          refine wc_seq ?_
          refine wc_region ?_
          refine wl_val (at_assign rfl) rfl ?_
          refine wl_nil ?_
          refine wk_prune [(2, .pointer (some (⟨b1, 0, none⟩ : Addr))), (5, .bool s32.1), (6, .string x9.1), (8, .pointer (some (⟨b18, 0, none⟩ : Addr))), (9, .pointer (some (⟨b20, 0, none⟩ : Addr))), (11, .int .i64 s32.2.1), (12, .int .i64 s32.2.2), (13, .bool false), (14, .bool false)] ⟨rfl, rfl, rfl, rfl, rfl, rfl, rfl, rfl, rfl, trivial⟩ (fun f1 => ?_)
          refine wk_then ?_
          refine wc_seq ?_
          refine wc_seq ?_
          refine wc_region ?_
          refine wl_val (at_assign rfl) rfl ?_
          refine wl_nil ?_
          refine wk_prune [(2, .pointer (some (⟨b1, 0, none⟩ : Addr))), (5, .bool s32.1), (6, .string x9.1), (8, .pointer (some (⟨b18, 0, none⟩ : Addr))), (9, .pointer (some (⟨b20, 0, none⟩ : Addr))), (11, .int .i64 s32.2.1), (12, .int .i64 s32.2.2), (13, .bool false), (14, .bool false), (15, .int .i64 0)] ⟨rfl, rfl, rfl, rfl, rfl, rfl, rfl, rfl, rfl, rfl, trivial⟩ (fun f1 => ?_)
          refine wk_then ?_
          refine wc_block ?_
          obtain ⟨k39, h⟩ := h
          refine wc_loop (fun k a w => ∃ (s41 : Bool × Bool × Int) (f1 : Nat → Value), a = ac 140 (en f1 [(2, .pointer (some (⟨b1, 0, none⟩ : Addr))), (5, .bool s32.1), (6, .string x9.1), (8, .pointer (some (⟨b18, 0, none⟩ : Addr))), (9, .pointer (some (⟨b20, 0, none⟩ : Addr))), (11, .int .i64 s32.2.1), (12, .int .i64 s32.2.2), (13, .bool s41.1), (14, .bool s41.2.1), (15, .int .i64 s41.2.2)]) [] ∧ Sm w0 w ∧ Fix _ k s41 w.heap) k39 ⟨(false, false, 0), _, ac_again ⟨rfl, rfl, rfl, rfl, rfl, rfl, rfl, rfl, rfl, rfl, trivial⟩, so, h⟩ ?_
          rintro k40 a43 w42 ⟨s41, f1, rfl, so, h⟩
          rcases k40 with _ | k40
          · exact h.elim
          replace h := Fix.un h; refine wc_in ?_
          refine wc_seq ?_
          refine wc_seq ?_
          refine wc_region ?_
          refine wl_val (at_move rfl) rfl ?_
          refine wl_val (at_lss rfl rfl) rfl ?_
          refine wl_nil ?_
          refine wk_prune [(2, .pointer (some (⟨b1, 0, none⟩ : Addr))), (5, .bool s32.1), (6, .string x9.1), (8, .pointer (some (⟨b18, 0, none⟩ : Addr))), (9, .pointer (some (⟨b20, 0, none⟩ : Addr))), (11, .int .i64 s32.2.1), (12, .int .i64 s32.2.2), (13, .bool s41.1), (14, .bool s41.2.1), (15, .int .i64 s41.2.2), (58, .bool (decide (s41.2.2 < 256)))] ⟨rfl, rfl, rfl, rfl, rfl, rfl, rfl, rfl, rfl, rfl, rfl, trivial⟩ (fun f1 => ?_)
          refine wk_then ?_
          refine wc_cond rfl h (fun h => ?_) (fun h => ?_)
          · refine wc_skip ?_
            refine wk_prune [(2, .pointer (some (⟨b1, 0, none⟩ : Addr))), (5, .bool s32.1), (6, .string x9.1), (8, .pointer (some (⟨b18, 0, none⟩ : Addr))), (9, .pointer (some (⟨b20, 0, none⟩ : Addr))), (11, .int .i64 s32.2.1), (12, .int .i64 s32.2.2), (13, .bool s41.1), (14, .bool s41.2.1), (15, .int .i64 s41.2.2)] ⟨rfl, rfl, rfl, rfl, rfl, rfl, rfl, rfl, rfl, rfl, trivial⟩ (fun f1 => ?_)
            refine wk_then ?_
            refine wc_seq ?_
            refine wc_join (w0 := w0) (fun (s46 : Bool × Bool) => [(2, .pointer (some (⟨b1, 0, none⟩ : Addr))), (5, .bool s32.1), (6, .string x9.1), (8, .pointer (some (⟨b18, 0, none⟩ : Addr))), (9, .pointer (some (⟨b20, 0, none⟩ : Addr))), (11, .int .i64 s32.2.1), (12, .int .i64 s32.2.2), (13, .bool s46.1), (14, .bool s46.2), (15, .int .i64 s41.2.2)]) h ?_ ?_
            · rintro s46 w47 f1 h so; refine wk_then ?_
              refine wc_region ?_
              refine wl_val (at_move rfl) rfl ?_
              refine wl_val (at_add rfl rfl) rfl ?_
              refine wl_val (at_assign rfl) rfl ?_
              refine wl_nil ?_
              exact wk_again ⟨(s46.1, s46.2, (IntKind.wrap .i64 (s41.2.2 + 1))), _, ac_again ⟨rfl, rfl, rfl, rfl, rfl, rfl, rfl, rfl, rfl, rfl, trivial⟩, so, h⟩
            · intro J45 h hJ45
              refine wc_block ?_
              refine wc_seq ?_
              refine wc_join (w0 := w0) (fun (s49 : Bool) => [(2, .pointer (some (⟨b1, 0, none⟩ : Addr))), (5, .bool s32.1), (6, .string x9.1), (8, .pointer (some (⟨b18, 0, none⟩ : Addr))), (9, .pointer (some (⟨b20, 0, none⟩ : Addr))), (11, .int .i64 s32.2.1), (12, .int .i64 s32.2.2), (13, .bool s49), (14, .bool s41.2.1), (15, .int .i64 s41.2.2)]) h ?_ ?_
              · rintro s49 w50 f1 h so; refine wk_then ?_
                refine wc_region ?_
                refine wl_val (at_move rfl) rfl ?_
                refine wl_val (at_move rfl) rfl ?_
                refine bif_ h (fun hb h => ?_) (fun hb h => ?_)
                · refine wl_set (t := 71) (v := .bool true) (congrArg Value.bool hb) ?_; clear hb
                  refine wl_off (t := 71) rfl (by decide) rfl ?_
                  refine wl_off (t := 71) rfl (by decide) rfl ?_
                  refine wl_off (t := 71) rfl (by decide) rfl ?_
                  refine wl_off (t := 71) rfl (by decide) rfl ?_
                  refine wl_off (t := 71) rfl (by decide) rfl ?_
                  refine wl_off (t := 71) rfl (by decide) rfl ?_
                  refine wl_val (at_pick_t rfl rfl) rfl ?_
                  refine wl_val (at_assign rfl) rfl ?_
                  refine wl_nil ?_
                  refine wk_blkN ?_
                  exact wk_prune [(2, .pointer (some (⟨b1, 0, none⟩ : Addr))), (5, .bool s32.1), (6, .string x9.1), (8, .pointer (some (⟨b18, 0, none⟩ : Addr))), (9, .pointer (some (⟨b20, 0, none⟩ : Addr))), (11, .int .i64 s32.2.1), (12, .int .i64 s32.2.2), (13, .bool s49), (14, .bool true), (15, .int .i64 s41.2.2)] ⟨rfl, rfl, rfl, rfl, rfl, rfl, rfl, rfl, rfl, rfl, trivial⟩ (fun f1 => hJ45 (s49, true) _ f1 h so)
                · refine wl_set (t := 71) (v := .bool false) (congrArg Value.bool hb) ?_; clear hb
                  refine wl_on (t := 71) rfl (by decide) rfl ?_
                  refine wl_val (at_move rfl) rfl ?_
                  refine wl_on (t := 71) rfl (by decide) rfl ?_
                  refine wl_val (at_move rfl) rfl ?_
                  refine wl_on (t := 71) rfl (by decide) rfl ?_
                  obtain ⟨q51, q52, h⟩ := h
                  refine wl_val (at_ixAddrA Try.underlying40 sz39 rfl rfl q51 q52) rfl ?_
                  refine wl_on (t := 71) rfl (by decide) rfl ?_
                  obtain ⟨q53, q54, h⟩ := h
                  refine wl_val (at_ixAddrA Try.underlying39 sz3 rfl rfl q53 q54) rfl ?_
                  refine wl_on (t := 71) rfl (by decide) rfl ?_
                  obtain ⟨x55, q56, h⟩ := h
                  refine wl_val (at_load Try.underlying3 rfl rfl q56) rfl ?_
                  refine wl_on (t := 71) rfl (by decide) rfl ?_
                  refine wl_val (at_gtr rfl rfl) rfl ?_
                  refine wl_val (at_pick_f rfl rfl) rfl ?_
                  refine wl_val (at_assign rfl) rfl ?_
                  refine wl_nil ?_
                  refine wk_blkN ?_
                  exact wk_prune [(2, .pointer (some (⟨b1, 0, none⟩ : Addr))), (5, .bool s32.1), (6, .string x9.1), (8, .pointer (some (⟨b18, 0, none⟩ : Addr))), (9, .pointer (some (⟨b20, 0, none⟩ : Addr))), (11, .int .i64 s32.2.1), (12, .int .i64 s32.2.2), (13, .bool s49), (14, .bool (decide ((0 : Int) < x55))), (15, .int .i64 s41.2.2)] ⟨rfl, rfl, rfl, rfl, rfl, rfl, rfl, rfl, rfl, rfl, trivial⟩ (fun f1 => hJ45 (s49, (decide ((0 : Int) < x55))) _ f1 h so)
              · intro J48 h hJ48
                refine wc_region ?_
                refine wl_val (at_move rfl) rfl ?_
                refine wl_val (at_move rfl) rfl ?_
                refine bif_ h (fun hb h => ?_) (fun hb h => ?_)
                · refine wl_set (t := 62) (v := .bool true) (congrArg Value.bool hb) ?_; clear hb
                  refine wl_off (t := 62) rfl (by decide) rfl ?_
                  refine wl_off (t := 62) rfl (by decide) rfl ?_
                  refine wl_off (t := 62) rfl (by decide) rfl ?_
                  refine wl_off (t := 62) rfl (by decide) rfl ?_
                  refine wl_off (t := 62) rfl (by decide) rfl ?_
                  refine wl_off (t := 62) rfl (by decide) rfl ?_
                  refine wl_val (at_pick_t rfl rfl) rfl ?_
                  refine wl_val (at_assign rfl) rfl ?_
                  refine wl_nil ?_
                  exact wk_prune [(2, .pointer (some (⟨b1, 0, none⟩ : Addr))), (5, .bool s32.1), (6, .string x9.1), (8, .pointer (some (⟨b18, 0, none⟩ : Addr))), (9, .pointer (some (⟨b20, 0, none⟩ : Addr))), (11, .int .i64 s32.2.1), (12, .int .i64 s32.2.2), (13, .bool true), (14, .bool s41.2.1), (15, .int .i64 s41.2.2)] ⟨rfl, rfl, rfl, rfl, rfl, rfl, rfl, rfl, rfl, rfl, trivial⟩ (fun f1 => hJ48 (true) _ f1 h so)
                · refine wl_set (t := 62) (v := .bool false) (congrArg Value.bool hb) ?_; clear hb
                  refine wl_on (t := 62) rfl (by decide) rfl ?_
                  refine wl_val (at_move rfl) rfl ?_
                  refine wl_on (t := 62) rfl (by decide) rfl ?_
                  refine wl_val (at_move rfl) rfl ?_
                  refine wl_on (t := 62) rfl (by decide) rfl ?_
                  obtain ⟨q57, q58, h⟩ := h
                  refine wl_val (at_ixAddrA Try.underlying40 sz39 rfl rfl q57 q58) rfl ?_
                  refine wl_on (t := 62) rfl (by decide) rfl ?_
                  obtain ⟨q59, q60, h⟩ := h
                  refine wl_val (at_ixAddrA Try.underlying39 sz3 rfl rfl q59 q60) rfl ?_
                  refine wl_on (t := 62) rfl (by decide) rfl ?_
                  obtain ⟨x61, q62, h⟩ := h
                  refine wl_val (at_load Try.underlying3 rfl rfl q62) rfl ?_
                  refine wl_on (t := 62) rfl (by decide) rfl ?_
                  refine wl_val (at_gtr rfl rfl) rfl ?_
                  refine wl_val (at_pick_f rfl rfl) rfl ?_
                  refine wl_val (at_assign rfl) rfl ?_
                  refine wl_nil ?_
                  exact wk_prune [(2, .pointer (some (⟨b1, 0, none⟩ : Addr))), (5, .bool s32.1), (6, .string x9.1), (8, .pointer (some (⟨b18, 0, none⟩ : Addr))), (9, .pointer (some (⟨b20, 0, none⟩ : Addr))), (11, .int .i64 s32.2.1), (12, .int .i64 s32.2.2), (13, .bool (decide ((0 : Int) < x61))), (14, .bool s41.2.1), (15, .int .i64 s41.2.2)] ⟨rfl, rfl, rfl, rfl, rfl, rfl, rfl, rfl, rfl, rfl, trivial⟩ (fun f1 => hJ48 ((decide ((0 : Int) < x61))) _ f1 h so)
          · refine wc_exit ?_
            refine wk_thenE ?_
            refine wk_thenE ?_
            refine wk_blkE ?_
            refine wk_prune [(2, .pointer (some (⟨b1, 0, none⟩ : Addr))), (5, .bool s32.1), (6, .string x9.1), (8, .pointer (some (⟨b18, 0, none⟩ : Addr))), (9, .pointer (some (⟨b20, 0, none⟩ : Addr))), (11, .int .i64 s32.2.1), (12, .int .i64 s32.2.2), (13, .bool s41.1), (14, .bool s41.2.1)] ⟨rfl, rfl, rfl, rfl, rfl, rfl, rfl, rfl, rfl, trivial⟩ (fun f1 => ?_)
            refine wk_then ?_
            refine wc_seq ?_
            refine wc_join (w0 := w0) (fun (s64 : Bool × Int) => [(2, .pointer (some (⟨b1, 0, none⟩ : Addr))), (5, .bool s64.1), (6, .string x9.1), (8, .pointer (some (⟨b18, 0, none⟩ : Addr))), (9, .pointer (some (⟨b20, 0, none⟩ : Addr))), (11, .int .i64 s64.2), (12, .int .i64 s32.2.2), (14, .bool s41.2.1)]) h ?_ ?_
            · rintro s64 w65 f1 h so; refine wk_then ?_
              refine wc_seq ?_
              refine wc_region ?_
              refine wl_val (at_move rfl) rfl ?_
              refine wl_nil ?_
              refine wk_prune [(2, .pointer (some (⟨b1, 0, none⟩ : Addr))), (5, .bool s64.1), (6, .string x9.1), (8, .pointer (some (⟨b18, 0, none⟩ : Addr))), (9, .pointer (some (⟨b20, 0, none⟩ : Addr))), (11, .int .i64 s64.2), (12, .int .i64 s32.2.2), (98, .bool s41.2.1)] ⟨rfl, rfl, rfl, rfl, rfl, rfl, rfl, rfl, trivial⟩ (fun f1 => ?_)
              refine wk_then ?_
              refine wc_cond rfl h (fun h => ?_) (fun h => ?_)
              · refine wc_seq ?_
                refine wc_wo [0, 0, 3, 7, 0, 16, 48, 127, 255, 511, 511, 1023, 4095] mixed (by kernel_rfl) so ?_; intro w66 hw so; rw [← hw] at h; clear hw
                refine wo_pure (m' := 1) 0 rfl (by kernel_rfl) rfl rfl (fun H => at_move rfl) ?_
                refine wo_pure (m' := 3) 1 rfl (by kernel_rfl) rfl rfl (fun H => at_fieldAddr Try.underlying32 rfl rfl sz30 (by decide) rfl) ?_
                obtain ⟨q67, q68, h⟩ := h
                refine wo_pure (m' := 7) 2 rfl (by kernel_rfl) rfl rfl (fun H => at_ixAddrA Try.underlying30 sz29 rfl rfl q67 q68) ?_
                refine wo_pure (m' := 23) 4 rfl (by kernel_rfl) rfl rfl (fun H => at_move rfl) ?_
                obtain ⟨q69, q70, h⟩ := h
                refine wo_pure (m' := 55) 5 rfl (by kernel_rfl) rfl rfl (fun H => at_ixAddrA Try.underlying40 sz39 rfl rfl q69 q70) ?_
                obtain ⟨x71, x72, q73, h⟩ := h
                refine wo_load (m' := 63) 3 (fun H => ldA H ((⟨b1, 73, none⟩ : Addr).add (Int.toNat s32.2.2 * 17)) (c29 x71 x72)) rfl (by kernel_rfl) rfl rfl (fun H q73 => at_loadA (cs := (c29 x71 x72)) Try.underlying29 rfl (by rw [len29]; exact sz29) rfl q73) q73 ?_
                obtain ⟨x74, q75, h⟩ := h
                refine wo_load (m' := 127) 6 (fun H => ldA H ((⟨b20, 0, none⟩ : Addr).add (Int.toNat s32.2.2 * 256)) (c39 x74)) rfl (by kernel_rfl) rfl rfl (fun H q75 => at_loadA (cs := (c39 x74)) Try.underlying39 rfl (by rw [len39]; exact sz39) rfl q75) q75 ?_
                refine wo_take (m' := 255) 7 [true, true] rfl (by kernel_rfl) rfl (by kernel_rfl) ?_
                refine wl_callF (mosaiclaw18_bits.calls _ _ _ _ _ _ h) enter9 rfl trivial so ?_; intro x76 w77 h so
                refine wl_nil ?_
                refine wk_tq trivial ?_
                refine wo_pure (m' := 511) 8 rfl (by kernel_rfl) rfl rfl (fun H => at_move rfl) ?_
                refine wo_pure (m' := 1023) 9 rfl (by kernel_rfl) rfl rfl (fun H => at_extract rfl rfl) ?_
                refine wo_pure (m' := 2047) 10 rfl (by kernel_rfl) rfl rfl (fun H => at_extract rfl rfl) ?_
                refine wo_pure (m' := 4095) 11 rfl (by kernel_rfl) rfl rfl (fun H => at_assign rfl) ?_
                refine wo_pure (m' := 8191) 12 rfl (by kernel_rfl) rfl rfl (fun H => at_assign rfl) ?_
                refine wo_done (by kernel_rfl) ?_
                refine wk_prune [(2, .pointer (some (⟨b1, 0, none⟩ : Addr))), (5, .bool s64.1), (6, .string x9.1), (8, .pointer (some (⟨b18, 0, none⟩ : Addr))), (9, .pointer (some (⟨b20, 0, none⟩ : Addr))), (11, .int .i64 s64.2), (12, .int .i64 s32.2.2), (18, .int .i64 x76.1), (19, .bool x76.2)] ⟨rfl, rfl, rfl, rfl, rfl, rfl, rfl, rfl, rfl, trivial⟩ (fun f1 => ?_)
                refine wk_then ?_
                refine wc_seq ?_
                refine wc_region ?_
                refine wl_val (at_move rfl) rfl ?_
                refine wl_val (at_move rfl) rfl ?_
                refine wl_val (at_add rfl rfl) rfl ?_
                refine wl_val (at_assign rfl) rfl ?_
                refine wl_nil ?_
                refine wk_prune [(2, .pointer (some (⟨b1, 0, none⟩ : Addr))), (5, .bool s64.1), (6, .string x9.1), (8, .pointer (some (⟨b18, 0, none⟩ : Addr))), (9, .pointer (some (⟨b20, 0, none⟩ : Addr))), (11, .int .i64 (IntKind.wrap .i64 (s64.2 + x76.1))), (12, .int .i64 s32.2.2), (19, .bool x76.2)] ⟨rfl, rfl, rfl, rfl, rfl, rfl, rfl, rfl, trivial⟩ (fun f1 => ?_)
                refine wk_then ?_
                refine wc_region ?_
                refine wl_val (at_move rfl) rfl ?_
                refine wl_val (at_move rfl) rfl ?_
                refine bif_ h (fun hb h => ?_) (fun hb h => ?_)
                · refine wl_set (t := 114) (v := .bool true) (congrArg Value.bool hb) ?_; clear hb
                  refine wl_on (t := 114) rfl (by decide) rfl ?_
                  refine wl_val (at_move rfl) rfl ?_
                  refine wl_val (at_pick_t rfl rfl) rfl ?_
                  refine wl_val (at_assign rfl) rfl ?_
                  refine wl_nil ?_
                  refine wk_blkN ?_
                  exact wk_prune [(2, .pointer (some (⟨b1, 0, none⟩ : Addr))), (5, .bool x76.2), (6, .string x9.1), (8, .pointer (some (⟨b18, 0, none⟩ : Addr))), (9, .pointer (some (⟨b20, 0, none⟩ : Addr))), (11, .int .i64 (IntKind.wrap .i64 (s64.2 + x76.1))), (12, .int .i64 s32.2.2)] ⟨rfl, rfl, rfl, rfl, rfl, rfl, rfl, trivial⟩ (fun f1 => hJ36 (x76.2, (IntKind.wrap .i64 (s64.2 + x76.1))) _ f1 h so)
                · refine wl_set (t := 114) (v := .bool false) (congrArg Value.bool hb) ?_; clear hb
                  refine wl_off (t := 114) rfl (by decide) rfl ?_
                  refine wl_val (at_pick_f rfl rfl) rfl ?_
                  refine wl_val (at_assign rfl) rfl ?_
                  refine wl_nil ?_
                  refine wk_blkN ?_
                  exact wk_prune [(2, .pointer (some (⟨b1, 0, none⟩ : Addr))), (5, .bool false), (6, .string x9.1), (8, .pointer (some (⟨b18, 0, none⟩ : Addr))), (9, .pointer (some (⟨b20, 0, none⟩ : Addr))), (11, .int .i64 (IntKind.wrap .i64 (s64.2 + x76.1))), (12, .int .i64 s32.2.2)] ⟨rfl, rfl, rfl, rfl, rfl, rfl, rfl, trivial⟩ (fun f1 => hJ36 (false, (IntKind.wrap .i64 (s64.2 + x76.1))) _ f1 h so)
              · refine wc_skip ?_
                refine wk_blkN ?_
                exact wk_prune [(2, .pointer (some (⟨b1, 0, none⟩ : Addr))), (5, .bool s64.1), (6, .string x9.1), (8, .pointer (some (⟨b18, 0, none⟩ : Addr))), (9, .pointer (some (⟨b20, 0, none⟩ : Addr))), (11, .int .i64 s64.2), (12, .int .i64 s32.2.2)] ⟨rfl, rfl, rfl, rfl, rfl, rfl, rfl, trivial⟩ (fun f1 => hJ36 (s64.1, s64.2) _ f1 h so)
            · intro J63 h hJ63
              refine wc_seq ?_
              refine wc_region ?_
              refine wl_val (at_move rfl) rfl ?_
              refine wl_nil ?_
              refine wk_prune [(2, .pointer (some (⟨b1, 0, none⟩ : Addr))), (5, .bool s32.1), (6, .string x9.1), (8, .pointer (some (⟨b18, 0, none⟩ : Addr))), (9, .pointer (some (⟨b20, 0, none⟩ : Addr))), (11, .int .i64 s32.2.1), (12, .int .i64 s32.2.2), (14, .bool s41.2.1), (79, .bool s41.1)] ⟨rfl, rfl, rfl, rfl, rfl, rfl, rfl, rfl, rfl, trivial⟩ (fun f1 => ?_)
              refine wk_then ?_
              refine wc_cond rfl h (fun h => ?_) (fun h => ?_)
              · refine wc_seq ?_
                refine wc_wo [0, 0, 3, 7, 0, 16, 48, 127, 255, 511, 511, 1023, 4095] mixed (by kernel_rfl) so ?_; intro w78 hw so; rw [← hw] at h; clear hw
                refine wo_pure (m' := 1) 0 rfl (by kernel_rfl) rfl rfl (fun H => at_move rfl) ?_
                refine wo_pure (m' := 3) 1 rfl (by kernel_rfl) rfl rfl (fun H => at_fieldAddr Try.underlying32 rfl rfl sz30 (by decide) rfl) ?_
                obtain ⟨q79, q80, h⟩ := h
                refine wo_pure (m' := 7) 2 rfl (by kernel_rfl) rfl rfl (fun H => at_ixAddrA Try.underlying30 sz29 rfl rfl q79 q80) ?_
                refine wo_pure (m' := 23) 4 rfl (by kernel_rfl) rfl rfl (fun H => at_move rfl) ?_
                obtain ⟨q81, q82, h⟩ := h
                refine wo_pure (m' := 55) 5 rfl (by kernel_rfl) rfl rfl (fun H => at_ixAddrA Try.underlying40 sz39 rfl rfl q81 q82) ?_
                obtain ⟨x83, x84, q85, h⟩ := h
                refine wo_load (m' := 63) 3 (fun H => ldA H ((⟨b1, 5, none⟩ : Addr).add (Int.toNat s32.2.2 * 17)) (c29 x83 x84)) rfl (by kernel_rfl) rfl rfl (fun H q85 => at_loadA (cs := (c29 x83 x84)) Try.underlying29 rfl (by rw [len29]; exact sz29) rfl q85) q85 ?_
                obtain ⟨x86, q87, h⟩ := h
                refine wo_load (m' := 127) 6 (fun H => ldA H ((⟨b18, 0, none⟩ : Addr).add (Int.toNat s32.2.2 * 256)) (c39 x86)) rfl (by kernel_rfl) rfl rfl (fun H q87 => at_loadA (cs := (c39 x86)) Try.underlying39 rfl (by rw [len39]; exact sz39) rfl q87) q87 ?_
                refine wo_take (m' := 255) 7 [true, true] rfl (by kernel_rfl) rfl (by kernel_rfl) ?_
                refine wl_callF (mosaiclaw18_bits.calls _ _ _ _ _ _ h) enter9 rfl trivial so ?_; intro x88 w89 h so
                refine wl_nil ?_
                refine wk_tq trivial ?_
                refine wo_pure (m' := 511) 8 rfl (by kernel_rfl) rfl rfl (fun H => at_move rfl) ?_
                refine wo_pure (m' := 1023) 9 rfl (by kernel_rfl) rfl rfl (fun H => at_extract rfl rfl) ?_
                refine wo_pure (m' := 2047) 10 rfl (by kernel_rfl) rfl rfl (fun H => at_extract rfl rfl) ?_
                refine wo_pure (m' := 4095) 11 rfl (by kernel_rfl) rfl rfl (fun H => at_assign rfl) ?_
                refine wo_pure (m' := 8191) 12 rfl (by kernel_rfl) rfl rfl (fun H => at_assign rfl) ?_
                refine wo_done (by kernel_rfl) ?_
                refine wk_prune [(2, .pointer (some (⟨b1, 0, none⟩ : Addr))), (5, .bool s32.1), (6, .string x9.1), (8, .pointer (some (⟨b18, 0, none⟩ : Addr))), (9, .pointer (some (⟨b20, 0, none⟩ : Addr))), (11, .int .i64 s32.2.1), (12, .int .i64 s32.2.2), (14, .bool s41.2.1), (16, .int .i64 x88.1), (17, .bool x88.2)] ⟨rfl, rfl, rfl, rfl, rfl, rfl, rfl, rfl, rfl, rfl, trivial⟩ (fun f1 => ?_)
                refine wk_then ?_
                refine wc_seq ?_
                refine wc_region ?_
                refine wl_val (at_move rfl) rfl ?_
                refine wl_val (at_move rfl) rfl ?_
                refine wl_val (at_add rfl rfl) rfl ?_
                refine wl_val (at_assign rfl) rfl ?_
                refine wl_nil ?_
                refine wk_prune [(2, .pointer (some (⟨b1, 0, none⟩ : Addr))), (5, .bool s32.1), (6, .string x9.1), (8, .pointer (some (⟨b18, 0, none⟩ : Addr))), (9, .pointer (some (⟨b20, 0, none⟩ : Addr))), (11, .int .i64 (IntKind.wrap .i64 (s32.2.1 + x88.1))), (12, .int .i64 s32.2.2), (14, .bool s41.2.1), (17, .bool x88.2)] ⟨rfl, rfl, rfl, rfl, rfl, rfl, rfl, rfl, rfl, trivial⟩ (fun f1 => ?_)
                refine wk_then ?_
                refine wc_region ?_
                refine wl_val (at_move rfl) rfl ?_
                refine wl_val (at_move rfl) rfl ?_
                refine bif_ h (fun hb h => ?_) (fun hb h => ?_)
                · refine wl_set (t := 95) (v := .bool true) (congrArg Value.bool hb) ?_; clear hb
                  refine wl_on (t := 95) rfl (by decide) rfl ?_
                  refine wl_val (at_move rfl) rfl ?_
                  refine wl_val (at_pick_t rfl rfl) rfl ?_
                  refine wl_val (at_assign rfl) rfl ?_
                  refine wl_nil ?_
                  exact wk_prune [(2, .pointer (some (⟨b1, 0, none⟩ : Addr))), (5, .bool x88.2), (6, .string x9.1), (8, .pointer (some (⟨b18, 0, none⟩ : Addr))), (9, .pointer (some (⟨b20, 0, none⟩ : Addr))), (11, .int .i64 (IntKind.wrap .i64 (s32.2.1 + x88.1))), (12, .int .i64 s32.2.2), (14, .bool s41.2.1)] ⟨rfl, rfl, rfl, rfl, rfl, rfl, rfl, rfl, trivial⟩ (fun f1 => hJ63 (x88.2, (IntKind.wrap .i64 (s32.2.1 + x88.1))) _ f1 h so)
                · refine wl_set (t := 95) (v := .bool false) (congrArg Value.bool hb) ?_; clear hb
                  refine wl_off (t := 95) rfl (by decide) rfl ?_
                  refine wl_val (at_pick_f rfl rfl) rfl ?_
                  refine wl_val (at_assign rfl) rfl ?_
                  refine wl_nil ?_
                  exact wk_prune [(2, .pointer (some (⟨b1, 0, none⟩ : Addr))), (5, .bool false), (6, .string x9.1), (8, .pointer (some (⟨b18, 0, none⟩ : Addr))), (9, .pointer (some (⟨b20, 0, none⟩ : Addr))), (11, .int .i64 (IntKind.wrap .i64 (s32.2.1 + x88.1))), (12, .int .i64 s32.2.2), (14, .bool s41.2.1)] ⟨rfl, rfl, rfl, rfl, rfl, rfl, rfl, rfl, trivial⟩ (fun f1 => hJ63 (false, (IntKind.wrap .i64 (s32.2.1 + x88.1))) _ f1 h so)
              · refine wc_skip ?_
                exact wk_prune [(2, .pointer (some (⟨b1, 0, none⟩ : Addr))), (5, .bool s32.1), (6, .string x9.1), (8, .pointer (some (⟨b18, 0, none⟩ : Addr))), (9, .pointer (some (⟨b20, 0, none⟩ : Addr))), (11, .int .i64 s32.2.1), (12, .int .i64 s32.2.2), (14, .bool s41.2.1)] ⟨rfl, rfl, rfl, rfl, rfl, rfl, rfl, rfl, trivial⟩ (fun f1 => hJ63 (s32.1, s32.2.1) _ f1 h so)
      · refine wc_exit ?_
        refine wk_thenE ?_
        refine wk_thenE ?_
        refine wk_blkE ?_
        refine wk_prune [(5, .bool s32.1), (6, .string x9.1), (11, .int .i64 s32.2.1)] ⟨rfl, rfl, rfl, trivial⟩ (fun f1 => ?_)
        refine wk_then ?_
        refine wc_seq ?_
        refine wc_region ?_
        refine wl_val (at_assign rfl) rfl ?_
        refine wl_nil ?_
        refine wk_prune [(5, .bool s32.1), (6, .string x9.1), (11, .int .i64 s32.2.1), (20, .int .i64 0)] ⟨rfl, rfl, rfl, rfl, trivial⟩ (fun f1 => ?_)
        refine wk_then ?_
        refine wc_seq ?_
        refine wc_seq ?_
        refine wc_region ?_
        refine wl_val (at_assign rfl) rfl ?_
        refine wl_nil ?_
        refine wk_prune [(5, .bool s32.1), (6, .string x9.1), (11, .int .i64 s32.2.1), (20, .int .i64 0), (21, .int .i64 0)] ⟨rfl, rfl, rfl, rfl, rfl, trivial⟩ (fun f1 => ?_)
        refine wk_then ?_
        refine wc_block ?_
        obtain ⟨k90, h⟩ := h
        refine wc_loop (fun k a w => ∃ (s92 : Int × Int) (f1 : Nat → Value), a = ac 140 (en f1 [(5, .bool s32.1), (6, .string x9.1), (11, .int .i64 s32.2.1), (20, .int .i64 s92.1), (21, .int .i64 s92.2)]) [] ∧ Sm w0 w ∧ Fix _ k s92 w.heap) k90 ⟨(0, 0), _, ac_again ⟨rfl, rfl, rfl, rfl, rfl, trivial⟩, so, h⟩ ?_
        rintro k91 a94 w93 ⟨s92, f1, rfl, so, h⟩
        rcases k91 with _ | k91
        · exact h.elim
        replace h := Fix.un h; refine wc_in ?_
        refine wc_seq ?_
        refine wc_seq ?_
        refine wc_region ?_
        refine wl_val (at_move rfl) rfl ?_
        refine wl_val (at_move rfl) rfl ?_
        refine wl_val (at_lenS Try.underlying9 rfl) rfl ?_
        refine wl_val (at_lss rfl rfl) rfl ?_
        refine wl_nil ?_
        refine wk_prune [(5, .bool s32.1), (6, .string x9.1), (11, .int .i64 s32.2.1), (20, .int .i64 s92.1), (21, .int .i64 s92.2), (120, .bool (decide (s92.2 < (x9.1.size : Int))))] ⟨rfl, rfl, rfl, rfl, rfl, rfl, trivial⟩ (fun f1 => ?_)
        refine wk_then ?_
        refine wc_cond rfl h (fun h => ?_) (fun h => ?_)
        · refine wc_skip ?_
          refine wk_prune [(5, .bool s32.1), (6, .string x9.1), (11, .int .i64 s32.2.1), (20, .int .i64 s92.1), (21, .int .i64 s92.2)] ⟨rfl, rfl, rfl, rfl, rfl, trivial⟩ (fun f1 => ?_)
          refine wk_then ?_
          refine wc_seq ?_
          refine wc_join (w0 := w0) (fun (s97 : Int) => [(5, .bool s32.1), (6, .string x9.1), (11, .int .i64 s32.2.1), (20, .int .i64 s97), (21, .int .i64 s92.2)]) h ?_ ?_
          · rintro s97 w98 f1 h so; refine wk_then ?_
            refine wc_region ?_
            refine wl_val (at_move rfl) rfl ?_
            refine wl_val (at_add rfl rfl) rfl ?_
            refine wl_val (at_assign rfl) rfl ?_
            refine wl_nil ?_
            exact wk_again ⟨(s97, (IntKind.wrap .i64 (s92.2 + 1))), _, ac_again ⟨rfl, rfl, rfl, rfl, rfl, trivial⟩, so, h⟩
          · intro J96 h hJ96
            refine wc_block ?_
            refine wc_seq ?_
            refine wc_region ?_
            refine wl_val (at_move rfl) rfl ?_
            refine wl_val (at_move rfl) rfl ?_
            obtain ⟨q99, q100, h⟩ := h
            refine wl_val (at_ixS Try.underlying9 rfl rfl q99 q100) rfl ?_
            refine wl_val (at_eql rfl rfl) rfl ?_
            refine wl_nil ?_
            refine wk_prune [(5, .bool s32.1), (6, .string x9.1), (11, .int .i64 s32.2.1), (20, .int .i64 s92.1), (21, .int .i64 s92.2), (126, .bool ((bt x9.1 s92.2) == 255))] ⟨rfl, rfl, rfl, rfl, rfl, rfl, trivial⟩ (fun f1 => ?_)
            refine wk_then ?_
            refine wc_cond rfl h (fun h => ?_) (fun h => ?_)
            · refine wc_region ?_
              refine wl_val (at_move rfl) rfl ?_
              refine wl_val (at_add rfl rfl) rfl ?_
              refine wl_val (at_assign rfl) rfl ?_
              refine wl_nil ?_
              refine wk_blkN ?_
              exact wk_prune [(5, .bool s32.1), (6, .string x9.1), (11, .int .i64 s32.2.1), (20, .int .i64 (IntKind.wrap .i64 (s92.1 + 1))), (21, .int .i64 s92.2)] ⟨rfl, rfl, rfl, rfl, rfl, trivial⟩ (fun f1 => hJ96 ((IntKind.wrap .i64 (s92.1 + 1))) _ f1 h so)
            · refine wc_skip ?_
              refine wk_blkN ?_
              exact wk_prune [(5, .bool s32.1), (6, .string x9.1), (11, .int .i64 s32.2.1), (20, .int .i64 s92.1), (21, .int .i64 s92.2)] ⟨rfl, rfl, rfl, rfl, rfl, trivial⟩ (fun f1 => hJ96 (s92.1) _ f1 h so)
        · refine wc_exit ?_
          refine wk_thenE ?_
          refine wk_thenE ?_
          refine wk_blkE ?_
          refine wk_prune [(5, .bool s32.1), (6, .string x9.1), (11, .int .i64 s32.2.1), (20, .int .i64 s92.1)] ⟨rfl, rfl, rfl, rfl, trivial⟩ (fun f1 => ?_)
          refine wk_then ?_
          refine wc_seq ?_
          refine wc_region ?_
          refine wl_val (at_move rfl) rfl ?_
          refine wl_val (at_move rfl) rfl ?_
          refine bif_ h (fun hb h => ?_) (fun hb h => ?_)
          · refine wl_set (t := 130) (v := .bool true) (congrArg Value.bool hb) ?_; clear hb
            refine wl_on (t := 130) rfl (by decide) rfl ?_
            refine wl_val (at_move rfl) rfl ?_
            refine wl_on (t := 130) rfl (by decide) rfl ?_
            refine wl_val (at_lenS Try.underlying9 rfl) rfl ?_
            refine wl_on (t := 130) rfl (by decide) rfl ?_
            refine wl_val (at_move rfl) rfl ?_
            refine wl_on (t := 130) rfl (by decide) rfl ?_
            refine wl_val (at_sub rfl rfl) rfl ?_
            refine wl_on (t := 130) rfl (by decide) rfl ?_
            refine wl_val (at_move rfl) rfl ?_
            refine wl_on (t := 130) rfl (by decide) rfl ?_
            refine wl_val (at_add rfl rfl) rfl ?_
            refine wl_on (t := 130) rfl (by decide) rfl ?_
            refine wl_val (at_quo rfl rfl (by decide)) rfl ?_
            refine wl_on (t := 130) rfl (by decide) rfl ?_
            refine wl_val (at_eql rfl rfl) rfl ?_
            refine wl_val (at_pick_t rfl rfl) rfl ?_
            refine wl_val (at_assign rfl) rfl ?_
            refine wl_nil ?_
            refine wk_prune [(4, .bool ((IntKind.wrap .i64 ((x9.1.size : Int) - s92.1)) == (IntKind.wrap .i64 (Int.tdiv (IntKind.wrap .i64 (s32.2.1 + 7)) 8))))] ⟨rfl, trivial⟩ (fun f1 => ?_)
            refine wk_then ?_
            refine wc_ret ?_
            exact wk_ret1 (x := ((IntKind.wrap .i64 ((x9.1.size : Int) - s92.1)) == (IntKind.wrap .i64 (Int.tdiv (IntKind.wrap .i64 (s32.2.1 + 7)) 8)))) rfl (by decide) rfl so h
          · refine wl_set (t := 130) (v := .bool false) (congrArg Value.bool hb) ?_; clear hb
            refine wl_off (t := 130) rfl (by decide) rfl ?_
            refine wl_off (t := 130) rfl (by decide) rfl ?_
            refine wl_off (t := 130) rfl (by decide) rfl ?_
            refine wl_off (t := 130) rfl (by decide) rfl ?_
            refine wl_off (t := 130) rfl (by decide) rfl ?_
            refine wl_off (t := 130) rfl (by decide) rfl ?_
            refine wl_off (t := 130) rfl (by decide) rfl ?_
            refine wl_off (t := 130) rfl (by decide) rfl ?_
            refine wl_val (at_pick_f rfl rfl) rfl ?_
            refine wl_val (at_assign rfl) rfl ?_
            refine wl_nil ?_
            refine wk_prune [(4, .bool false)] ⟨rfl, trivial⟩ (fun f1 => ?_)
            refine wk_then ?_
            refine wc_ret ?_
            exact wk_ret1 (x := false) rfl (by decide) rfl so h
  · intro J24 h hJ24
    refine wc_region ?_
    refine wl_val (at_move rfl) rfl ?_
    refine wl_val (at_neq rfl rfl) rfl ?_
    refine wl_val (at_move rfl) rfl ?_
    refine bif_ h (fun hb h => ?_) (fun hb h => ?_)
    · refine wl_set (t := 40) (v := .bool true) (congrArg Value.bool hb) ?_; clear hb
      refine wl_off (t := 40) rfl (by decide) rfl ?_
      refine wl_off (t := 40) rfl (by decide) rfl ?_
      refine wl_val (at_pick_t rfl rfl) rfl ?_
      refine wl_nil ?_
      exact wk_prune [(2, .pointer (some (⟨b1, 0, none⟩ : Addr))), (5, .bool x3), (6, .string x9.1), (7, .int .i64 x9.2), (8, .pointer (some (⟨b18, 0, none⟩ : Addr))), (9, .pointer (some (⟨b20, 0, none⟩ : Addr))), (10, .int .i64 x15.2.2.2.2.2.2.2.2), (43, .bool true)] ⟨rfl, rfl, rfl, rfl, rfl, rfl, rfl, rfl, trivial⟩ (fun f1 => hJ24 (true) _ f1 h ⟨t_b1, t_b18, t_b20, trivial⟩ so)
    · refine wl_set (t := 40) (v := .bool false) (congrArg Value.bool hb) ?_; clear hb
      refine wl_on (t := 40) rfl (by decide) rfl ?_
      refine wl_val (at_move rfl) rfl ?_
      refine wl_on (t := 40) rfl (by decide) rfl ?_
      refine wl_val (at_neq rfl rfl) rfl ?_
      refine wl_val (at_pick_f rfl rfl) rfl ?_
      refine wl_nil ?_
      exact wk_prune [(2, .pointer (some (⟨b1, 0, none⟩ : Addr))), (5, .bool x3), (6, .string x9.1), (7, .int .i64 x9.2), (8, .pointer (some (⟨b18, 0, none⟩ : Addr))), (9, .pointer (some (⟨b20, 0, none⟩ : Addr))), (10, .int .i64 x15.2.2.2.2.2.2.2.2), (43, .bool (x15.2.2.2.2.2.2.2.2 != 0))] ⟨rfl, rfl, rfl, rfl, rfl, rfl, rfl, rfl, trivial⟩ (fun f1 => hJ24 ((x15.2.2.2.2.2.2.2.2 != 0)) _ f1 h ⟨t_b1, t_b18, t_b20, trivial⟩ so)
end Go.Proofs.Ytmnoecpnoofdjaa.G
