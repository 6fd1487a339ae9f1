import Derived.Test.YthblohaffipkhaaGF
import Derived.Test.YthblohaffipkhaaKmosaiclaw07
import Derived.Test.YthblohaffipkhaaKruns
namespace Go.Proofs.Ythblohaffipkhaa.G
open Go.RowKit
set_option linter.unusedVariables false
set_option linter.unusedSimpArgs false
/-- mosaic/mosaiclaw07.RunsOnce -/
def mosaiclaw07_RunsOnce.enc : Bool → Value := fun r => .bool r
def mosaiclaw07_RunsOnce.s (a0 : Sl) (a1 : Int) (a2 : Int) (a3_0 : Int) (a3_1 : Int) (a3_2 : Int) (H0 : Hp) (Q : Bool → Hp → Prop) : Prop :=
  Gn [] H0 (fun (b1 : Nat) (H2 : Hp) => mosaiclaw07_alive.s H2 (fun x3 H4 => Pv [b1] H2 H4 ∧ (∃ y9 : List Value, y9.length = a0.n * 3 ∧ rdS H4 a0.a y9 ∧ apS H4 ⟨none, 0, 0⟩ 42 3 4 z42.cells a0.n y9 (fun l7 H8 => Pv [b1] H4 H8 ∧ (runs_Block.s l7 a1 H8 (fun x13 H14 => Pv [b1] H8 H14 ∧ (Gn [] H14 (fun (b16 : Nat) (H18 : Hp) => if (x13.2 != 0) = true then (Join (fun (s20 : Bool) (H21 : Hp) => Q s20 H21) (fun (J19 : Bool → Hp → Prop) => if x3 = true then (J19 ((x13.1.1 == (zInts 64).1)) H18) else (J19 (false) H18))) else ((a0.n : Int) ≠ 0 ∧ (Join (fun (s24 : Int) (H25 : Hp) => 0 ≤ s24 ∧ s24 ≤ (l7.c : Int) ∧ (runs_Block.s (slS l7 3 0 s24) a1 H25 (fun x28 H29 => Pv [b1, b16] H25 H29 ∧ (Gn [] H29 (fun (b31 : Nat) (H33 : Hp) => nw H33 42 (c42 a3_0 a3_1 a3_2) (fun p34 H35 => Pv [b16] H33 H35 ∧ (apS H35 l7 42 3 4 z42.cells 1 (c42 a3_0 a3_1 a3_2) (fun l40 H41 => Pv [b16] H35 H41 ∧ (runs_Block.s l40 a1 H41 (fun x43 H44 => Pv [b16] H41 H44 ∧ (Gn [] H44 (fun (b46 : Nat) (H48 : Hp) => runs_Symbols.s x13.1 a1 H48 (fun x49 H50 => if x3 = true then (if (x28.2 == 44) = true then (if (x43.2 == 4) = true then (if (x49.2 == 0) = true then (mosaiclaw07_shorter.s a0 H50 (fun x51 H52 => mosaiclaw07_same.s x49.1 x51 H52 (fun x53 H54 => Q x53 H54))) else (Q false H50)) else (Q false H50)) else (Q false H50)) else (Q false H50)))))))))))))) (fun (J23 : Int → Hp → Prop) => if decide ((Int.tmod a2 (a0.n : Int)) < 0) = true then (Lt ((IntKind.wrap .i64 ((Int.tmod a2 (a0.n : Int)) + (a0.n : Int))) : Int) (fun x55 => J23 (x55) H18)) else (J23 ((Int.tmod a2 (a0.n : Int))) H18))))))))))))
set_option maxRecDepth 20000 in
set_option maxHeartbeats 4000000 in
theorem mosaiclaw07_RunsOnce.calls (a0 : Sl) (a1 : Int) (a2 : Int) (a3_0 : Int) (a3_1 : Int) (a3_2 : Int) (w0 : World) (Q : Bool → Hp → Prop) (h : mosaiclaw07_RunsOnce.s a0 a1 a2 a3_0 a3_1 a3_2 w0.heap Q) :
    Ca Try.prog 8 #[.slice a0.a a0.n a0.c, .int .i16 a1, .int .i64 a2, .agg (c42 a3_0 a3_1 a3_2).toArray] w0 (Rt mosaiclaw07_RunsOnce.enc Q w0) := by
  refine ca_start (c := _) Try.func8 rfl Try.ntmps8 rfl ?_
  have so : Sm w0 w0 := Sm.refl w0
  unfold mosaiclaw07_RunsOnce.s at h
  refine wc_prune [(0, .slice a0.a a0.n a0.c), (1, .int .i16 a1), (2, .int .i64 a2), (3, .agg (c42 a3_0 a3_1 a3_2).toArray)] ⟨rfl, rfl, rfl, rfl, trivial⟩ (fun f1 => ?_)
  refine wc_seq ?_
  refine wc_region ?_
  refine wl_newT (T := 42) (cs := (c42 a3_0 a3_1 a3_2)) (ef_box rfl rfl) rfl so ?_; intro b1 w2 hb_b1 t_b1 k_b1 so
  have g_b1 := Nat.le_of_eq hb_b1.symm
  have hc := k_b1.ch (F := [])
  refine wl_val (at_assign rfl) rfl ?_
  refine wl_nil ?_
  refine wk_prune [(0, .slice a0.a a0.n a0.c), (1, .int .i16 a1), (2, .int .i64 a2), (7, .pointer (some (⟨b1, 0, none⟩ : Addr)))] ⟨rfl, rfl, rfl, rfl, trivial⟩ (fun f1 => ?_)
  refine wk_then ?_
  refine wc_seq ?_
  refine wc_region ?_
  replace h := h b1 _ hc g_b1 t_b1.lt; clear hc
  refine wl_callF (mosaiclaw07_alive.calls _ _ h) enter22 rfl trivial so ?_; intro x3 w4 h so
  obtain ⟨q5, h⟩ := h
  replace t_b1 := pv_bk q5 t_b1 (by simp)
  refine wl_val (at_assign rfl) rfl ?_
  refine wl_nil ?_
  refine wk_prune [(0, .slice a0.a a0.n a0.c), (1, .int .i16 a1), (2, .int .i64 a2), (7, .pointer (some (⟨b1, 0, none⟩ : Addr))), (9, .bool x3)] ⟨rfl, rfl, rfl, rfl, rfl, trivial⟩ (fun f1 => ?_)
  refine wk_then ?_
  refine wc_seq ?_
  refine wc_region ?_
  refine wl_val (at_assign rfl) rfl ?_
  refine wl_nil ?_
  refine wk_prune [(0, .slice a0.a a0.n a0.c), (1, .int .i16 a1), (2, .int .i64 a2), (7, .pointer (some (⟨b1, 0, none⟩ : Addr))), (9, .bool x3), (10, .slice none 0 0)] ⟨rfl, rfl, rfl, rfl, rfl, rfl, trivial⟩ (fun f1 => ?_)
  refine wk_then ?_
  refine wc_seq ?_
  refine wc_region ?_
  refine wl_val (at_move rfl) rfl ?_
  refine wl_val (at_move rfl) rfl ?_
  obtain ⟨i6, i6a, i6b, i6c, i6d⟩ := info42
  obtain ⟨y9, q10, q11, h⟩ := h
  refine wl_ap (fx_append (s := ⟨none, 0, 0⟩) (t := a0) (m := a0.n) (xs := y9) Try.underlying25 Try.underlying25 i6a i6b i6c i6d rfl rfl rfl q10 q11 h) rfl so ?_; intro l7 w8 h so
  obtain ⟨q12, h⟩ := h
  replace t_b1 := pv_bk q12 t_b1 (by simp)
  refine wl_val (at_assign rfl) rfl ?_
  refine wl_nil ?_
  refine wk_prune [(0, .slice a0.a a0.n a0.c), (1, .int .i16 a1), (2, .int .i64 a2), (7, .pointer (some (⟨b1, 0, none⟩ : Addr))), (9, .bool x3), (10, .slice l7.a l7.n l7.c)] ⟨rfl, rfl, rfl, rfl, rfl, rfl, trivial⟩ (fun f1 => ?_)
  refine wk_then ?_
  refine wc_seq ?_
  refine wc_region ?_
  refine wl_val (at_move rfl) rfl ?_
  refine wl_val (at_move rfl) rfl ?_
  refine wl_callF (runs_Block.calls _ _ _ _ h) enter21 rfl trivial so ?_; intro x13 w14 h so
  obtain ⟨q15, h⟩ := h
  replace t_b1 := pv_bk q15 t_b1 (by simp)
  refine wl_val (at_move rfl) rfl ?_
  refine wl_val (at_extract rfl rfl) rfl ?_
  refine wl_val (at_extract rfl rfl) rfl ?_
  refine wl_newT (T := 24) (cs := (c24 (zInts 64))) (ef_alloc zero24 rfl) rfl so ?_; intro b16 w17 hb_b16 t_b16 k_b16 so
  have g_b16 := Nat.le_of_eq hb_b16.symm
  have hc := k_b16.ch (F := [])
  have n_b1_b16 : b1 ≠ b16 := fun e => by have := t_b1.lt; omega
  replace t_b1 := t_b1.keep k_b16
  refine wl_stWT (vs := (c24 x13.1)) t_b16 (by first | (rw [len24, len24]) | (rw [len24]) | rfl) rfl so (fun q => ef_storeA (p := (⟨b16, 0, none⟩ : Addr)) (cs := (c24 x13.1)) (by rw [len24]; exact sz24) rfl rfl (one24 _) q) ?_; intro w18 t_b16 s_w18 so
  replace t_b1 := t_b1.same s_w18 (n_b1_b16)
  replace hc := ch_same hc s_w18 (.inr g_b16)
  refine wl_val (at_assign rfl) rfl ?_
  refine wl_nil ?_
  refine wk_prune [(0, .slice a0.a a0.n a0.c), (1, .int .i16 a1), (2, .int .i64 a2), (7, .pointer (some (⟨b1, 0, none⟩ : Addr))), (9, .bool x3), (10, .slice l7.a l7.n l7.c), (11, .pointer (some (⟨b16, 0, none⟩ : Addr))), (12, .int .i64 x13.2)] ⟨rfl, rfl, rfl, rfl, rfl, rfl, rfl, rfl, trivial⟩ (fun f1 => ?_)
  refine wk_then ?_
  refine wc_seq ?_
  refine wc_seq ?_
  refine wc_region ?_
  refine wl_val (at_move rfl) rfl ?_
  refine wl_val (at_neq rfl rfl) rfl ?_
  refine wl_nil ?_
  refine wk_prune [(0, .slice a0.a a0.n a0.c), (1, .int .i16 a1), (2, .int .i64 a2), (7, .pointer (some (⟨b1, 0, none⟩ : Addr))), (9, .bool x3), (10, .slice l7.a l7.n l7.c), (11, .pointer (some (⟨b16, 0, none⟩ : Addr))), (32, .bool (x13.2 != 0))] ⟨rfl, rfl, rfl, rfl, rfl, rfl, rfl, rfl, trivial⟩ (fun f1 => ?_)
  refine wk_then ?_
  replace h := h b16 _ hc g_b16 t_b16.lt; clear hc
  refine wc_cond rfl h (fun h => ?_) (fun h => ?_)
  · refine wc_seq ?_
    refine wc_join (w0 := w0) (fun (s20 : Bool) => [(8, .bool s20)]) h ?_ ?_
    · rintro s20 w21 f1 h so; refine wk_then ?_
      refine wc_ret ?_
      refine wk_thenR ?_
      exact wk_ret1 (x := s20) rfl (by decide) rfl so h
    · intro J19 h hJ19
      refine wc_region ?_
      refine wl_val (at_move rfl) rfl ?_
      refine wl_val (at_move rfl) rfl ?_
      refine bif_ h (fun hb h => ?_) (fun hb h => ?_)
      · refine wl_set (t := 34) (v := .bool true) (congrArg Value.bool hb) ?_; clear hb
        refine wl_on (t := 34) rfl (by decide) rfl ?_
        refine wl_val (at_loadA (cs := (c24 x13.1)) Try.underlying24 rfl (by rw [len24]; exact sz24) rfl (ldA_full t_b16)) rfl ?_
        refine wl_on (t := 34) rfl (by decide) rfl ?_
        refine wl_val (at_build (cs := (c24 (zInts 64))) (ps := []) rfl (build_array (vs := [.int .i16 0, .int .i16 0, .int .i16 0, .int .i16 0, .int .i16 0, .int .i16 0, .int .i16 0, .int .i16 0, .int .i16 0, .int .i16 0, .int .i16 0, .int .i16 0, .int .i16 0, .int .i16 0, .int .i16 0, .int .i16 0, .int .i16 0, .int .i16 0, .int .i16 0, .int .i16 0, .int .i16 0, .int .i16 0, .int .i16 0, .int .i16 0, .int .i16 0, .int .i16 0, .int .i16 0, .int .i16 0, .int .i16 0, .int .i16 0, .int .i16 0, .int .i16 0, .int .i16 0, .int .i16 0, .int .i16 0, .int .i16 0, .int .i16 0, .int .i16 0, .int .i16 0, .int .i16 0, .int .i16 0, .int .i16 0, .int .i16 0, .int .i16 0, .int .i16 0, .int .i16 0, .int .i16 0, .int .i16 0, .int .i16 0, .int .i16 0, .int .i16 0, .int .i16 0, .int .i16 0, .int .i16 0, .int .i16 0, .int .i16 0, .int .i16 0, .int .i16 0, .int .i16 0, .int .i16 0, .int .i16 0, .int .i16 0, .int .i16 0, .int .i16 0]) (cs := (c24 (zInts 64))) zero24 (by first | rfl | simp [z24, c24, Value.cells, ints_len, bools_len, List.flatMap]) Try.underlying24 sz22 (by first | rfl | simp [z24, c24, Value.cells, ints_len, bools_len]) (by simp [z24, c24, Value.cells, ints_len, bools_len]) (by first | rfl | simp [z24, c24, Value.cells, ints_len, bools_len, List.set, List.flatMap, mkI, mkB, ints, bools]))) rfl ?_
        refine wl_on (t := 34) rfl (by decide) rfl ?_
        refine wl_val (at_eqlA (xs := (c24 x13.1)) (ys := (c24 (zInts 64))) rfl rfl (by kernel_rfl) (eqv_ints Try.underlying24 Try.underlying22 sz22)) rfl ?_
        refine wl_val (at_pick_t rfl rfl) rfl ?_
        refine wl_val (at_assign rfl) rfl ?_
        refine wl_nil ?_
        exact wk_prune [(8, .bool (x13.1.1 == (zInts 64).1))] ⟨rfl, trivial⟩ (fun f1 => hJ19 ((x13.1.1 == (zInts 64).1)) _ f1 h so)
      · refine wl_set (t := 34) (v := .bool false) (congrArg Value.bool hb) ?_; clear hb
        refine wl_off (t := 34) rfl (by decide) rfl ?_
        refine wl_off (t := 34) rfl (by decide) rfl ?_
        refine wl_off (t := 34) rfl (by decide) rfl ?_
        refine wl_val (at_pick_f rfl rfl) rfl ?_
        refine wl_val (at_assign rfl) rfl ?_
        refine wl_nil ?_
        exact wk_prune [(8, .bool false)] ⟨rfl, trivial⟩ (fun f1 => hJ19 (false) _ f1 h so)
  · refine wc_skip ?_
    refine wk_prune [(0, .slice a0.a a0.n a0.c), (1, .int .i16 a1), (2, .int .i64 a2), (7, .pointer (some (⟨b1, 0, none⟩ : Addr))), (9, .bool x3), (10, .slice l7.a l7.n l7.c), (11, .pointer (some (⟨b16, 0, none⟩ : Addr)))] ⟨rfl, rfl, rfl, rfl, rfl, rfl, rfl, trivial⟩ (fun f1 => ?_)
    refine wk_then ?_
    refine wc_seq ?_
    refine wc_region ?_
    refine wl_val (at_move rfl) rfl ?_
    refine wl_val (at_lenL Try.underlying25 rfl) rfl ?_
    refine wl_val (at_assign rfl) rfl ?_
    refine wl_nil ?_
    refine wk_prune [(0, .slice a0.a a0.n a0.c), (1, .int .i16 a1), (2, .int .i64 a2), (7, .pointer (some (⟨b1, 0, none⟩ : Addr))), (9, .bool x3), (10, .slice l7.a l7.n l7.c), (11, .pointer (some (⟨b16, 0, none⟩ : Addr))), (13, .int .i64 (a0.n : Int))] ⟨rfl, rfl, rfl, rfl, rfl, rfl, rfl, rfl, trivial⟩ (fun f1 => ?_)
    refine wk_then ?_
    refine wc_seq ?_
    refine wc_region ?_
    refine wl_val (at_move rfl) rfl ?_
    refine wl_val (at_move rfl) rfl ?_
    obtain ⟨q22, h⟩ := h
    refine wl_val (at_rem rfl rfl q22) rfl ?_
    refine wl_val (at_assign rfl) rfl ?_
    refine wl_nil ?_
    refine wk_prune [(0, .slice a0.a a0.n a0.c), (1, .int .i16 a1), (7, .pointer (some (⟨b1, 0, none⟩ : Addr))), (9, .bool x3), (10, .slice l7.a l7.n l7.c), (11, .pointer (some (⟨b16, 0, none⟩ : Addr))), (13, .int .i64 (a0.n : Int)), (14, .int .i64 (Int.tmod a2 (a0.n : Int)))] ⟨rfl, rfl, rfl, rfl, rfl, rfl, rfl, rfl, trivial⟩ (fun f1 => ?_)
    refine wk_then ?_
    refine wc_seq ?_
    refine wc_joinG (w0 := w0) (fun (H : Hp) => Bk H b1 42 (c42 a3_0 a3_1 a3_2) ∧ Bk H b16 24 (c24 x13.1) ∧ True) (fun (s24 : Int) => [(0, .slice a0.a a0.n a0.c), (1, .int .i16 a1), (7, .pointer (some (⟨b1, 0, none⟩ : Addr))), (9, .bool x3), (10, .slice l7.a l7.n l7.c), (11, .pointer (some (⟨b16, 0, none⟩ : Addr))), (14, .int .i64 s24)]) (fun (s24 : Int) => []) h ?_ ?_
    · rintro s24 w25 f1 h ⟨t_b1, t_b16, _⟩ so; refine wk_then ?_
      refine wc_seq ?_
      refine wc_region ?_
      refine wl_val (at_move rfl) rfl ?_
      refine wl_val (at_move rfl) rfl ?_
      obtain ⟨q26, q27, h⟩ := h
      refine wl_val (at_subLh (s := l7) Try.underlying25 sz42 rfl rfl q26 q27) rfl ?_
      refine wl_val (at_move rfl) rfl ?_
      refine wl_callF (runs_Block.calls _ _ _ _ h) enter21 rfl trivial so ?_; intro x28 w29 h so
      obtain ⟨q30, h⟩ := h
      replace t_b1 := pv_bk q30 t_b1 (by simp)
      replace t_b16 := pv_bk q30 t_b16 (by simp)
      refine wl_val (at_move rfl) rfl ?_
      refine wl_val (at_extract rfl rfl) rfl ?_
      refine wl_val (at_extract rfl rfl) rfl ?_
      refine wl_newT (T := 24) (cs := (c24 (zInts 64))) (ef_alloc zero24 rfl) rfl so ?_; intro b31 w32 hb_b31 t_b31 k_b31 so
      have g_b31 := Nat.le_of_eq hb_b31.symm
      have hc := k_b31.ch (F := [])
      have n_b1_b31 : b1 ≠ b31 := fun e => by have := t_b1.lt; omega
      replace t_b1 := t_b1.keep k_b31
      have n_b16_b31 : b16 ≠ b31 := fun e => by have := t_b16.lt; omega
      replace t_b16 := t_b16.keep k_b31
      refine wl_stWT (vs := (c24 x28.1)) t_b31 (by first | (rw [len24, len24]) | (rw [len24]) | rfl) rfl so (fun q => ef_storeA (p := (⟨b31, 0, none⟩ : Addr)) (cs := (c24 x28.1)) (by rw [len24]; exact sz24) rfl rfl (one24 _) q) ?_; intro w33 t_b31 s_w33 so
      replace t_b1 := t_b1.same s_w33 (n_b1_b31)
      replace t_b16 := t_b16.same s_w33 (n_b16_b31)
      replace hc := ch_same hc s_w33 (.inr g_b31)
      refine wl_val (at_assign rfl) rfl ?_
      refine wl_nil ?_
      refine wk_prune [(0, .slice a0.a a0.n a0.c), (1, .int .i16 a1), (7, .pointer (some (⟨b1, 0, none⟩ : Addr))), (9, .bool x3), (10, .slice l7.a l7.n l7.c), (11, .pointer (some (⟨b16, 0, none⟩ : Addr))), (16, .int .i64 x28.2)] ⟨rfl, rfl, rfl, rfl, rfl, rfl, rfl, trivial⟩ (fun f1 => ?_)
      refine wk_then ?_
      refine wc_seq ?_
      refine wc_region ?_
      refine wl_val (at_move rfl) rfl ?_
      refine wl_val (at_loadA (cs := (c42 a3_0 a3_1 a3_2)) Try.underlying42 rfl (by rw [len42]; exact sz42) rfl (ldA_full t_b1)) rfl ?_
      obtain ⟨i37, i37a, i37b, i37c, i37d⟩ := info42
      replace h := h b31 _ hc g_b31 t_b31.lt; clear hc
      refine wl_newS (ef_buildSlice (cs := (c42 a3_0 a3_1 a3_2)) (ps := [(0, .agg (c42 a3_0 a3_1 a3_2).toArray)]) Try.underlying25 i37a i37b rfl (by rw [i37c]; decide) (by rw [i37c]; exact fill_full (vs := [.agg (c42 a3_0 a3_1 a3_2).toArray]) rfl (by simp [Value.cells]) (by simp [Value.cells, len42]) rfl (by simp))) rfl so (one42 _ _ _) h ?_; intro p34 w35 h r36 so
      obtain ⟨q38, h⟩ := h
      replace t_b16 := pv_bk q38 t_b16 (by simp)
      obtain ⟨i39, i39a, i39b, i39c, i39d⟩ := info42
      refine wl_ap (fx_append (s := l7) (t := ⟨(some p34), 1, 1⟩) (m := 1) (xs := (c42 a3_0 a3_1 a3_2)) Try.underlying25 Try.underlying25 i39a i39b i39c i39d rfl rfl rfl (by first | rfl | simp [len42]) r36 h) rfl so ?_; intro l40 w41 h so
      obtain ⟨q42, h⟩ := h
      replace t_b16 := pv_bk q42 t_b16 (by simp)
      refine wl_val (at_move rfl) rfl ?_
      refine wl_callF (runs_Block.calls _ _ _ _ h) enter21 rfl trivial so ?_; intro x43 w44 h so
      obtain ⟨q45, h⟩ := h
      replace t_b16 := pv_bk q45 t_b16 (by simp)
      refine wl_val (at_move rfl) rfl ?_
      refine wl_val (at_extract rfl rfl) rfl ?_
      refine wl_val (at_extract rfl rfl) rfl ?_
      refine wl_newT (T := 24) (cs := (c24 (zInts 64))) (ef_alloc zero24 rfl) rfl so ?_; intro b46 w47 hb_b46 t_b46 k_b46 so
      have g_b46 := Nat.le_of_eq hb_b46.symm
      have hc := k_b46.ch (F := [])
      have n_b16_b46 : b16 ≠ b46 := fun e => by have := t_b16.lt; omega
      replace t_b16 := t_b16.keep k_b46
      refine wl_stWT (vs := (c24 x43.1)) t_b46 (by first | (rw [len24, len24]) | (rw [len24]) | rfl) rfl so (fun q => ef_storeA (p := (⟨b46, 0, none⟩ : Addr)) (cs := (c24 x43.1)) (by rw [len24]; exact sz24) rfl rfl (one24 _) q) ?_; intro w48 t_b46 s_w48 so
      replace t_b16 := t_b16.same s_w48 (n_b16_b46)
      replace hc := ch_same hc s_w48 (.inr g_b46)
      refine wl_val (at_assign rfl) rfl ?_
      refine wl_nil ?_
      refine wk_prune [(0, .slice a0.a a0.n a0.c), (1, .int .i16 a1), (9, .bool x3), (11, .pointer (some (⟨b16, 0, none⟩ : Addr))), (16, .int .i64 x28.2), (18, .int .i64 x43.2)] ⟨rfl, rfl, rfl, rfl, rfl, rfl, trivial⟩ (fun f1 => ?_)
      refine wk_then ?_
      refine wc_seq ?_
      refine wc_region ?_
      refine wl_val (at_loadA (cs := (c24 x13.1)) Try.underlying24 rfl (by rw [len24]; exact sz24) rfl (ldA_full t_b16)) rfl ?_
      refine wl_val (at_move rfl) rfl ?_
      replace h := h b46 _ hc g_b46 t_b46.lt; clear hc
      refine wl_callF (runs_Symbols.calls _ _ _ _ h) enter11 rfl trivial so ?_; intro x49 w50 h so
      refine wl_val (at_move rfl) rfl ?_
      refine wl_val (at_extract rfl rfl) rfl ?_
      refine wl_val (at_extract rfl rfl) rfl ?_
      refine wl_val (at_assign rfl) rfl ?_
      refine wl_val (at_assign rfl) rfl ?_
      refine wl_nil ?_
      refine wk_prune [(0, .slice a0.a a0.n a0.c), (9, .bool x3), (16, .int .i64 x28.2), (18, .int .i64 x43.2), (19, .slice x49.1.a x49.1.n x49.1.c), (20, .int .i64 x49.2)] ⟨rfl, rfl, rfl, rfl, rfl, rfl, trivial⟩ (fun f1 => ?_)
      refine wk_then ?_
      refine wc_seq ?_
      refine wc_region ?_
      refine wl_val (at_move rfl) rfl ?_
      refine wl_val (at_move rfl) rfl ?_
      refine bif_ h (fun hb h => ?_) (fun hb h => ?_)
      · refine wl_set (t := 73) (v := .bool true) (congrArg Value.bool hb) ?_; clear hb
        refine wl_on (t := 73) rfl (by decide) rfl ?_
        refine wl_val (at_move rfl) rfl ?_
        refine wl_on (t := 73) rfl (by decide) rfl ?_
        refine wl_val (at_eql rfl rfl) rfl ?_
        refine wl_val (at_pick_t rfl rfl) rfl ?_
        refine wl_val (at_move rfl) rfl ?_
        refine bif_ h (fun hb h => ?_) (fun hb h => ?_)
        · refine wl_set (t := 77) (v := .bool true) (congrArg Value.bool hb) ?_; clear hb
          refine wl_on (t := 77) rfl (by decide) rfl ?_
          refine wl_val (at_move rfl) rfl ?_
          refine wl_on (t := 77) rfl (by decide) rfl ?_
          refine wl_val (at_eql rfl rfl) rfl ?_
          refine wl_val (at_pick_t rfl rfl) rfl ?_
          refine wl_val (at_move rfl) rfl ?_
          refine bif_ h (fun hb h => ?_) (fun hb h => ?_)
          · refine wl_set (t := 81) (v := .bool true) (congrArg Value.bool hb) ?_; clear hb
            refine wl_on (t := 81) rfl (by decide) rfl ?_
            refine wl_val (at_move rfl) rfl ?_
            refine wl_on (t := 81) rfl (by decide) rfl ?_
            refine wl_val (at_eql rfl rfl) rfl ?_
            refine wl_val (at_pick_t rfl rfl) rfl ?_
            refine wl_val (at_move rfl) rfl ?_
            refine bif_ h (fun hb h => ?_) (fun hb h => ?_)
            · refine wl_set (t := 85) (v := .bool true) (congrArg Value.bool hb) ?_; clear hb
              refine wl_on (t := 85) rfl (by decide) rfl ?_
              refine wl_val (at_move rfl) rfl ?_
              refine wl_on (t := 85) rfl (by decide) rfl ?_
              refine wl_val (at_move rfl) rfl ?_
              refine wl_on (t := 85) rfl (by decide) rfl ?_
              refine wl_callF (mosaiclaw07_shorter.calls _ _ _ h) enter26 rfl trivial so ?_; intro x51 w52 h so
              refine wl_on (t := 85) rfl (by decide) rfl ?_
              refine wl_callF (mosaiclaw07_same.calls _ _ _ _ h) enter25 rfl trivial so ?_; intro x53 w54 h so
              refine wl_val (at_pick_t rfl rfl) rfl ?_
              refine wl_val (at_assign rfl) rfl ?_
              refine wl_nil ?_
              refine wk_prune [(8, .bool x53)] ⟨rfl, trivial⟩ (fun f1 => ?_)
              refine wk_then ?_
              refine wc_ret ?_
              exact wk_ret1 (x := x53) rfl (by decide) rfl so h
            · refine wl_set (t := 85) (v := .bool false) (congrArg Value.bool hb) ?_; clear hb
              refine wl_off (t := 85) rfl (by decide) rfl ?_
              refine wl_off (t := 85) rfl (by decide) rfl ?_
              refine wl_off (t := 85) rfl (by decide) rfl ?_
              refine wl_off (t := 85) rfl (by decide) rfl ?_
              refine wl_val (at_pick_f rfl rfl) rfl ?_
              refine wl_val (at_assign rfl) rfl ?_
              refine wl_nil ?_
              refine wk_prune [(8, .bool false)] ⟨rfl, trivial⟩ (fun f1 => ?_)
              refine wk_then ?_
              refine wc_ret ?_
              exact wk_ret1 (x := false) rfl (by decide) rfl so h
          · refine wl_set (t := 81) (v := .bool false) (congrArg Value.bool hb) ?_; clear hb
            refine wl_off (t := 81) rfl (by decide) rfl ?_
            refine wl_off (t := 81) rfl (by decide) rfl ?_
            refine wl_val (at_pick_f rfl rfl) rfl ?_
            refine wl_val (at_move rfl) rfl ?_
            refine wl_off (t := 85) rfl (by decide) rfl ?_
            refine wl_off (t := 85) rfl (by decide) rfl ?_
            refine wl_off (t := 85) rfl (by decide) rfl ?_
            refine wl_off (t := 85) rfl (by decide) rfl ?_
            refine wl_val (at_pick_f rfl rfl) rfl ?_
            refine wl_val (at_assign rfl) rfl ?_
            refine wl_nil ?_
            refine wk_prune [(8, .bool false)] ⟨rfl, trivial⟩ (fun f1 => ?_)
            refine wk_then ?_
            refine wc_ret ?_
            exact wk_ret1 (x := false) rfl (by decide) rfl so h
        · refine wl_set (t := 77) (v := .bool false) (congrArg Value.bool hb) ?_; clear hb
          refine wl_off (t := 77) rfl (by decide) rfl ?_
          refine wl_off (t := 77) rfl (by decide) rfl ?_
          refine wl_val (at_pick_f rfl rfl) rfl ?_
          refine wl_val (at_move rfl) rfl ?_
          refine wl_off (t := 81) rfl (by decide) rfl ?_
          refine wl_off (t := 81) rfl (by decide) rfl ?_
          refine wl_val (at_pick_f rfl rfl) rfl ?_
          refine wl_val (at_move rfl) rfl ?_
          refine wl_off (t := 85) rfl (by decide) rfl ?_
          refine wl_off (t := 85) rfl (by decide) rfl ?_
          refine wl_off (t := 85) rfl (by decide) rfl ?_
          refine wl_off (t := 85) rfl (by decide) rfl ?_
          refine wl_val (at_pick_f rfl rfl) rfl ?_
          refine wl_val (at_assign rfl) rfl ?_
          refine wl_nil ?_
          refine wk_prune [(8, .bool false)] ⟨rfl, trivial⟩ (fun f1 => ?_)
          refine wk_then ?_
          refine wc_ret ?_
          exact wk_ret1 (x := false) rfl (by decide) rfl so h
      · refine wl_set (t := 73) (v := .bool false) (congrArg Value.bool hb) ?_; clear hb
        refine wl_off (t := 73) rfl (by decide) rfl ?_
        refine wl_off (t := 73) rfl (by decide) rfl ?_
        refine wl_val (at_pick_f rfl rfl) rfl ?_
        refine wl_val (at_move rfl) rfl ?_
        refine wl_off (t := 77) rfl (by decide) rfl ?_
        refine wl_off (t := 77) rfl (by decide) rfl ?_
        refine wl_val (at_pick_f rfl rfl) rfl ?_
        refine wl_val (at_move rfl) rfl ?_
        refine wl_off (t := 81) rfl (by decide) rfl ?_
        refine wl_off (t := 81) rfl (by decide) rfl ?_
        refine wl_val (at_pick_f rfl rfl) rfl ?_
        refine wl_val (at_move rfl) rfl ?_
        refine wl_off (t := 85) rfl (by decide) rfl ?_
        refine wl_off (t := 85) rfl (by decide) rfl ?_
        refine wl_off (t := 85) rfl (by decide) rfl ?_
        refine wl_off (t := 85) rfl (by decide) rfl ?_
        refine wl_val (at_pick_f rfl rfl) rfl ?_
        refine wl_val (at_assign rfl) rfl ?_
        refine wl_nil ?_
        refine wk_prune [(8, .bool false)] ⟨rfl, trivial⟩ (fun f1 => ?_)
        refine wk_then ?_
        refine wc_ret ?_
        exact wk_ret1 (x := false) rfl (by decide) rfl so h
    · intro J23 h hJ23
      refine wc_seq ?_
      refine wc_region ?_
      refine wl_val (at_move rfl) rfl ?_
      refine wl_val (at_lss rfl rfl) rfl ?_
      refine wl_nil ?_
      refine wk_prune [(0, .slice a0.a a0.n a0.c), (1, .int .i16 a1), (7, .pointer (some (⟨b1, 0, none⟩ : Addr))), (9, .bool x3), (10, .slice l7.a l7.n l7.c), (11, .pointer (some (⟨b16, 0, none⟩ : Addr))), (13, .int .i64 (a0.n : Int)), (14, .int .i64 (Int.tmod a2 (a0.n : Int))), (45, .bool (decide ((Int.tmod a2 (a0.n : Int)) < 0)))] ⟨rfl, rfl, rfl, rfl, rfl, rfl, rfl, rfl, rfl, trivial⟩ (fun f1 => ?_)
      refine wk_then ?_
      refine wc_cond rfl h (fun h => ?_) (fun h => ?_)
      · refine wc_region ?_
        refine wl_val (at_move rfl) rfl ?_
        refine wl_val (at_move rfl) rfl ?_
        refine wl_val (at_add rfl rfl) rfl ?_
        refine wl_val (at_assign rfl) rfl ?_
        obtain ⟨x55, e56⟩ : ∃ x : Int, x = (IntKind.wrap .i64 ((Int.tmod a2 (a0.n : Int)) + (a0.n : Int))) := ⟨_, rfl⟩; replace h := h x55 e56
        refine wl_set (t := 14) (v := .int .i64 x55) (congrArg (Value.int .i64) e56.symm) ?_
        refine wl_nil ?_
        exact wk_prune [(0, .slice a0.a a0.n a0.c), (1, .int .i16 a1), (7, .pointer (some (⟨b1, 0, none⟩ : Addr))), (9, .bool x3), (10, .slice l7.a l7.n l7.c), (11, .pointer (some (⟨b16, 0, none⟩ : Addr))), (14, .int .i64 x55)] ⟨rfl, rfl, rfl, rfl, rfl, rfl, rfl, trivial⟩ (fun f1 => hJ23 (x55) _ f1 h ⟨t_b1, t_b16, trivial⟩ so)
      · refine wc_skip ?_
        exact wk_prune [(0, .slice a0.a a0.n a0.c), (1, .int .i16 a1), (7, .pointer (some (⟨b1, 0, none⟩ : Addr))), (9, .bool x3), (10, .slice l7.a l7.n l7.c), (11, .pointer (some (⟨b16, 0, none⟩ : Addr))), (14, .int .i64 (Int.tmod a2 (a0.n : Int)))] ⟨rfl, rfl, rfl, rfl, rfl, rfl, rfl, trivial⟩ (fun f1 => hJ23 ((Int.tmod a2 (a0.n : Int))) _ f1 h ⟨t_b1, t_b16, trivial⟩ so)
end Go.Proofs.Ythblohaffipkhaa.G
