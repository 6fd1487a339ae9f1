import Derived.Test.YthblohaffipkhaaGF
import Derived.Test.YthblohaffipkhaaKmosaiclaw07
import Derived.Test.YthblohaffipkhaaKruns
namespace Go.Proofs.Ythblohaffipkhaa.G
open Go.RowKit
set_option linter.unusedVariables false
set_option linter.unusedSimpArgs false
/-- mosaic/mosaiclaw07.RunsBack -/
def mosaiclaw07_RunsBack.enc : Bool → Value := fun r => .bool r
def mosaiclaw07_RunsBack.s (a0_0 : Ints 64) (a1 : Int) (H0 : Hp) (Q : Bool → Hp → Prop) : Prop :=
  Gn [] H0 (fun (b1 : Nat) (H2 : Hp) => mosaiclaw07_alive.s H2 (fun x3 H4 => Pv [b1] H2 H4 ∧ (mosaiclaw07_fit.s a0_0 H4 (fun x6 H7 => Pv [b1] H4 H7 ∧ (Gr [b1] H7 (fun (H9 : Hp) => mosaiclaw07_within.s a1 (-1024) 1023 H9 (fun x10 H11 => Pv [b1] H9 H11 ∧ (runs_Symbols.s x6 x10 H11 (fun x13 H14 => Pv [b1] H11 H14 ∧ (Join (fun (s17 : Bool) (H18 : Hp) => if s17 = true then (Q false H18) else (∃ k19, Fix (fun (rec24 : Int → Hp → Prop) (s21 : Int) (H22 : Hp) => if decide (s21 < (x13.1.n : Int)) = true then (0 ≤ s21 ∧ s21 < (x13.1.n : Int) ∧ someA x13.1.a (fun p27 => ∃ x29 : Int, ∃ x30 : Int, ∃ x31 : Int, ldA H22 (p27.add (Int.toNat s21 * 3)) (c42 x29 x30 x31) ∧ (Gn [] H22 (fun (b33 : Nat) (H35 : Hp) => Join (fun (s37 : Bool) (H38 : Hp) => if s37 = true then (Q false H38) else (rec24 ((IntKind.wrap .i64 (s21 + 1))) H38)) (fun (J36 : Bool → Hp → Prop) => if decide ((10 : Int) < x30) = true then (J36 (true) H35) else (if decide (x30 < 0) = true then (J36 (true) H35) else (if ((Int.tmod (IntKind.wrap .i64 x29) 16) != (IntKind.wrap .i64 x30)) = true then (J36 (true) H35) else (0 ≤ x30 ∧ (J36 ((decide ((shlI .i64 1 x30) ≤ (IntKind.wrap .i64 x31)))) H35))))))))) else (runs_Block.s x13.1 x10 H22 (fun x47 H48 => Pv [b1] H22 H48 ∧ (Gn [] H48 (fun (b50 : Nat) (H52 : Hp) => if (x47.2 == 0) = true then (Q (x47.1.1 == x6.1) H52) else (Q false H52)))))) k19 (1) H18)) (fun (J16 : Bool → Hp → Prop) => if (!x3) = true then (J16 (true) H14) else (if (x13.2 != 0) = true then (J16 (true) H14) else (if decide ((x13.1.n : Int) < 2) = true then (J16 (true) H14) else (if decide ((64 : Int) < (x13.1.n : Int)) = true then (J16 (true) H14) else (0 ≤ (0 : Int) ∧ (0 : Int) < (x13.1.n : Int) ∧ someA x13.1.a (fun p55 => ldI .i8 H14 ((p55.add (Int.toNat 0 * 3)).add 1) (fun x57 => J16 ((decide ((11 : Int) < x57))) H14)))))))))))))))))
set_option maxRecDepth 20000 in
set_option maxHeartbeats 4000000 in
theorem mosaiclaw07_RunsBack.calls (a0_0 : Ints 64) (a1 : Int) (w0 : World) (Q : Bool → Hp → Prop) (h : mosaiclaw07_RunsBack.s a0_0 a1 w0.heap Q) :
    Ca Try.prog 7 #[.agg (c24 a0_0).toArray, .int .i16 a1] w0 (Rt mosaiclaw07_RunsBack.enc Q w0) := by
  refine ca_start (c := _) Try.func7 rfl Try.ntmps7 rfl ?_
  have so : Sm w0 w0 := Sm.refl w0
  unfold mosaiclaw07_RunsBack.s at h
  refine wc_prune [(0, .agg (c24 a0_0).toArray), (1, .int .i16 a1)] ⟨rfl, rfl, trivial⟩ (fun f1 => ?_)
  refine wc_seq ?_
  refine wc_region ?_
  refine wl_newT (T := 24) (cs := (c24 a0_0)) (ef_box rfl rfl) rfl so ?_; intro b1 w2 hb_b1 t_b1 k_b1 so
  have g_b1 := Nat.le_of_eq hb_b1.symm
  have hc := k_b1.ch (F := [])
  refine wl_val (at_assign rfl) rfl ?_
  refine wl_nil ?_
  refine wk_prune [(1, .int .i16 a1), (2, .pointer (some (⟨b1, 0, none⟩ : Addr)))] ⟨rfl, rfl, trivial⟩ (fun f1 => ?_)
  refine wk_then ?_
  refine wc_seq ?_
  refine wc_region ?_
  replace h := h b1 _ hc g_b1 t_b1.lt; clear hc
  refine wl_callF (mosaiclaw07_alive.calls _ _ h) enter22 rfl trivial so ?_; intro x3 w4 h so
  obtain ⟨q5, h⟩ := h
  replace t_b1 := pv_bk q5 t_b1 (by simp)
  refine wl_val (at_assign rfl) rfl ?_
  refine wl_nil ?_
  refine wk_prune [(1, .int .i16 a1), (2, .pointer (some (⟨b1, 0, none⟩ : Addr))), (5, .bool x3)] ⟨rfl, rfl, rfl, trivial⟩ (fun f1 => ?_)
  refine wk_then ?_
  refine wc_seq ?_
  refine wc_region ?_
  refine wl_val (at_loadA (cs := (c24 a0_0)) Try.underlying24 rfl (by rw [len24]; exact sz24) rfl (ldA_full t_b1)) rfl ?_
  refine wl_callF (mosaiclaw07_fit.calls _ _ _ h) enter23 rfl trivial so ?_; intro x6 w7 h so
  obtain ⟨q8, h⟩ := h
  replace t_b1 := pv_bk q8 t_b1 (by simp)
  refine wl_stWT (vs := (c24 x6)) t_b1 (by first | (rw [len24, len24]) | (rw [len24]) | rfl) rfl so (fun q => ef_storeA (p := (⟨b1, 0, none⟩ : Addr)) (cs := (c24 x6)) (by rw [len24]; exact sz24) rfl rfl (one24 _) q) ?_; intro w9 t_b1 s_w9 so
  have hc := s_w9.ch
  refine wl_nil ?_
  refine wk_prune [(1, .int .i16 a1), (2, .pointer (some (⟨b1, 0, none⟩ : Addr))), (5, .bool x3)] ⟨rfl, rfl, rfl, trivial⟩ (fun f1 => ?_)
  refine wk_then ?_
  refine wc_seq ?_
  refine wc_region ?_
  refine wl_val (at_move rfl) rfl ?_
  replace h := h _ hc; clear hc
  refine wl_callF (mosaiclaw07_within.calls _ _ _ _ _ h) enter24 rfl trivial so ?_; intro x10 w11 h so
  obtain ⟨q12, h⟩ := h
  replace t_b1 := pv_bk q12 t_b1 (by simp)
  refine wl_val (at_assign rfl) rfl ?_
  refine wl_nil ?_
  refine wk_prune [(2, .pointer (some (⟨b1, 0, none⟩ : Addr))), (5, .bool x3), (6, .int .i16 x10)] ⟨rfl, rfl, rfl, trivial⟩ (fun f1 => ?_)
  refine wk_then ?_
  refine wc_seq ?_
  refine wc_region ?_
  refine wl_val (at_loadA (cs := (c24 x6)) Try.underlying24 rfl (by rw [len24]; exact sz24) rfl (ldA_full t_b1)) rfl ?_
  refine wl_val (at_move rfl) rfl ?_
  refine wl_callF (runs_Symbols.calls _ _ _ _ h) enter11 rfl trivial so ?_; intro x13 w14 h so
  obtain ⟨q15, h⟩ := h
  replace t_b1 := pv_bk q15 t_b1 (by simp)
  refine wl_val (at_move rfl) rfl ?_
  refine wl_val (at_extract rfl rfl) rfl ?_
  refine wl_val (at_extract rfl rfl) rfl ?_
  refine wl_val (at_assign rfl) rfl ?_
  refine wl_val (at_assign rfl) rfl ?_
  refine wl_nil ?_
  refine wk_prune [(2, .pointer (some (⟨b1, 0, none⟩ : Addr))), (5, .bool x3), (6, .int .i16 x10), (7, .slice x13.1.a x13.1.n x13.1.c), (8, .int .i64 x13.2)] ⟨rfl, rfl, rfl, rfl, rfl, trivial⟩ (fun f1 => ?_)
  refine wk_then ?_
  refine wc_seq ?_
  refine wc_seq ?_
  refine wc_joinG (w0 := w0) (fun (H : Hp) => Bk H b1 24 (c24 x6) ∧ True) (fun (s17 : Bool) => [(2, .pointer (some (⟨b1, 0, none⟩ : Addr))), (6, .int .i16 x10), (7, .slice x13.1.a x13.1.n x13.1.c), (46, .bool s17)]) (fun (s17 : Bool) => []) h ?_ ?_
  · rintro s17 w18 f1 h ⟨t_b1, _⟩ so; refine wk_then ?_
    refine wc_cond rfl h (fun h => ?_) (fun h => ?_)
    · refine wc_seq ?_
      refine wc_region ?_
      refine wl_val (at_assign rfl) rfl ?_
      refine wl_nil ?_
      refine wk_prune [(4, .bool false)] ⟨rfl, trivial⟩ (fun f1 => ?_)
      refine wk_then ?_
      refine wc_ret ?_
      refine wk_thenR ?_
      exact wk_ret1 (x := false) rfl (by decide) rfl so h
    · refine wc_skip ?_
      refine wk_prune [(2, .pointer (some (⟨b1, 0, none⟩ : Addr))), (6, .int .i16 x10), (7, .slice x13.1.a x13.1.n x13.1.c)] ⟨rfl, rfl, rfl, trivial⟩ (fun f1 => ?_)
      refine wk_then ?_
      refine wc_seq ?_
      refine wc_seq ?_
      refine wc_region ?_
      refine wl_val (at_assign rfl) rfl ?_
      refine wl_nil ?_
      refine wk_prune [(2, .pointer (some (⟨b1, 0, none⟩ : Addr))), (6, .int .i16 x10), (7, .slice x13.1.a x13.1.n x13.1.c), (9, .int .i64 1)] ⟨rfl, rfl, rfl, rfl, trivial⟩ (fun f1 => ?_)
      refine wk_then ?_
      refine wc_block ?_
      obtain ⟨k19, h⟩ := h
      refine wc_loop (fun k a w => ∃ (s21 : Int) (f1 : Nat → Value), a = ac 97 (en f1 [(2, .pointer (some (⟨b1, 0, none⟩ : Addr))), (6, .int .i16 x10), (7, .slice x13.1.a x13.1.n x13.1.c), (9, .int .i64 s21)]) [] ∧ Sm w0 w ∧ (Bk w.heap b1 24 (c24 x6) ∧ True) ∧ Fix _ k s21 w.heap) k19 ⟨(1), _, ac_again ⟨rfl, rfl, rfl, rfl, trivial⟩, so, ⟨t_b1, trivial⟩, h⟩ ?_
      rintro k20 a23 w22 ⟨s21, f1, rfl, so, ⟨t_b1, _⟩, h⟩
      rcases k20 with _ | k20
      · exact h.elim
      replace h := Fix.un h; refine wc_in ?_
      refine wc_seq ?_
      refine wc_seq ?_
      refine wc_region ?_
      refine wl_val (at_move rfl) rfl ?_
      refine wl_val (at_move rfl) rfl ?_
      refine wl_val (at_lenL Try.underlying25 rfl) rfl ?_
      refine wl_val (at_lss rfl rfl) rfl ?_
      refine wl_nil ?_
      refine wk_prune [(2, .pointer (some (⟨b1, 0, none⟩ : Addr))), (6, .int .i16 x10), (7, .slice x13.1.a x13.1.n x13.1.c), (9, .int .i64 s21), (50, .bool (decide (s21 < (x13.1.n : Int))))] ⟨rfl, rfl, rfl, rfl, rfl, trivial⟩ (fun f1 => ?_)
      refine wk_then ?_
      refine wc_cond rfl h (fun h => ?_) (fun h => ?_)
      · refine wc_skip ?_
        refine wk_prune [(2, .pointer (some (⟨b1, 0, none⟩ : Addr))), (6, .int .i16 x10), (7, .slice x13.1.a x13.1.n x13.1.c), (9, .int .i64 s21)] ⟨rfl, rfl, rfl, rfl, trivial⟩ (fun f1 => ?_)
        refine wk_then ?_
        refine wc_seq ?_
        refine wc_block ?_
        refine wc_seq ?_
        refine wc_region ?_
        refine wl_val (at_move rfl) rfl ?_
        refine wl_val (at_move rfl) rfl ?_
        obtain ⟨q25, q26, p27, q28, h⟩ := h
        refine wl_val (at_ixAddrL Try.underlying25 sz42 (sl_some q28) rfl q25 q26) rfl ?_
        obtain ⟨x29, x30, x31, q32, h⟩ := h
        refine wl_val (at_loadA (cs := (c42 x29 x30 x31)) Try.underlying42 rfl (by rw [len42]; exact sz42) rfl q32) rfl ?_
        refine wl_newT (T := 42) (cs := (c42 0 0 0)) (ef_alloc zero42 rfl) rfl so ?_; intro b33 w34 hb_b33 t_b33 k_b33 so
        have g_b33 := Nat.le_of_eq hb_b33.symm
        have hc := k_b33.ch (F := [])
        have n_b1_b33 : b1 ≠ b33 := fun e => by have := t_b1.lt; omega
        replace t_b1 := t_b1.keep k_b33
        refine wl_stWT (vs := (c42 x29 x30 x31)) t_b33 (by first | (rw [len42, len42]) | (rw [len42]) | rfl) rfl so (fun q => ef_storeA (p := (⟨b33, 0, none⟩ : Addr)) (cs := (c42 x29 x30 x31)) (by rw [len42]; exact sz42) rfl rfl (one42 _ _ _) q) ?_; intro w35 t_b33 s_w35 so
        replace t_b1 := t_b1.same s_w35 (n_b1_b33)
        replace hc := ch_same hc s_w35 (.inr g_b33)
        refine wl_nil ?_
        refine wk_prune [(2, .pointer (some (⟨b1, 0, none⟩ : Addr))), (6, .int .i16 x10), (7, .slice x13.1.a x13.1.n x13.1.c), (9, .int .i64 s21), (10, .pointer (some (⟨b33, 0, none⟩ : Addr)))] ⟨rfl, rfl, rfl, rfl, rfl, trivial⟩ (fun f1 => ?_)
        refine wk_then ?_
        replace h := h b33 _ hc g_b33 t_b33.lt; clear hc
        refine wc_seq ?_
        refine wc_joinG (w0 := w0) (fun (H : Hp) => Bk H b1 24 (c24 x6) ∧ True) (fun (s37 : Bool) => [(2, .pointer (some (⟨b1, 0, none⟩ : Addr))), (6, .int .i16 x10), (7, .slice x13.1.a x13.1.n x13.1.c), (9, .int .i64 s21), (83, .bool s37)]) (fun (s37 : Bool) => []) h ?_ ?_
        · rintro s37 w38 f1 h ⟨t_b1, _⟩ so; refine wk_then ?_
          refine wc_cond rfl h (fun h => ?_) (fun h => ?_)
          · refine wc_seq ?_
            refine wc_region ?_
            refine wl_val (at_assign rfl) rfl ?_
            refine wl_nil ?_
            refine wk_prune [(4, .bool false)] ⟨rfl, trivial⟩ (fun f1 => ?_)
            refine wk_then ?_
            refine wc_ret ?_
            refine wk_blkR ?_
            refine wk_thenR ?_
            refine wk_thenR ?_
            refine wk_blkR ?_
            refine wk_thenR ?_
            exact wk_ret1 (x := false) rfl (by decide) rfl so h
          · refine wc_skip ?_
            refine wk_blkN ?_
            refine wk_prune [(2, .pointer (some (⟨b1, 0, none⟩ : Addr))), (6, .int .i16 x10), (7, .slice x13.1.a x13.1.n x13.1.c), (9, .int .i64 s21)] ⟨rfl, rfl, rfl, rfl, trivial⟩ (fun f1 => ?_)
            refine wk_then ?_
            refine wc_region ?_
            refine wl_val (at_move rfl) rfl ?_
            refine wl_val (at_add rfl rfl) rfl ?_
            refine wl_val (at_assign rfl) rfl ?_
            refine wl_nil ?_
            exact wk_again ⟨((IntKind.wrap .i64 (s21 + 1))), _, ac_again ⟨rfl, rfl, rfl, rfl, trivial⟩, so, ⟨t_b1, trivial⟩, h⟩
        · intro J36 h hJ36
          refine wc_wo [0, 1, 3, 7, 15, 31, 63, 127, 255, 511, 1023, 2047, 4095, 511, 8703, 25087, 65535, 131071, 262143, 524287, 1048575, 2097151, 524287, 4718591, 13107199, 33554431, 67108863] mixed (by kernel_rfl) so ?_; intro w39 hw so; rw [← hw] at h t_b1 t_b33; clear hw
          refine wo_pure (m' := 1) 0 rfl (by kernel_rfl) rfl rfl (fun H => at_fieldAddr Try.underlying42 rfl rfl sz39 (by decide) rfl) ?_
          have q40 : cellAt w39.heap (⟨b33, 1, none⟩ : Addr) = some (.int .i8 x30) := (t_b33.cell 1).trans (by first | rfl | simp [List.getElem?_append, ints_len, bools_len])
          refine wo_load (m' := 3) 1 (fun H => cellAt H (⟨b33, 1, none⟩ : Addr) = some (.int .i8 x30)) rfl (by kernel_rfl) rfl rfl (fun H q40 => at_load (v := .int .i8 x30) Try.underlying39 rfl rfl (q40)) q40 ?_
          refine wo_pure (m' := 7) 2 rfl (by kernel_rfl) rfl rfl (fun H => at_gtr rfl rfl) ?_
          refine wo_pure (m' := 15) 3 rfl (by kernel_rfl) rfl rfl (fun H => at_move rfl) ?_
          refine bif_ h (fun hb h => ?_) (fun hb h => ?_)
          · refine wo_set (t := 60) (v := .bool true) (congrArg Value.bool hb) ?_; clear hb
            refine wo_off (m' := 31) 4 rfl (by kernel_rfl) rfl (t := 60) rfl (by decide) rfl ?_
            refine wo_off (m' := 63) 5 rfl (by kernel_rfl) rfl (t := 60) rfl (by decide) rfl ?_
            refine wo_off (m' := 127) 6 rfl (by kernel_rfl) rfl (t := 60) rfl (by decide) rfl ?_
            refine wo_pure (m' := 255) 7 rfl (by kernel_rfl) rfl rfl (fun H => at_pick_t rfl rfl) ?_
            refine wo_pure (m' := 511) 8 rfl (by kernel_rfl) rfl rfl (fun H => at_move rfl) ?_
            refine wo_off (m' := 1023) 9 rfl (by kernel_rfl) rfl (t := 65) rfl (by decide) rfl ?_
            refine wo_off (m' := 2047) 10 rfl (by kernel_rfl) rfl (t := 65) rfl (by decide) rfl ?_
            refine wo_off (m' := 4095) 11 rfl (by kernel_rfl) rfl (t := 65) rfl (by decide) rfl ?_
            refine wo_off (m' := 8191) 12 rfl (by kernel_rfl) rfl (t := 65) rfl (by decide) rfl ?_
            refine wo_off (m' := 16383) 13 rfl (by kernel_rfl) rfl (t := 65) rfl (by decide) rfl ?_
            refine wo_off (m' := 32767) 14 rfl (by kernel_rfl) rfl (t := 65) rfl (by decide) rfl ?_
            refine wo_off (m' := 65535) 15 rfl (by kernel_rfl) rfl (t := 65) rfl (by decide) rfl ?_
            refine wo_off (m' := 131071) 16 rfl (by kernel_rfl) rfl (t := 65) rfl (by decide) rfl ?_
            refine wo_pure (m' := 262143) 17 rfl (by kernel_rfl) rfl rfl (fun H => at_pick_t rfl rfl) ?_
            refine wo_pure (m' := 524287) 18 rfl (by kernel_rfl) rfl rfl (fun H => at_move rfl) ?_
            refine wo_off (m' := 1048575) 19 rfl (by kernel_rfl) rfl (t := 75) rfl (by decide) rfl ?_
            refine wo_off (m' := 2097151) 20 rfl (by kernel_rfl) rfl (t := 75) rfl (by decide) rfl ?_
            refine wo_off (m' := 4194303) 21 rfl (by kernel_rfl) rfl (t := 75) rfl (by decide) rfl ?_
            refine wo_off (m' := 8388607) 22 rfl (by kernel_rfl) rfl (t := 75) rfl (by decide) rfl ?_
            refine wo_off (m' := 16777215) 23 rfl (by kernel_rfl) rfl (t := 75) rfl (by decide) rfl ?_
            refine wo_off (m' := 33554431) 24 rfl (by kernel_rfl) rfl (t := 75) rfl (by decide) rfl ?_
            refine wo_off (m' := 67108863) 25 rfl (by kernel_rfl) rfl (t := 75) rfl (by decide) rfl ?_
            refine wo_pure (m' := 134217727) 26 rfl (by kernel_rfl) rfl rfl (fun H => at_pick_t rfl rfl) ?_
            refine wo_done (by kernel_rfl) ?_
            exact wk_prune [(2, .pointer (some (⟨b1, 0, none⟩ : Addr))), (6, .int .i16 x10), (7, .slice x13.1.a x13.1.n x13.1.c), (9, .int .i64 s21), (83, .bool true)] ⟨rfl, rfl, rfl, rfl, rfl, trivial⟩ (fun f1 => hJ36 (true) _ f1 h ⟨t_b1, trivial⟩ so)
          · refine wo_set (t := 60) (v := .bool false) (congrArg Value.bool hb) ?_; clear hb
            refine wo_pureG (m' := 31) 4 rfl (by kernel_rfl) rfl (t := 60) rfl (by decide) rfl (fun H => at_fieldAddr Try.underlying42 rfl rfl sz39 (by decide) rfl) ?_
            have q41 : cellAt w39.heap (⟨b33, 1, none⟩ : Addr) = some (.int .i8 x30) := (t_b33.cell 1).trans (by first | rfl | simp [List.getElem?_append, ints_len, bools_len])
            refine wo_loadG (m' := 63) 5 (fun H => cellAt H (⟨b33, 1, none⟩ : Addr) = some (.int .i8 x30)) rfl (by kernel_rfl) rfl (t := 60) rfl (by decide) rfl (fun H q41 => at_load (v := .int .i8 x30) Try.underlying39 rfl rfl (q41)) q41 ?_
            refine wo_pureG (m' := 127) 6 rfl (by kernel_rfl) rfl (t := 60) rfl (by decide) rfl (fun H => at_lss rfl rfl) ?_
            refine wo_pure (m' := 255) 7 rfl (by kernel_rfl) rfl rfl (fun H => at_pick_f rfl rfl) ?_
            refine wo_pure (m' := 511) 8 rfl (by kernel_rfl) rfl rfl (fun H => at_move rfl) ?_
            refine bif_ h (fun hb h => ?_) (fun hb h => ?_)
            · refine wo_set (t := 65) (v := .bool true) (congrArg Value.bool hb) ?_; clear hb
              refine wo_off (m' := 1023) 9 rfl (by kernel_rfl) rfl (t := 65) rfl (by decide) rfl ?_
              refine wo_off (m' := 2047) 10 rfl (by kernel_rfl) rfl (t := 65) rfl (by decide) rfl ?_
              refine wo_off (m' := 4095) 11 rfl (by kernel_rfl) rfl (t := 65) rfl (by decide) rfl ?_
              refine wo_off (m' := 8191) 12 rfl (by kernel_rfl) rfl (t := 65) rfl (by decide) rfl ?_
              refine wo_off (m' := 16383) 13 rfl (by kernel_rfl) rfl (t := 65) rfl (by decide) rfl ?_
              refine wo_off (m' := 32767) 14 rfl (by kernel_rfl) rfl (t := 65) rfl (by decide) rfl ?_
              refine wo_off (m' := 65535) 15 rfl (by kernel_rfl) rfl (t := 65) rfl (by decide) rfl ?_
              refine wo_off (m' := 131071) 16 rfl (by kernel_rfl) rfl (t := 65) rfl (by decide) rfl ?_
              refine wo_pure (m' := 262143) 17 rfl (by kernel_rfl) rfl rfl (fun H => at_pick_t rfl rfl) ?_
              refine wo_pure (m' := 524287) 18 rfl (by kernel_rfl) rfl rfl (fun H => at_move rfl) ?_
              refine wo_off (m' := 1048575) 19 rfl (by kernel_rfl) rfl (t := 75) rfl (by decide) rfl ?_
              refine wo_off (m' := 2097151) 20 rfl (by kernel_rfl) rfl (t := 75) rfl (by decide) rfl ?_
              refine wo_off (m' := 4194303) 21 rfl (by kernel_rfl) rfl (t := 75) rfl (by decide) rfl ?_
              refine wo_off (m' := 8388607) 22 rfl (by kernel_rfl) rfl (t := 75) rfl (by decide) rfl ?_
              refine wo_off (m' := 16777215) 23 rfl (by kernel_rfl) rfl (t := 75) rfl (by decide) rfl ?_
              refine wo_off (m' := 33554431) 24 rfl (by kernel_rfl) rfl (t := 75) rfl (by decide) rfl ?_
              refine wo_off (m' := 67108863) 25 rfl (by kernel_rfl) rfl (t := 75) rfl (by decide) rfl ?_
              refine wo_pure (m' := 134217727) 26 rfl (by kernel_rfl) rfl rfl (fun H => at_pick_t rfl rfl) ?_
              refine wo_done (by kernel_rfl) ?_
              exact wk_prune [(2, .pointer (some (⟨b1, 0, none⟩ : Addr))), (6, .int .i16 x10), (7, .slice x13.1.a x13.1.n x13.1.c), (9, .int .i64 s21), (83, .bool true)] ⟨rfl, rfl, rfl, rfl, rfl, trivial⟩ (fun f1 => hJ36 (true) _ f1 h ⟨t_b1, trivial⟩ so)
            · refine wo_set (t := 65) (v := .bool false) (congrArg Value.bool hb) ?_; clear hb
              refine wo_pureG (m' := 1023) 9 rfl (by kernel_rfl) rfl (t := 65) rfl (by decide) rfl (fun H => at_fieldAddr Try.underlying42 rfl rfl sz5 (by decide) rfl) ?_
              refine wo_pureG (m' := 9215) 13 rfl (by kernel_rfl) rfl (t := 65) rfl (by decide) rfl (fun H => at_fieldAddr Try.underlying42 rfl rfl sz39 (by decide) rfl) ?_
              have q42 : cellAt w39.heap (⟨b33, 0, none⟩ : Addr) = some (.int .u8 x29) := (t_b33.cell 0).trans (by first | rfl | simp [List.getElem?_append, ints_len, bools_len])
              refine wo_loadG (m' := 10239) 10 (fun H => cellAt H (⟨b33, 0, none⟩ : Addr) = some (.int .u8 x29)) rfl (by kernel_rfl) rfl (t := 65) rfl (by decide) rfl (fun H q42 => at_load (v := .int .u8 x29) Try.underlying5 rfl rfl (q42)) q42 ?_
              refine wo_pureG (m' := 12287) 11 rfl (by kernel_rfl) rfl (t := 65) rfl (by decide) rfl (fun H => at_conv Try.underlying5 Try.underlying3 rfl) ?_
              refine wo_pureG (m' := 16383) 12 rfl (by kernel_rfl) rfl (t := 65) rfl (by decide) rfl (fun H => at_rem rfl rfl (by decide)) ?_
              have q43 : cellAt w39.heap (⟨b33, 1, none⟩ : Addr) = some (.int .i8 x30) := (t_b33.cell 1).trans (by first | rfl | simp [List.getElem?_append, ints_len, bools_len])
              refine wo_loadG (m' := 32767) 14 (fun H => cellAt H (⟨b33, 1, none⟩ : Addr) = some (.int .i8 x30)) rfl (by kernel_rfl) rfl (t := 65) rfl (by decide) rfl (fun H q43 => at_load (v := .int .i8 x30) Try.underlying39 rfl rfl (q43)) q43 ?_
              refine wo_pureG (m' := 65535) 15 rfl (by kernel_rfl) rfl (t := 65) rfl (by decide) rfl (fun H => at_conv Try.underlying39 Try.underlying3 rfl) ?_
              refine wo_pureG (m' := 131071) 16 rfl (by kernel_rfl) rfl (t := 65) rfl (by decide) rfl (fun H => at_neq rfl rfl) ?_
              refine wo_pure (m' := 262143) 17 rfl (by kernel_rfl) rfl rfl (fun H => at_pick_f rfl rfl) ?_
              refine wo_pure (m' := 524287) 18 rfl (by kernel_rfl) rfl rfl (fun H => at_move rfl) ?_
              refine bif_ h (fun hb h => ?_) (fun hb h => ?_)
              · refine wo_set (t := 75) (v := .bool true) (congrArg Value.bool hb) ?_; clear hb
                refine wo_off (m' := 1048575) 19 rfl (by kernel_rfl) rfl (t := 75) rfl (by decide) rfl ?_
                refine wo_off (m' := 2097151) 20 rfl (by kernel_rfl) rfl (t := 75) rfl (by decide) rfl ?_
                refine wo_off (m' := 4194303) 21 rfl (by kernel_rfl) rfl (t := 75) rfl (by decide) rfl ?_
                refine wo_off (m' := 8388607) 22 rfl (by kernel_rfl) rfl (t := 75) rfl (by decide) rfl ?_
                refine wo_off (m' := 16777215) 23 rfl (by kernel_rfl) rfl (t := 75) rfl (by decide) rfl ?_
                refine wo_off (m' := 33554431) 24 rfl (by kernel_rfl) rfl (t := 75) rfl (by decide) rfl ?_
                refine wo_off (m' := 67108863) 25 rfl (by kernel_rfl) rfl (t := 75) rfl (by decide) rfl ?_
                refine wo_pure (m' := 134217727) 26 rfl (by kernel_rfl) rfl rfl (fun H => at_pick_t rfl rfl) ?_
                refine wo_done (by kernel_rfl) ?_
                exact wk_prune [(2, .pointer (some (⟨b1, 0, none⟩ : Addr))), (6, .int .i16 x10), (7, .slice x13.1.a x13.1.n x13.1.c), (9, .int .i64 s21), (83, .bool true)] ⟨rfl, rfl, rfl, rfl, rfl, trivial⟩ (fun f1 => hJ36 (true) _ f1 h ⟨t_b1, trivial⟩ so)
              · refine wo_set (t := 75) (v := .bool false) (congrArg Value.bool hb) ?_; clear hb
                refine wo_pureG (m' := 1048575) 19 rfl (by kernel_rfl) rfl (t := 75) rfl (by decide) rfl (fun H => at_fieldAddr Try.underlying42 rfl rfl sz40 (by decide) rfl) ?_
                refine wo_pureG (m' := 5242879) 22 rfl (by kernel_rfl) rfl (t := 75) rfl (by decide) rfl (fun H => at_fieldAddr Try.underlying42 rfl rfl sz39 (by decide) rfl) ?_
                have q44 : cellAt w39.heap (⟨b33, 2, none⟩ : Addr) = some (.int .u16 x31) := (t_b33.cell 2).trans (by first | rfl | simp [List.getElem?_append, ints_len, bools_len])
                refine wo_loadG (m' := 6291455) 20 (fun H => cellAt H (⟨b33, 2, none⟩ : Addr) = some (.int .u16 x31)) rfl (by kernel_rfl) rfl (t := 75) rfl (by decide) rfl (fun H q44 => at_load (v := .int .u16 x31) Try.underlying40 rfl rfl (q44)) q44 ?_
                refine wo_pureG (m' := 8388607) 21 rfl (by kernel_rfl) rfl (t := 75) rfl (by decide) rfl (fun H => at_conv Try.underlying40 Try.underlying3 rfl) ?_
                have q45 : cellAt w39.heap (⟨b33, 1, none⟩ : Addr) = some (.int .i8 x30) := (t_b33.cell 1).trans (by first | rfl | simp [List.getElem?_append, ints_len, bools_len])
                refine wo_loadG (m' := 16777215) 23 (fun H => cellAt H (⟨b33, 1, none⟩ : Addr) = some (.int .i8 x30)) rfl (by kernel_rfl) rfl (t := 75) rfl (by decide) rfl (fun H q45 => at_load (v := .int .i8 x30) Try.underlying39 rfl rfl (q45)) q45 ?_
                obtain ⟨q46, h⟩ := h
                refine wo_pureG (m' := 33554431) 24 rfl (by kernel_rfl) rfl (t := 75) rfl (by decide) rfl (fun H => at_shl rfl rfl q46) ?_
                refine wo_pureG (m' := 67108863) 25 rfl (by kernel_rfl) rfl (t := 75) rfl (by decide) rfl (fun H => at_geq rfl rfl) ?_
                refine wo_pure (m' := 134217727) 26 rfl (by kernel_rfl) rfl rfl (fun H => at_pick_f rfl rfl) ?_
                refine wo_done (by kernel_rfl) ?_
                exact wk_prune [(2, .pointer (some (⟨b1, 0, none⟩ : Addr))), (6, .int .i16 x10), (7, .slice x13.1.a x13.1.n x13.1.c), (9, .int .i64 s21), (83, .bool (decide ((shlI .i64 1 x30) ≤ (IntKind.wrap .i64 x31))))] ⟨rfl, rfl, rfl, rfl, rfl, trivial⟩ (fun f1 => hJ36 ((decide ((shlI .i64 1 x30) ≤ (IntKind.wrap .i64 x31)))) _ f1 h ⟨t_b1, trivial⟩ so)
      · refine wc_exit ?_
        refine wk_thenE ?_
        refine wk_thenE ?_
        refine wk_blkE ?_
        refine wk_prune [(2, .pointer (some (⟨b1, 0, none⟩ : Addr))), (6, .int .i16 x10), (7, .slice x13.1.a x13.1.n x13.1.c)] ⟨rfl, rfl, rfl, trivial⟩ (fun f1 => ?_)
        refine wk_then ?_
        refine wc_seq ?_
        refine wc_region ?_
        refine wl_val (at_move rfl) rfl ?_
        refine wl_val (at_move rfl) rfl ?_
        refine wl_callF (runs_Block.calls _ _ _ _ h) enter21 rfl trivial so ?_; intro x47 w48 h so
        obtain ⟨q49, h⟩ := h
        replace t_b1 := pv_bk q49 t_b1 (by simp)
        refine wl_val (at_move rfl) rfl ?_
        refine wl_val (at_extract rfl rfl) rfl ?_
        refine wl_val (at_extract rfl rfl) rfl ?_
        refine wl_newT (T := 24) (cs := (c24 (zInts 64))) (ef_alloc zero24 rfl) rfl so ?_; intro b50 w51 hb_b50 t_b50 k_b50 so
        have g_b50 := Nat.le_of_eq hb_b50.symm
        have hc := k_b50.ch (F := [])
        have n_b1_b50 : b1 ≠ b50 := fun e => by have := t_b1.lt; omega
        replace t_b1 := t_b1.keep k_b50
        refine wl_stWT (vs := (c24 x47.1)) t_b50 (by first | (rw [len24, len24]) | (rw [len24]) | rfl) rfl so (fun q => ef_storeA (p := (⟨b50, 0, none⟩ : Addr)) (cs := (c24 x47.1)) (by rw [len24]; exact sz24) rfl rfl (one24 _) q) ?_; intro w52 t_b50 s_w52 so
        replace t_b1 := t_b1.same s_w52 (n_b1_b50)
        replace hc := ch_same hc s_w52 (.inr g_b50)
        refine wl_val (at_assign rfl) rfl ?_
        refine wl_nil ?_
        refine wk_prune [(2, .pointer (some (⟨b1, 0, none⟩ : Addr))), (11, .pointer (some (⟨b50, 0, none⟩ : Addr))), (12, .int .i64 x47.2)] ⟨rfl, rfl, rfl, trivial⟩ (fun f1 => ?_)
        refine wk_then ?_
        refine wc_seq ?_
        refine wc_region ?_
        refine wl_val (at_move rfl) rfl ?_
        refine wl_val (at_eql rfl rfl) rfl ?_
        refine wl_val (at_move rfl) rfl ?_
        replace h := h b50 _ hc g_b50 t_b50.lt; clear hc
        refine bif_ h (fun hb h => ?_) (fun hb h => ?_)
        · refine wl_set (t := 92) (v := .bool true) (congrArg Value.bool hb) ?_; clear hb
          refine wl_on (t := 92) rfl (by decide) rfl ?_
          refine wl_val (at_loadA (cs := (c24 x47.1)) Try.underlying24 rfl (by rw [len24]; exact sz24) rfl (ldA_full t_b50)) rfl ?_
          refine wl_on (t := 92) rfl (by decide) rfl ?_
          refine wl_val (at_loadA (cs := (c24 x6)) Try.underlying24 rfl (by rw [len24]; exact sz24) rfl (ldA_full t_b1)) rfl ?_
          refine wl_on (t := 92) rfl (by decide) rfl ?_
          refine wl_val (at_eqlA (xs := (c24 x47.1)) (ys := (c24 x6)) rfl rfl (by kernel_rfl) (eqv_ints Try.underlying24 Try.underlying22 sz22)) rfl ?_
          refine wl_val (at_pick_t rfl rfl) rfl ?_
          refine wl_val (at_assign rfl) rfl ?_
          refine wl_nil ?_
          refine wk_prune [(4, .bool (x47.1.1 == x6.1))] ⟨rfl, trivial⟩ (fun f1 => ?_)
          refine wk_then ?_
          refine wc_ret ?_
          exact wk_ret1 (x := (x47.1.1 == x6.1)) rfl (by decide) rfl so h
        · refine wl_set (t := 92) (v := .bool false) (congrArg Value.bool hb) ?_; clear hb
          refine wl_off (t := 92) rfl (by decide) rfl ?_
          refine wl_off (t := 92) rfl (by decide) rfl ?_
          refine wl_off (t := 92) rfl (by decide) rfl ?_
          refine wl_val (at_pick_f rfl rfl) rfl ?_
          refine wl_val (at_assign rfl) rfl ?_
          refine wl_nil ?_
          refine wk_prune [(4, .bool false)] ⟨rfl, trivial⟩ (fun f1 => ?_)
          refine wk_then ?_
          refine wc_ret ?_
          exact wk_ret1 (x := false) rfl (by decide) rfl so h
  · intro J16 h hJ16
    refine wc_region ?_
    refine wl_val (at_move rfl) rfl ?_
    refine wl_val (at_not rfl) rfl ?_
    refine wl_val (at_move rfl) rfl ?_
    refine bif_ h (fun hb h => ?_) (fun hb h => ?_)
    · refine wl_set (t := 26) (v := .bool true) (congrArg Value.bool hb) ?_; clear hb
      refine wl_off (t := 26) rfl (by decide) rfl ?_
      refine wl_off (t := 26) rfl (by decide) rfl ?_
      refine wl_val (at_pick_t rfl rfl) rfl ?_
      refine wl_val (at_move rfl) rfl ?_
      refine wl_off (t := 30) rfl (by decide) rfl ?_
      refine wl_off (t := 30) rfl (by decide) rfl ?_
      refine wl_off (t := 30) rfl (by decide) rfl ?_
      refine wl_val (at_pick_t rfl rfl) rfl ?_
      refine wl_val (at_move rfl) rfl ?_
      refine wl_off (t := 35) rfl (by decide) rfl ?_
      refine wl_off (t := 35) rfl (by decide) rfl ?_
      refine wl_off (t := 35) rfl (by decide) rfl ?_
      refine wl_val (at_pick_t rfl rfl) rfl ?_
      refine wl_val (at_move rfl) rfl ?_
      refine wl_off (t := 40) rfl (by decide) rfl ?_
      refine wl_off (t := 40) rfl (by decide) rfl ?_
      refine wl_off (t := 40) rfl (by decide) rfl ?_
      refine wl_off (t := 40) rfl (by decide) rfl ?_
      refine wl_off (t := 40) rfl (by decide) rfl ?_
      refine wl_val (at_pick_t rfl rfl) rfl ?_
      refine wl_nil ?_
      exact wk_prune [(2, .pointer (some (⟨b1, 0, none⟩ : Addr))), (6, .int .i16 x10), (7, .slice x13.1.a x13.1.n x13.1.c), (46, .bool true)] ⟨rfl, rfl, rfl, rfl, trivial⟩ (fun f1 => hJ16 (true) _ f1 h ⟨t_b1, trivial⟩ so)
    · refine wl_set (t := 26) (v := .bool false) (congrArg Value.bool hb) ?_; clear hb
      refine wl_on (t := 26) rfl (by decide) rfl ?_
      refine wl_val (at_move rfl) rfl ?_
      refine wl_on (t := 26) rfl (by decide) rfl ?_
      refine wl_val (at_neq rfl rfl) rfl ?_
      refine wl_val (at_pick_f rfl rfl) rfl ?_
      refine wl_val (at_move rfl) rfl ?_
      refine bif_ h (fun hb h => ?_) (fun hb h => ?_)
      · refine wl_set (t := 30) (v := .bool true) (congrArg Value.bool hb) ?_; clear hb
        refine wl_off (t := 30) rfl (by decide) rfl ?_
        refine wl_off (t := 30) rfl (by decide) rfl ?_
        refine wl_off (t := 30) rfl (by decide) rfl ?_
        refine wl_val (at_pick_t rfl rfl) rfl ?_
        refine wl_val (at_move rfl) rfl ?_
        refine wl_off (t := 35) rfl (by decide) rfl ?_
        refine wl_off (t := 35) rfl (by decide) rfl ?_
        refine wl_off (t := 35) rfl (by decide) rfl ?_
        refine wl_val (at_pick_t rfl rfl) rfl ?_
        refine wl_val (at_move rfl) rfl ?_
        refine wl_off (t := 40) rfl (by decide) rfl ?_
        refine wl_off (t := 40) rfl (by decide) rfl ?_
        refine wl_off (t := 40) rfl (by decide) rfl ?_
        refine wl_off (t := 40) rfl (by decide) rfl ?_
        refine wl_off (t := 40) rfl (by decide) rfl ?_
        refine wl_val (at_pick_t rfl rfl) rfl ?_
        refine wl_nil ?_
        exact wk_prune [(2, .pointer (some (⟨b1, 0, none⟩ : Addr))), (6, .int .i16 x10), (7, .slice x13.1.a x13.1.n x13.1.c), (46, .bool true)] ⟨rfl, rfl, rfl, rfl, trivial⟩ (fun f1 => hJ16 (true) _ f1 h ⟨t_b1, trivial⟩ so)
      · refine wl_set (t := 30) (v := .bool false) (congrArg Value.bool hb) ?_; clear hb
        refine wl_on (t := 30) rfl (by decide) rfl ?_
        refine wl_val (at_move rfl) rfl ?_
        refine wl_on (t := 30) rfl (by decide) rfl ?_
        refine wl_val (at_lenL Try.underlying25 rfl) rfl ?_
        refine wl_on (t := 30) rfl (by decide) rfl ?_
        refine wl_val (at_lss rfl rfl) rfl ?_
        refine wl_val (at_pick_f rfl rfl) rfl ?_
        refine wl_val (at_move rfl) rfl ?_
        refine bif_ h (fun hb h => ?_) (fun hb h => ?_)
        · refine wl_set (t := 35) (v := .bool true) (congrArg Value.bool hb) ?_; clear hb
          refine wl_off (t := 35) rfl (by decide) rfl ?_
          refine wl_off (t := 35) rfl (by decide) rfl ?_
          refine wl_off (t := 35) rfl (by decide) rfl ?_
          refine wl_val (at_pick_t rfl rfl) rfl ?_
          refine wl_val (at_move rfl) rfl ?_
          refine wl_off (t := 40) rfl (by decide) rfl ?_
          refine wl_off (t := 40) rfl (by decide) rfl ?_
          refine wl_off (t := 40) rfl (by decide) rfl ?_
          refine wl_off (t := 40) rfl (by decide) rfl ?_
          refine wl_off (t := 40) rfl (by decide) rfl ?_
          refine wl_val (at_pick_t rfl rfl) rfl ?_
          refine wl_nil ?_
          exact wk_prune [(2, .pointer (some (⟨b1, 0, none⟩ : Addr))), (6, .int .i16 x10), (7, .slice x13.1.a x13.1.n x13.1.c), (46, .bool true)] ⟨rfl, rfl, rfl, rfl, trivial⟩ (fun f1 => hJ16 (true) _ f1 h ⟨t_b1, trivial⟩ so)
        · refine wl_set (t := 35) (v := .bool false) (congrArg Value.bool hb) ?_; clear hb
          refine wl_on (t := 35) rfl (by decide) rfl ?_
          refine wl_val (at_move rfl) rfl ?_
          refine wl_on (t := 35) rfl (by decide) rfl ?_
          refine wl_val (at_lenL Try.underlying25 rfl) rfl ?_
          refine wl_on (t := 35) rfl (by decide) rfl ?_
          refine wl_val (at_gtr rfl rfl) rfl ?_
          refine wl_val (at_pick_f rfl rfl) rfl ?_
          refine wl_val (at_move rfl) rfl ?_
          refine bif_ h (fun hb h => ?_) (fun hb h => ?_)
          · refine wl_set (t := 40) (v := .bool true) (congrArg Value.bool hb) ?_; clear hb
            refine wl_off (t := 40) rfl (by decide) rfl ?_
            refine wl_off (t := 40) rfl (by decide) rfl ?_
            refine wl_off (t := 40) rfl (by decide) rfl ?_
            refine wl_off (t := 40) rfl (by decide) rfl ?_
            refine wl_off (t := 40) rfl (by decide) rfl ?_
            refine wl_val (at_pick_t rfl rfl) rfl ?_
            refine wl_nil ?_
            exact wk_prune [(2, .pointer (some (⟨b1, 0, none⟩ : Addr))), (6, .int .i16 x10), (7, .slice x13.1.a x13.1.n x13.1.c), (46, .bool true)] ⟨rfl, rfl, rfl, rfl, trivial⟩ (fun f1 => hJ16 (true) _ f1 h ⟨t_b1, trivial⟩ so)
          · refine wl_set (t := 40) (v := .bool false) (congrArg Value.bool hb) ?_; clear hb
            refine wl_on (t := 40) rfl (by decide) rfl ?_
            refine wl_val (at_move rfl) rfl ?_
            refine wl_on (t := 40) rfl (by decide) rfl ?_
            obtain ⟨q53, q54, p55, q56, h⟩ := h
            refine wl_val (at_ixAddrL Try.underlying25 sz42 (sl_some q56) rfl q53 q54) rfl ?_
            refine wl_on (t := 40) rfl (by decide) rfl ?_
            refine wl_val (at_fieldAddr Try.underlying42 rfl rfl sz39 (by decide) rfl) rfl ?_
            refine wl_on (t := 40) rfl (by decide) rfl ?_
            obtain ⟨x57, q58, h⟩ := h
            refine wl_val (at_load Try.underlying39 rfl rfl q58) rfl ?_
            refine wl_on (t := 40) rfl (by decide) rfl ?_
            refine wl_val (at_gtr rfl rfl) rfl ?_
            refine wl_val (at_pick_f rfl rfl) rfl ?_
            refine wl_nil ?_
            exact wk_prune [(2, .pointer (some (⟨b1, 0, none⟩ : Addr))), (6, .int .i16 x10), (7, .slice x13.1.a x13.1.n x13.1.c), (46, .bool (decide ((11 : Int) < x57)))] ⟨rfl, rfl, rfl, rfl, trivial⟩ (fun f1 => hJ16 ((decide ((11 : Int) < x57))) _ f1 h ⟨t_b1, trivial⟩ so)
end Go.Proofs.Ythblohaffipkhaa.G
