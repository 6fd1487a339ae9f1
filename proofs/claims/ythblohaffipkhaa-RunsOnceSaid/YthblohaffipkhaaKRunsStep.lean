import Derived.Test.YthblohaffipkhaaGF
import Derived.Test.YthblohaffipkhaaKmosaiclaw07
import Derived.Test.YthblohaffipkhaaKruns
namespace Go.Proofs.Ythblohaffipkhaa.G
open Go.RowKit
set_option linter.unusedVariables false
set_option linter.unusedSimpArgs false
/-- mosaic/mosaiclaw07.RunsStep -/
def mosaiclaw07_RunsStep.enc : Bool → Value := fun r => .bool r
def mosaiclaw07_RunsStep.s (a0 : Sl) (a1 : Int) (H0 : Hp) (Q : Bool → Hp → Prop) : Prop :=
  mosaiclaw07_alive.s H0 (fun x1 H2 => ∃ y6 : List Value, y6.length = a0.n * 3 ∧ rdS H2 a0.a y6 ∧ apS H2 ⟨none, 0, 0⟩ 42 3 4 z42.cells a0.n y6 (fun l4 H5 => runs_Block.s l4 a1 H5 (fun x9 H10 => Gn [] H10 (fun (b11 : Nat) (H13 : Hp) => runs_Begin.s a1 H13 (fun x14 H15 => Pv [b11] H13 H15 ∧ (Join (fun (s18 : Bool) (H19 : Hp) => if s18 = true then (Q false H19) else (∃ k20, Fix (fun (rec25 : Int → Hp → Prop) (s22 : Int) (H23 : Hp) => if decide (s22 < (a0.n : Int)) = true then (runs_Builder_Block.s x14 H23 (fun x26 H27 => Pv [b11] H23 H27 ∧ (Gn [] H27 (fun (b29 : Nat) (H31 : Hp) => runs_Builder_Done.s x14 H31 (fun x32 H33 => Pv [b11, b29] H31 H33 ∧ (0 ≤ s22 ∧ s22 < (a0.n : Int) ∧ someA a0.a (fun p37 => ldI .u8 H33 ((p37.add (Int.toNat s22 * 3)).add 0) (fun x39 => runs_Builder_Wants.s x14 x39 H33 (fun x41 H42 => Pv [b11, b29] H33 H42 ∧ (0 ≤ s22 ∧ s22 < (a0.n : Int) ∧ (∃ x46 : Int, ∃ x47 : Int, ∃ x48 : Int, ldA H42 (p37.add (Int.toNat s22 * 3)) (c42 x46 x47 x48) ∧ (runs_Builder_Take.s x14 x46 x47 x48 H42 (fun x50 H51 => Pv [b11, b29] H42 H51 ∧ (Join (fun (s54 : Bool) (H55 : Hp) => if s54 = true then (Q false H55) else (if (x50 != 0) = true then (Join (fun (s57 : Bool) (H58 : Hp) => Q s57 H58) (fun (J56 : Bool → Hp → Prop) => if (x50 == x9.2) = true then (runs_Builder_Block.s x14 H55 (fun x61 H62 => Pv [b29] H55 H62 ∧ (if (x61.1 == x26.1) = true then (runs_Builder_Done.s x14 H62 (fun x64 H65 => Pv [b29] H62 H65 ∧ (J56 ((x64 == x32)) H65))) else (J56 (false) H62)))) else (J56 (false) H55))) else (rec25 ((IntKind.wrap .i64 (s22 + 1))) H55))) (fun (J53 : Bool → Hp → Prop) => if (x41.2 != 0) = true then (if (x50 != x41.2) = true then (J53 (true) H51) else (if (x41.1 != 0) = true then (J53 (true) H51) else (if (x41.2 == 0) = true then (if (x50 == 0) = true then (0 ≤ s22 ∧ s22 < (a0.n : Int) ∧ (ldI .i8 H51 ((p37.add (Int.toNat s22 * 3)).add 1) (fun x69 => if (x41.1 != x69) = true then (J53 (true) H51) else (if (x41.2 == 0) = true then (J53 (x32) H51) else (J53 (false) H51))))) else (if (x41.2 == 0) = true then (J53 (x32) H51) else (J53 (false) H51))) else (if (x41.2 == 0) = true then (J53 (x32) H51) else (J53 (false) H51))))) else (if (x41.2 == 0) = true then (if (x50 == 0) = true then (0 ≤ s22 ∧ s22 < (a0.n : Int) ∧ (ldI .i8 H51 ((p37.add (Int.toNat s22 * 3)).add 1) (fun x73 => if (x41.1 != x73) = true then (J53 (true) H51) else (if (x41.2 == 0) = true then (J53 (x32) H51) else (J53 (false) H51))))) else (if (x41.2 == 0) = true then (J53 (x32) H51) else (J53 (false) H51))) else (if (x41.2 == 0) = true then (J53 (x32) H51) else (J53 (false) H51)))))))))))))))))) else (runs_Builder_Done.s x14 H23 (fun x75 H76 => Pv [b11] H23 H76 ∧ (if x75 = true then (Join (fun (s79 : Bool) (H80 : Hp) => Q s79 H80) (fun (J78 : Bool → Hp → Prop) => if (x9.2 == 0) = true then (runs_Builder_Block.s x14 H76 (fun x83 H84 => Pv [b11] H76 H84 ∧ (J78 ((x83.1 == x9.1.1)) H84))) else (J78 (false) H76))) else (if (x9.2 == 44) = true then (Q (x9.1.1 == (zInts 64).1) H76) else (Q false H76)))))) k20 (0) H19)) (fun (J17 : Bool → Hp → Prop) => if x14.isNone = true then (J17 (true) H15) else (J17 ((!x1)) H15))))))))
set_option maxRecDepth 20000 in
set_option maxHeartbeats 4000000 in
theorem mosaiclaw07_RunsStep.calls (a0 : Sl) (a1 : Int) (w0 : World) (Q : Bool → Hp → Prop) (h : mosaiclaw07_RunsStep.s a0 a1 w0.heap Q) :
    Ca Try.prog 9 #[.slice a0.a a0.n a0.c, .int .i16 a1] w0 (Rt mosaiclaw07_RunsStep.enc Q w0) := by
  refine ca_start (c := _) Try.func9 rfl Try.ntmps9 rfl ?_
  have so : Sm w0 w0 := Sm.refl w0
  unfold mosaiclaw07_RunsStep.s at h
  refine wc_prune [(0, .slice a0.a a0.n a0.c), (1, .int .i16 a1)] ⟨rfl, rfl, trivial⟩ (fun f1 => ?_)
  refine wc_seq ?_
  refine wc_region ?_
  refine wl_val (at_assign rfl) rfl ?_
  refine wl_nil ?_
  refine wk_prune [(0, .slice a0.a a0.n a0.c), (1, .int .i16 a1)] ⟨rfl, rfl, trivial⟩ (fun f1 => ?_)
  refine wk_then ?_
  refine wc_seq ?_
  refine wc_region ?_
  refine wl_callF (mosaiclaw07_alive.calls _ _ h) enter22 rfl trivial so ?_; intro x1 w2 h so
  refine wl_val (at_assign rfl) rfl ?_
  refine wl_nil ?_
  refine wk_prune [(0, .slice a0.a a0.n a0.c), (1, .int .i16 a1), (5, .bool x1)] ⟨rfl, rfl, rfl, trivial⟩ (fun f1 => ?_)
  refine wk_then ?_
  refine wc_seq ?_
  refine wc_region ?_
  refine wl_val (at_assign rfl) rfl ?_
  refine wl_nil ?_
  refine wk_prune [(0, .slice a0.a a0.n a0.c), (1, .int .i16 a1), (5, .bool x1), (6, .slice none 0 0)] ⟨rfl, rfl, rfl, rfl, trivial⟩ (fun f1 => ?_)
  refine wk_then ?_
  refine wc_seq ?_
  refine wc_region ?_
  refine wl_val (at_move rfl) rfl ?_
  refine wl_val (at_move rfl) rfl ?_
  obtain ⟨i3, i3a, i3b, i3c, i3d⟩ := info42
  obtain ⟨y6, q7, q8, h⟩ := h
  refine wl_ap (fx_append (s := ⟨none, 0, 0⟩) (t := a0) (m := a0.n) (xs := y6) Try.underlying25 Try.underlying25 i3a i3b i3c i3d rfl rfl rfl q7 q8 h) rfl so ?_; intro l4 w5 h so
  refine wl_val (at_assign rfl) rfl ?_
  refine wl_nil ?_
  refine wk_prune [(0, .slice a0.a a0.n a0.c), (1, .int .i16 a1), (5, .bool x1), (6, .slice l4.a l4.n l4.c)] ⟨rfl, rfl, rfl, rfl, trivial⟩ (fun f1 => ?_)
  refine wk_then ?_
  refine wc_seq ?_
  refine wc_region ?_
  refine wl_val (at_move rfl) rfl ?_
  refine wl_val (at_move rfl) rfl ?_
  refine wl_callF (runs_Block.calls _ _ _ _ h) enter21 rfl trivial so ?_; intro x9 w10 h so
  refine wl_val (at_move rfl) rfl ?_
  refine wl_val (at_extract rfl rfl) rfl ?_
  refine wl_val (at_extract rfl rfl) rfl ?_
  refine wl_newT (T := 24) (cs := (c24 (zInts 64))) (ef_alloc zero24 rfl) rfl so ?_; intro b11 w12 hb_b11 t_b11 k_b11 so
  have g_b11 := Nat.le_of_eq hb_b11.symm
  have hc := k_b11.ch (F := [])
  refine wl_stWT (vs := (c24 x9.1)) t_b11 (by first | (rw [len24, len24]) | (rw [len24]) | rfl) rfl so (fun q => ef_storeA (p := (⟨b11, 0, none⟩ : Addr)) (cs := (c24 x9.1)) (by rw [len24]; exact sz24) rfl rfl (one24 _) q) ?_; intro w13 t_b11 s_w13 so
  replace hc := ch_same hc s_w13 (.inr g_b11)
  refine wl_val (at_assign rfl) rfl ?_
  refine wl_nil ?_
  refine wk_prune [(0, .slice a0.a a0.n a0.c), (1, .int .i16 a1), (5, .bool x1), (7, .pointer (some (⟨b11, 0, none⟩ : Addr))), (8, .int .i64 x9.2)] ⟨rfl, rfl, rfl, rfl, rfl, trivial⟩ (fun f1 => ?_)
  refine wk_then ?_
  refine wc_seq ?_
  refine wc_region ?_
  refine wl_val (at_move rfl) rfl ?_
  replace h := h b11 _ hc g_b11 t_b11.lt; clear hc
  refine wl_callF (runs_Begin.calls _ _ _ h) enter14 rfl trivial so ?_; intro x14 w15 h so
  obtain ⟨q16, h⟩ := h
  replace t_b11 := pv_bk q16 t_b11 (by simp)
  refine wl_val (at_assign rfl) rfl ?_
  refine wl_nil ?_
  refine wk_prune [(0, .slice a0.a a0.n a0.c), (5, .bool x1), (7, .pointer (some (⟨b11, 0, none⟩ : Addr))), (8, .int .i64 x9.2), (9, .pointer x14)] ⟨rfl, rfl, rfl, rfl, rfl, trivial⟩ (fun f1 => ?_)
  refine wk_then ?_
  refine wc_seq ?_
  refine wc_seq ?_
  refine wc_joinG (w0 := w0) (fun (H : Hp) => Bk H b11 24 (c24 x9.1) ∧ True) (fun (s18 : Bool) => [(0, .slice a0.a a0.n a0.c), (7, .pointer (some (⟨b11, 0, none⟩ : Addr))), (8, .int .i64 x9.2), (9, .pointer x14), (33, .bool s18)]) (fun (s18 : Bool) => []) h ?_ ?_
  · rintro s18 w19 f1 h ⟨t_b11, _⟩ so; refine wk_then ?_
    refine wc_cond rfl h (fun h => ?_) (fun h => ?_)
    · refine wc_seq ?_
      refine wc_region ?_
      refine wl_val (at_assign rfl) rfl ?_
      refine wl_nil ?_
      refine wk_prune [(4, .bool false)] ⟨rfl, trivial⟩ (fun f1 => ?_)
      refine wk_then ?_
      refine wc_ret ?_
      refine wk_thenR ?_
      exact wk_ret1 (x := false) rfl (by decide) rfl so h
    · refine wc_skip ?_
      refine wk_prune [(0, .slice a0.a a0.n a0.c), (7, .pointer (some (⟨b11, 0, none⟩ : Addr))), (8, .int .i64 x9.2), (9, .pointer x14)] ⟨rfl, rfl, rfl, rfl, trivial⟩ (fun f1 => ?_)
      refine wk_then ?_
      refine wc_seq ?_
      refine wc_seq ?_
      refine wc_region ?_
      refine wl_val (at_assign rfl) rfl ?_
      refine wl_nil ?_
      refine wk_prune [(0, .slice a0.a a0.n a0.c), (7, .pointer (some (⟨b11, 0, none⟩ : Addr))), (8, .int .i64 x9.2), (9, .pointer x14), (10, .int .i64 0)] ⟨rfl, rfl, rfl, rfl, rfl, trivial⟩ (fun f1 => ?_)
      refine wk_then ?_
      refine wc_block ?_
      obtain ⟨k20, h⟩ := h
      refine wc_loop (fun k a w => ∃ (s22 : Int) (f1 : Nat → Value), a = ac 129 (en f1 [(0, .slice a0.a a0.n a0.c), (7, .pointer (some (⟨b11, 0, none⟩ : Addr))), (8, .int .i64 x9.2), (9, .pointer x14), (10, .int .i64 s22)]) [] ∧ Sm w0 w ∧ (Bk w.heap b11 24 (c24 x9.1) ∧ True) ∧ Fix _ k s22 w.heap) k20 ⟨(0), _, ac_again ⟨rfl, rfl, rfl, rfl, rfl, trivial⟩, so, ⟨t_b11, trivial⟩, h⟩ ?_
      rintro k21 a24 w23 ⟨s22, f1, rfl, so, ⟨t_b11, _⟩, h⟩
      rcases k21 with _ | k21
      · exact h.elim
      replace h := Fix.un h; refine wc_in ?_
      refine wc_seq ?_
      refine wc_seq ?_
      refine wc_region ?_
      refine wl_val (at_move rfl) rfl ?_
      refine wl_val (at_move rfl) rfl ?_
      refine wl_val (at_lenL Try.underlying25 rfl) rfl ?_
      refine wl_val (at_lss rfl rfl) rfl ?_
      refine wl_nil ?_
      refine wk_prune [(0, .slice a0.a a0.n a0.c), (7, .pointer (some (⟨b11, 0, none⟩ : Addr))), (8, .int .i64 x9.2), (9, .pointer x14), (10, .int .i64 s22), (37, .bool (decide (s22 < (a0.n : Int))))] ⟨rfl, rfl, rfl, rfl, rfl, rfl, trivial⟩ (fun f1 => ?_)
      refine wk_then ?_
      refine wc_cond rfl h (fun h => ?_) (fun h => ?_)
      · refine wc_skip ?_
        refine wk_prune [(0, .slice a0.a a0.n a0.c), (7, .pointer (some (⟨b11, 0, none⟩ : Addr))), (8, .int .i64 x9.2), (9, .pointer x14), (10, .int .i64 s22)] ⟨rfl, rfl, rfl, rfl, rfl, trivial⟩ (fun f1 => ?_)
        refine wk_then ?_
        refine wc_seq ?_
        refine wc_block ?_
        refine wc_seq ?_
        refine wc_region ?_
        refine wl_val (at_move rfl) rfl ?_
        refine wl_callF (runs_Builder_Block.calls _ _ _ h) enter17 rfl trivial so ?_; intro x26 w27 h so
        obtain ⟨q28, h⟩ := h
        replace t_b11 := pv_bk q28 t_b11 (by simp)
        refine wl_newT (T := 24) (cs := (c24 (zInts 64))) (ef_alloc zero24 rfl) rfl so ?_; intro b29 w30 hb_b29 t_b29 k_b29 so
        have g_b29 := Nat.le_of_eq hb_b29.symm
        have hc := k_b29.ch (F := [])
        have n_b11_b29 : b11 ≠ b29 := fun e => by have := t_b11.lt; omega
        replace t_b11 := t_b11.keep k_b29
        refine wl_stWT (vs := (c24 x26)) t_b29 (by first | (rw [len24, len24]) | (rw [len24]) | rfl) rfl so (fun q => ef_storeA (p := (⟨b29, 0, none⟩ : Addr)) (cs := (c24 x26)) (by rw [len24]; exact sz24) rfl rfl (one24 _) q) ?_; intro w31 t_b29 s_w31 so
        replace t_b11 := t_b11.same s_w31 (n_b11_b29)
        replace hc := ch_same hc s_w31 (.inr g_b29)
        refine wl_nil ?_
        refine wk_prune [(0, .slice a0.a a0.n a0.c), (7, .pointer (some (⟨b11, 0, none⟩ : Addr))), (8, .int .i64 x9.2), (9, .pointer x14), (10, .int .i64 s22), (11, .pointer (some (⟨b29, 0, none⟩ : Addr)))] ⟨rfl, rfl, rfl, rfl, rfl, rfl, trivial⟩ (fun f1 => ?_)
        refine wk_then ?_
        refine wc_seq ?_
        refine wc_region ?_
        refine wl_val (at_move rfl) rfl ?_
        replace h := h b29 _ hc g_b29 t_b29.lt; clear hc
        refine wl_callF (runs_Builder_Done.calls _ _ _ h) enter18 rfl trivial so ?_; intro x32 w33 h so
        obtain ⟨q34, h⟩ := h
        replace t_b11 := pv_bk q34 t_b11 (by simp)
        replace t_b29 := pv_bk q34 t_b29 (by simp)
        refine wl_val (at_assign rfl) rfl ?_
        refine wl_nil ?_
        refine wk_prune [(0, .slice a0.a a0.n a0.c), (7, .pointer (some (⟨b11, 0, none⟩ : Addr))), (8, .int .i64 x9.2), (9, .pointer x14), (10, .int .i64 s22), (11, .pointer (some (⟨b29, 0, none⟩ : Addr))), (12, .bool x32)] ⟨rfl, rfl, rfl, rfl, rfl, rfl, rfl, trivial⟩ (fun f1 => ?_)
        refine wk_then ?_
        refine wc_seq ?_
        refine wc_region ?_
        refine wl_val (at_move rfl) rfl ?_
        refine wl_val (at_move rfl) rfl ?_
        refine wl_val (at_move rfl) rfl ?_
        obtain ⟨q35, q36, p37, q38, h⟩ := h
        refine wl_val (at_ixAddrL Try.underlying25 sz42 (sl_some q38) rfl q35 q36) rfl ?_
        refine wl_val (at_fieldAddr Try.underlying42 rfl rfl sz5 (by decide) rfl) rfl ?_
        obtain ⟨x39, q40, h⟩ := h
        refine wl_val (at_load Try.underlying5 rfl rfl q40) rfl ?_
        refine wl_callF (runs_Builder_Wants.calls _ _ _ _ h) enter27 rfl trivial so ?_; intro x41 w42 h so
        obtain ⟨q43, h⟩ := h
        replace t_b11 := pv_bk q43 t_b11 (by simp)
        replace t_b29 := pv_bk q43 t_b29 (by simp)
        refine wl_val (at_move rfl) rfl ?_
        refine wl_val (at_extract rfl rfl) rfl ?_
        refine wl_val (at_extract rfl rfl) rfl ?_
        refine wl_val (at_assign rfl) rfl ?_
        refine wl_val (at_assign rfl) rfl ?_
        refine wl_nil ?_
        refine wk_prune [(0, .slice a0.a a0.n a0.c), (7, .pointer (some (⟨b11, 0, none⟩ : Addr))), (8, .int .i64 x9.2), (9, .pointer x14), (10, .int .i64 s22), (11, .pointer (some (⟨b29, 0, none⟩ : Addr))), (12, .bool x32), (13, .int .i8 x41.1), (14, .int .i64 x41.2)] ⟨rfl, rfl, rfl, rfl, rfl, rfl, rfl, rfl, rfl, trivial⟩ (fun f1 => ?_)
        refine wk_then ?_
        refine wc_seq ?_
        refine wc_region ?_
        refine wl_val (at_move rfl) rfl ?_
        refine wl_val (at_move rfl) rfl ?_
        refine wl_val (at_move rfl) rfl ?_
        obtain ⟨q44, q45, h⟩ := h
        refine wl_val (at_ixAddrL Try.underlying25 sz42 (sl_some q38) rfl q44 q45) rfl ?_
        obtain ⟨x46, x47, x48, q49, h⟩ := h
        refine wl_val (at_loadA (cs := (c42 x46 x47 x48)) Try.underlying42 rfl (by rw [len42]; exact sz42) rfl q49) rfl ?_
        refine wl_callF (runs_Builder_Take.calls _ _ _ _ _ _ h) enter28 rfl trivial so ?_; intro x50 w51 h so
        obtain ⟨q52, h⟩ := h
        replace t_b11 := pv_bk q52 t_b11 (by simp)
        replace t_b29 := pv_bk q52 t_b29 (by simp)
        refine wl_val (at_assign rfl) rfl ?_
        refine wl_nil ?_
        refine wk_prune [(0, .slice a0.a a0.n a0.c), (7, .pointer (some (⟨b11, 0, none⟩ : Addr))), (8, .int .i64 x9.2), (9, .pointer x14), (10, .int .i64 s22), (11, .pointer (some (⟨b29, 0, none⟩ : Addr))), (12, .bool x32), (13, .int .i8 x41.1), (14, .int .i64 x41.2), (15, .int .i64 x50)] ⟨rfl, rfl, rfl, rfl, rfl, rfl, rfl, rfl, rfl, rfl, trivial⟩ (fun f1 => ?_)
        refine wk_then ?_
        refine wc_seq ?_
        refine wc_seq ?_
        refine wc_joinG (w0 := w0) (fun (H : Hp) => Bk H b11 24 (c24 x9.1) ∧ Bk H b29 24 (c24 x26) ∧ True) (fun (s54 : Bool) => [(0, .slice a0.a a0.n a0.c), (7, .pointer (some (⟨b11, 0, none⟩ : Addr))), (8, .int .i64 x9.2), (9, .pointer x14), (10, .int .i64 s22), (11, .pointer (some (⟨b29, 0, none⟩ : Addr))), (12, .bool x32), (15, .int .i64 x50), (94, .bool s54)]) (fun (s54 : Bool) => []) h ?_ ?_
        · rintro s54 w55 f1 h ⟨t_b11, t_b29, _⟩ so; refine wk_then ?_
          refine wc_cond rfl h (fun h => ?_) (fun h => ?_)
          · refine wc_seq ?_
            refine wc_region ?_
            refine wl_val (at_assign rfl) rfl ?_
            refine wl_nil ?_
            refine wk_prune [(4, .bool false)] ⟨rfl, trivial⟩ (fun f1 => ?_)
            refine wk_then ?_
            refine wc_ret ?_
            refine wk_thenR ?_
            refine wk_blkR ?_
            refine wk_thenR ?_
            refine wk_thenR ?_
            refine wk_blkR ?_
            refine wk_thenR ?_
            exact wk_ret1 (x := false) rfl (by decide) rfl so h
          · refine wc_skip ?_
            refine wk_prune [(0, .slice a0.a a0.n a0.c), (7, .pointer (some (⟨b11, 0, none⟩ : Addr))), (8, .int .i64 x9.2), (9, .pointer x14), (10, .int .i64 s22), (11, .pointer (some (⟨b29, 0, none⟩ : Addr))), (12, .bool x32), (15, .int .i64 x50)] ⟨rfl, rfl, rfl, rfl, rfl, rfl, rfl, rfl, trivial⟩ (fun f1 => ?_)
            refine wk_then ?_
            refine wc_seq ?_
            refine wc_region ?_
            refine wl_val (at_move rfl) rfl ?_
            refine wl_val (at_neq rfl rfl) rfl ?_
            refine wl_nil ?_
            refine wk_prune [(0, .slice a0.a a0.n a0.c), (7, .pointer (some (⟨b11, 0, none⟩ : Addr))), (8, .int .i64 x9.2), (9, .pointer x14), (10, .int .i64 s22), (11, .pointer (some (⟨b29, 0, none⟩ : Addr))), (12, .bool x32), (15, .int .i64 x50), (96, .bool (x50 != 0))] ⟨rfl, rfl, rfl, rfl, rfl, rfl, rfl, rfl, rfl, trivial⟩ (fun f1 => ?_)
            refine wk_then ?_
            refine wc_cond rfl h (fun h => ?_) (fun h => ?_)
            · refine wc_seq ?_
              refine wc_join (w0 := w0) (fun (s57 : Bool) => [(4, .bool s57)]) h ?_ ?_
              · rintro s57 w58 f1 h so; refine wk_then ?_
                refine wc_ret ?_
                refine wk_blkR ?_
                refine wk_thenR ?_
                refine wk_thenR ?_
                refine wk_blkR ?_
                refine wk_thenR ?_
                exact wk_ret1 (x := s57) rfl (by decide) rfl so h
              · intro J56 h hJ56
                refine wc_wo [0, 0, 3, 7, 15, 31, 15, 127, 255, 511, 1023, 2047, 1023, 8191, 16383, 32767] mixed (by kernel_rfl) so ?_; intro w59 hw so; rw [← hw] at h t_b11 t_b29; clear hw
                refine wo_pure (m' := 1) 0 rfl (by kernel_rfl) rfl rfl (fun H => at_move rfl) ?_
                refine wo_pure (m' := 3) 1 rfl (by kernel_rfl) rfl rfl (fun H => at_move rfl) ?_
                refine wo_pure (m' := 7) 2 rfl (by kernel_rfl) rfl rfl (fun H => at_eql rfl rfl) ?_
                refine wo_pure (m' := 15) 3 rfl (by kernel_rfl) rfl rfl (fun H => at_move rfl) ?_
                refine bif_ h (fun hb h => ?_) (fun hb h => ?_)
                · refine wo_set (t := 100) (v := .bool true) (congrArg Value.bool hb) ?_; clear hb
                  refine wo_pureG (m' := 31) 4 rfl (by kernel_rfl) rfl (t := 100) rfl (by decide) rfl (fun H => at_move rfl) ?_
                  have q60 : ldA w59.heap (⟨b29, 0, none⟩ : Addr) (c24 x26) := ldA_full t_b29
                  refine wo_loadG (m' := 95) 6 (fun H => ldA H (⟨b29, 0, none⟩ : Addr) (c24 x26)) rfl (by kernel_rfl) rfl (t := 100) rfl (by decide) rfl (fun H q60 => at_loadA (cs := (c24 x26)) Try.underlying24 rfl (by rw [len24]; exact sz24) rfl (q60)) q60 ?_
                  refine wo_take (m' := 127) 5 [false] rfl (by kernel_rfl) rfl (by kernel_rfl) ?_
                  refine wl_on (t := 100) rfl (by decide) rfl ?_
                  refine wl_callF (runs_Builder_Block.calls _ _ _ h) enter17 rfl trivial so ?_; intro x61 w62 h so
                  obtain ⟨q63, h⟩ := h
                  replace t_b29 := pv_bk q63 t_b29 (by simp)
                  refine wl_nil ?_
                  refine wk_tq ⟨(ldA_full t_b29), trivial⟩ ?_
                  refine wo_pureG (m' := 255) 7 rfl (by kernel_rfl) rfl (t := 100) rfl (by decide) rfl (fun H => at_eqlA (xs := (c24 x61)) (ys := (c24 x26)) rfl rfl (by kernel_rfl) (eqv_ints Try.underlying24 Try.underlying22 sz22)) ?_
                  refine wo_pure (m' := 511) 8 rfl (by kernel_rfl) rfl rfl (fun H => at_pick_t rfl rfl) ?_
                  refine wo_pure (m' := 1023) 9 rfl (by kernel_rfl) rfl rfl (fun H => at_move rfl) ?_
                  refine bif_ h (fun hb h => ?_) (fun hb h => ?_)
                  · refine wo_set (t := 106) (v := .bool true) (congrArg Value.bool hb) ?_; clear hb
                    refine wo_pureG (m' := 2047) 10 rfl (by kernel_rfl) rfl (t := 106) rfl (by decide) rfl (fun H => at_move rfl) ?_
                    refine wo_pureG (m' := 6143) 12 rfl (by kernel_rfl) rfl (t := 106) rfl (by decide) rfl (fun H => at_move rfl) ?_
                    refine wo_take (m' := 8191) 11 [true] rfl (by kernel_rfl) rfl (by kernel_rfl) ?_
                    refine wl_on (t := 106) rfl (by decide) rfl ?_
                    refine wl_callF (runs_Builder_Done.calls _ _ _ h) enter18 rfl trivial so ?_; intro x64 w65 h so
                    obtain ⟨q66, h⟩ := h
                    replace t_b29 := pv_bk q66 t_b29 (by simp)
                    refine wl_nil ?_
                    refine wk_tq trivial ?_
                    refine wo_pureG (m' := 16383) 13 rfl (by kernel_rfl) rfl (t := 106) rfl (by decide) rfl (fun H => at_eqlB Try.underlying4 rfl rfl) ?_
                    refine wo_pure (m' := 32767) 14 rfl (by kernel_rfl) rfl rfl (fun H => at_pick_t rfl rfl) ?_
                    refine wo_pure (m' := 65535) 15 rfl (by kernel_rfl) rfl rfl (fun H => at_assign rfl) ?_
                    refine wo_done (by kernel_rfl) ?_
                    exact wk_prune [(4, .bool (x64 == x32))] ⟨rfl, trivial⟩ (fun f1 => hJ56 ((x64 == x32)) _ f1 h so)
                  · refine wo_set (t := 106) (v := .bool false) (congrArg Value.bool hb) ?_; clear hb
                    refine wo_off (m' := 2047) 10 rfl (by kernel_rfl) rfl (t := 106) rfl (by decide) rfl ?_
                    refine wo_off (m' := 4095) 11 rfl (by kernel_rfl) rfl (t := 106) rfl (by decide) rfl ?_
                    refine wo_off (m' := 8191) 12 rfl (by kernel_rfl) rfl (t := 106) rfl (by decide) rfl ?_
                    refine wo_off (m' := 16383) 13 rfl (by kernel_rfl) rfl (t := 106) rfl (by decide) rfl ?_
                    refine wo_pure (m' := 32767) 14 rfl (by kernel_rfl) rfl rfl (fun H => at_pick_f rfl rfl) ?_
                    refine wo_pure (m' := 65535) 15 rfl (by kernel_rfl) rfl rfl (fun H => at_assign rfl) ?_
                    refine wo_done (by kernel_rfl) ?_
                    exact wk_prune [(4, .bool false)] ⟨rfl, trivial⟩ (fun f1 => hJ56 (false) _ f1 h so)
                · refine wo_set (t := 100) (v := .bool false) (congrArg Value.bool hb) ?_; clear hb
                  refine wo_off (m' := 31) 4 rfl (by kernel_rfl) rfl (t := 100) rfl (by decide) rfl ?_
                  refine wo_off (m' := 63) 5 rfl (by kernel_rfl) rfl (t := 100) rfl (by decide) rfl ?_
                  refine wo_off (m' := 127) 6 rfl (by kernel_rfl) rfl (t := 100) rfl (by decide) rfl ?_
                  refine wo_off (m' := 255) 7 rfl (by kernel_rfl) rfl (t := 100) rfl (by decide) rfl ?_
                  refine wo_pure (m' := 511) 8 rfl (by kernel_rfl) rfl rfl (fun H => at_pick_f rfl rfl) ?_
                  refine wo_pure (m' := 1023) 9 rfl (by kernel_rfl) rfl rfl (fun H => at_move rfl) ?_
                  refine wo_off (m' := 2047) 10 rfl (by kernel_rfl) rfl (t := 106) rfl (by decide) rfl ?_
                  refine wo_off (m' := 4095) 11 rfl (by kernel_rfl) rfl (t := 106) rfl (by decide) rfl ?_
                  refine wo_off (m' := 8191) 12 rfl (by kernel_rfl) rfl (t := 106) rfl (by decide) rfl ?_
                  refine wo_off (m' := 16383) 13 rfl (by kernel_rfl) rfl (t := 106) rfl (by decide) rfl ?_
                  refine wo_pure (m' := 32767) 14 rfl (by kernel_rfl) rfl rfl (fun H => at_pick_f rfl rfl) ?_
                  refine wo_pure (m' := 65535) 15 rfl (by kernel_rfl) rfl rfl (fun H => at_assign rfl) ?_
                  refine wo_done (by kernel_rfl) ?_
                  exact wk_prune [(4, .bool false)] ⟨rfl, trivial⟩ (fun f1 => hJ56 (false) _ f1 h so)
            · refine wc_skip ?_
              refine wk_blkN ?_
              refine wk_prune [(0, .slice a0.a a0.n a0.c), (7, .pointer (some (⟨b11, 0, none⟩ : Addr))), (8, .int .i64 x9.2), (9, .pointer x14), (10, .int .i64 s22)] ⟨rfl, rfl, rfl, rfl, rfl, trivial⟩ (fun f1 => ?_)
              refine wk_then ?_
              refine wc_region ?_
              refine wl_val (at_move rfl) rfl ?_
              refine wl_val (at_add rfl rfl) rfl ?_
              refine wl_val (at_assign rfl) rfl ?_
              refine wl_nil ?_
              exact wk_again ⟨((IntKind.wrap .i64 (s22 + 1))), _, ac_again ⟨rfl, rfl, rfl, rfl, rfl, trivial⟩, so, ⟨t_b11, trivial⟩, h⟩
        · intro J53 h hJ53
          refine wc_region ?_
          refine wl_val (at_move rfl) rfl ?_
          refine wl_val (at_neq rfl rfl) rfl ?_
          refine wl_val (at_move rfl) rfl ?_
          refine bif_ h (fun hb h => ?_) (fun hb h => ?_)
          · refine wl_set (t := 62) (v := .bool true) (congrArg Value.bool hb) ?_; clear hb
            refine wl_on (t := 62) rfl (by decide) rfl ?_
            refine wl_val (at_move rfl) rfl ?_
            refine wl_on (t := 62) rfl (by decide) rfl ?_
            refine wl_val (at_move rfl) rfl ?_
            refine wl_on (t := 62) rfl (by decide) rfl ?_
            refine wl_val (at_neq rfl rfl) rfl ?_
            refine wl_on (t := 62) rfl (by decide) rfl ?_
            refine wl_val (at_move rfl) rfl ?_
            refine bif_ h (fun hb h => ?_) (fun hb h => ?_)
            · refine wl_set (t := 66) (v := .bool true) (congrArg Value.bool hb) ?_; clear hb
              refine wl_off (t := 66) rfl (by decide) rfl ?_
              refine wl_off (t := 66) rfl (by decide) rfl ?_
              refine wl_on (t := 62) rfl (by decide) rfl ?_
              refine wl_val (at_pick_t rfl rfl) rfl ?_
              refine wl_val (at_pick_t rfl rfl) rfl ?_
              refine wl_val (at_move rfl) rfl ?_
              refine wl_off (t := 71) rfl (by decide) rfl ?_
              refine wl_off (t := 71) rfl (by decide) rfl ?_
              refine wl_off (t := 71) rfl (by decide) rfl ?_
              refine wl_off' (t := 74) rfl (by decide) rfl ?_
              refine wl_off' (t := 74) rfl (by decide) rfl ?_
              refine wl_off (t := 71) rfl (by decide) rfl ?_
              refine wl_off (t := 71) rfl (by decide) rfl ?_
              refine wl_off' (t := 78) rfl (by decide) rfl ?_
              refine wl_off' (t := 78) rfl (by decide) rfl ?_
              refine wl_off' (t := 78) rfl (by decide) rfl ?_
              refine wl_off' (t := 78) rfl (by decide) rfl ?_
              refine wl_off' (t := 78) rfl (by decide) rfl ?_
              refine wl_off' (t := 78) rfl (by decide) rfl ?_
              refine wl_off' (t := 78) rfl (by decide) rfl ?_
              refine wl_off (t := 71) rfl (by decide) rfl ?_
              refine wl_val (at_pick_t rfl rfl) rfl ?_
              refine wl_val (at_move rfl) rfl ?_
              refine wl_off (t := 88) rfl (by decide) rfl ?_
              refine wl_off (t := 88) rfl (by decide) rfl ?_
              refine wl_off (t := 88) rfl (by decide) rfl ?_
              refine wl_off' (t := 91) rfl (by decide) rfl ?_
              refine wl_off (t := 88) rfl (by decide) rfl ?_
              refine wl_val (at_pick_t rfl rfl) rfl ?_
              refine wl_nil ?_
              exact wk_prune [(0, .slice a0.a a0.n a0.c), (7, .pointer (some (⟨b11, 0, none⟩ : Addr))), (8, .int .i64 x9.2), (9, .pointer x14), (10, .int .i64 s22), (11, .pointer (some (⟨b29, 0, none⟩ : Addr))), (12, .bool x32), (15, .int .i64 x50), (94, .bool true)] ⟨rfl, rfl, rfl, rfl, rfl, rfl, rfl, rfl, rfl, trivial⟩ (fun f1 => hJ53 (true) _ f1 h ⟨t_b11, t_b29, trivial⟩ so)
            · refine wl_set (t := 66) (v := .bool false) (congrArg Value.bool hb) ?_; clear hb
              refine wl_on (t := 66) rfl (by decide) rfl ?_
              refine wl_val (at_move rfl) rfl ?_
              refine wl_on (t := 66) rfl (by decide) rfl ?_
              refine wl_val (at_neq rfl rfl) rfl ?_
              refine wl_on (t := 62) rfl (by decide) rfl ?_
              refine wl_val (at_pick_f rfl rfl) rfl ?_
              refine wl_val (at_pick_t rfl rfl) rfl ?_
              refine wl_val (at_move rfl) rfl ?_
              refine bif_ h (fun hb h => ?_) (fun hb h => ?_)
              · refine wl_set (t := 71) (v := .bool true) (congrArg Value.bool hb) ?_; clear hb
                refine wl_off (t := 71) rfl (by decide) rfl ?_
                refine wl_off (t := 71) rfl (by decide) rfl ?_
                refine wl_off (t := 71) rfl (by decide) rfl ?_
                refine wl_off' (t := 74) rfl (by decide) rfl ?_
                refine wl_off' (t := 74) rfl (by decide) rfl ?_
                refine wl_off (t := 71) rfl (by decide) rfl ?_
                refine wl_off (t := 71) rfl (by decide) rfl ?_
                refine wl_off' (t := 78) rfl (by decide) rfl ?_
                refine wl_off' (t := 78) rfl (by decide) rfl ?_
                refine wl_off' (t := 78) rfl (by decide) rfl ?_
                refine wl_off' (t := 78) rfl (by decide) rfl ?_
                refine wl_off' (t := 78) rfl (by decide) rfl ?_
                refine wl_off' (t := 78) rfl (by decide) rfl ?_
                refine wl_off' (t := 78) rfl (by decide) rfl ?_
                refine wl_off (t := 71) rfl (by decide) rfl ?_
                refine wl_val (at_pick_t rfl rfl) rfl ?_
                refine wl_val (at_move rfl) rfl ?_
                refine wl_off (t := 88) rfl (by decide) rfl ?_
                refine wl_off (t := 88) rfl (by decide) rfl ?_
                refine wl_off (t := 88) rfl (by decide) rfl ?_
                refine wl_off' (t := 91) rfl (by decide) rfl ?_
                refine wl_off (t := 88) rfl (by decide) rfl ?_
                refine wl_val (at_pick_t rfl rfl) rfl ?_
                refine wl_nil ?_
                exact wk_prune [(0, .slice a0.a a0.n a0.c), (7, .pointer (some (⟨b11, 0, none⟩ : Addr))), (8, .int .i64 x9.2), (9, .pointer x14), (10, .int .i64 s22), (11, .pointer (some (⟨b29, 0, none⟩ : Addr))), (12, .bool x32), (15, .int .i64 x50), (94, .bool true)] ⟨rfl, rfl, rfl, rfl, rfl, rfl, rfl, rfl, rfl, trivial⟩ (fun f1 => hJ53 (true) _ f1 h ⟨t_b11, t_b29, trivial⟩ so)
              · refine wl_set (t := 71) (v := .bool false) (congrArg Value.bool hb) ?_; clear hb
                refine wl_on (t := 71) rfl (by decide) rfl ?_
                refine wl_val (at_move rfl) rfl ?_
                refine wl_on (t := 71) rfl (by decide) rfl ?_
                refine wl_val (at_eql rfl rfl) rfl ?_
                refine wl_on (t := 71) rfl (by decide) rfl ?_
                refine wl_val (at_move rfl) rfl ?_
                refine bif_ h (fun hb h => ?_) (fun hb h => ?_)
                · refine wl_set (t := 74) (v := .bool true) (congrArg Value.bool hb) ?_; clear hb
                  refine wl_on (t := 74) rfl (by decide) rfl ?_
                  refine wl_val (at_move rfl) rfl ?_
                  refine wl_on (t := 74) rfl (by decide) rfl ?_
                  refine wl_val (at_eql rfl rfl) rfl ?_
                  refine wl_on (t := 71) rfl (by decide) rfl ?_
                  refine wl_val (at_pick_t rfl rfl) rfl ?_
                  refine wl_on (t := 71) rfl (by decide) rfl ?_
                  refine wl_val (at_move rfl) rfl ?_
                  refine bif_ h (fun hb h => ?_) (fun hb h => ?_)
                  · refine wl_set (t := 78) (v := .bool true) (congrArg Value.bool hb) ?_; clear hb
                    refine wl_on (t := 78) rfl (by decide) rfl ?_
                    refine wl_val (at_move rfl) rfl ?_
                    refine wl_on (t := 78) rfl (by decide) rfl ?_
                    refine wl_val (at_move rfl) rfl ?_
                    refine wl_on (t := 78) rfl (by decide) rfl ?_
                    refine wl_val (at_move rfl) rfl ?_
                    refine wl_on (t := 78) rfl (by decide) rfl ?_
                    obtain ⟨q67, q68, h⟩ := h
                    refine wl_val (at_ixAddrL Try.underlying25 sz42 (sl_some q38) rfl q67 q68) rfl ?_
                    refine wl_on (t := 78) rfl (by decide) rfl ?_
                    refine wl_val (at_fieldAddr Try.underlying42 rfl rfl sz39 (by decide) rfl) rfl ?_
                    refine wl_on (t := 78) rfl (by decide) rfl ?_
                    obtain ⟨x69, q70, h⟩ := h
                    refine wl_val (at_load Try.underlying39 rfl rfl q70) rfl ?_
                    refine wl_on (t := 78) rfl (by decide) rfl ?_
                    refine wl_val (at_neq rfl rfl) rfl ?_
                    refine wl_on (t := 71) rfl (by decide) rfl ?_
                    refine wl_val (at_pick_t rfl rfl) rfl ?_
                    refine wl_val (at_pick_f rfl rfl) rfl ?_
                    refine wl_val (at_move rfl) rfl ?_
                    refine bif_ h (fun hb h => ?_) (fun hb h => ?_)
                    · refine wl_set (t := 88) (v := .bool true) (congrArg Value.bool hb) ?_; clear hb
                      refine wl_off (t := 88) rfl (by decide) rfl ?_
                      refine wl_off (t := 88) rfl (by decide) rfl ?_
                      refine wl_off (t := 88) rfl (by decide) rfl ?_
                      refine wl_off' (t := 91) rfl (by decide) rfl ?_
                      refine wl_off (t := 88) rfl (by decide) rfl ?_
                      refine wl_val (at_pick_t rfl rfl) rfl ?_
                      refine wl_nil ?_
                      exact wk_prune [(0, .slice a0.a a0.n a0.c), (7, .pointer (some (⟨b11, 0, none⟩ : Addr))), (8, .int .i64 x9.2), (9, .pointer x14), (10, .int .i64 s22), (11, .pointer (some (⟨b29, 0, none⟩ : Addr))), (12, .bool x32), (15, .int .i64 x50), (94, .bool true)] ⟨rfl, rfl, rfl, rfl, rfl, rfl, rfl, rfl, rfl, trivial⟩ (fun f1 => hJ53 (true) _ f1 h ⟨t_b11, t_b29, trivial⟩ so)
                    · refine wl_set (t := 88) (v := .bool false) (congrArg Value.bool hb) ?_; clear hb
                      refine wl_on (t := 88) rfl (by decide) rfl ?_
                      refine wl_val (at_move rfl) rfl ?_
                      refine wl_on (t := 88) rfl (by decide) rfl ?_
                      refine wl_val (at_eql rfl rfl) rfl ?_
                      refine wl_on (t := 88) rfl (by decide) rfl ?_
                      refine wl_val (at_move rfl) rfl ?_
                      refine bif_ h (fun hb h => ?_) (fun hb h => ?_)
                      · refine wl_set (t := 91) (v := .bool true) (congrArg Value.bool hb) ?_; clear hb
                        refine wl_on (t := 91) rfl (by decide) rfl ?_
                        refine wl_val (at_move rfl) rfl ?_
                        refine wl_on (t := 88) rfl (by decide) rfl ?_
                        refine wl_val (at_pick_t rfl rfl) rfl ?_
                        refine wl_val (at_pick_f rfl rfl) rfl ?_
                        refine wl_nil ?_
                        exact wk_prune [(0, .slice a0.a a0.n a0.c), (7, .pointer (some (⟨b11, 0, none⟩ : Addr))), (8, .int .i64 x9.2), (9, .pointer x14), (10, .int .i64 s22), (11, .pointer (some (⟨b29, 0, none⟩ : Addr))), (12, .bool x32), (15, .int .i64 x50), (94, .bool x32)] ⟨rfl, rfl, rfl, rfl, rfl, rfl, rfl, rfl, rfl, trivial⟩ (fun f1 => hJ53 (x32) _ f1 h ⟨t_b11, t_b29, trivial⟩ so)
                      · refine wl_set (t := 91) (v := .bool false) (congrArg Value.bool hb) ?_; clear hb
                        refine wl_off (t := 91) rfl (by decide) rfl ?_
                        refine wl_on (t := 88) rfl (by decide) rfl ?_
                        refine wl_val (at_pick_f rfl rfl) rfl ?_
                        refine wl_val (at_pick_f rfl rfl) rfl ?_
                        refine wl_nil ?_
                        exact wk_prune [(0, .slice a0.a a0.n a0.c), (7, .pointer (some (⟨b11, 0, none⟩ : Addr))), (8, .int .i64 x9.2), (9, .pointer x14), (10, .int .i64 s22), (11, .pointer (some (⟨b29, 0, none⟩ : Addr))), (12, .bool x32), (15, .int .i64 x50), (94, .bool false)] ⟨rfl, rfl, rfl, rfl, rfl, rfl, rfl, rfl, rfl, trivial⟩ (fun f1 => hJ53 (false) _ f1 h ⟨t_b11, t_b29, trivial⟩ so)
                  · refine wl_set (t := 78) (v := .bool false) (congrArg Value.bool hb) ?_; clear hb
                    refine wl_off (t := 78) rfl (by decide) rfl ?_
                    refine wl_off (t := 78) rfl (by decide) rfl ?_
                    refine wl_off (t := 78) rfl (by decide) rfl ?_
                    refine wl_off (t := 78) rfl (by decide) rfl ?_
                    refine wl_off (t := 78) rfl (by decide) rfl ?_
                    refine wl_off (t := 78) rfl (by decide) rfl ?_
                    refine wl_off (t := 78) rfl (by decide) rfl ?_
                    refine wl_on (t := 71) rfl (by decide) rfl ?_
                    refine wl_val (at_pick_f rfl rfl) rfl ?_
                    refine wl_val (at_pick_f rfl rfl) rfl ?_
                    refine wl_val (at_move rfl) rfl ?_
                    refine wl_on (t := 88) rfl (by decide) rfl ?_
                    refine wl_val (at_move rfl) rfl ?_
                    refine wl_on (t := 88) rfl (by decide) rfl ?_
                    refine wl_val (at_eql rfl rfl) rfl ?_
                    refine wl_on (t := 88) rfl (by decide) rfl ?_
                    refine wl_val (at_move rfl) rfl ?_
                    refine bif_ h (fun hb h => ?_) (fun hb h => ?_)
                    · refine wl_set (t := 91) (v := .bool true) (congrArg Value.bool hb) ?_; clear hb
                      refine wl_on (t := 91) rfl (by decide) rfl ?_
                      refine wl_val (at_move rfl) rfl ?_
                      refine wl_on (t := 88) rfl (by decide) rfl ?_
                      refine wl_val (at_pick_t rfl rfl) rfl ?_
                      refine wl_val (at_pick_f rfl rfl) rfl ?_
                      refine wl_nil ?_
                      exact wk_prune [(0, .slice a0.a a0.n a0.c), (7, .pointer (some (⟨b11, 0, none⟩ : Addr))), (8, .int .i64 x9.2), (9, .pointer x14), (10, .int .i64 s22), (11, .pointer (some (⟨b29, 0, none⟩ : Addr))), (12, .bool x32), (15, .int .i64 x50), (94, .bool x32)] ⟨rfl, rfl, rfl, rfl, rfl, rfl, rfl, rfl, rfl, trivial⟩ (fun f1 => hJ53 (x32) _ f1 h ⟨t_b11, t_b29, trivial⟩ so)
                    · refine wl_set (t := 91) (v := .bool false) (congrArg Value.bool hb) ?_; clear hb
                      refine wl_off (t := 91) rfl (by decide) rfl ?_
                      refine wl_on (t := 88) rfl (by decide) rfl ?_
                      refine wl_val (at_pick_f rfl rfl) rfl ?_
                      refine wl_val (at_pick_f rfl rfl) rfl ?_
                      refine wl_nil ?_
                      exact wk_prune [(0, .slice a0.a a0.n a0.c), (7, .pointer (some (⟨b11, 0, none⟩ : Addr))), (8, .int .i64 x9.2), (9, .pointer x14), (10, .int .i64 s22), (11, .pointer (some (⟨b29, 0, none⟩ : Addr))), (12, .bool x32), (15, .int .i64 x50), (94, .bool false)] ⟨rfl, rfl, rfl, rfl, rfl, rfl, rfl, rfl, rfl, trivial⟩ (fun f1 => hJ53 (false) _ f1 h ⟨t_b11, t_b29, trivial⟩ so)
                · refine wl_set (t := 74) (v := .bool false) (congrArg Value.bool hb) ?_; clear hb
                  refine wl_off (t := 74) rfl (by decide) rfl ?_
                  refine wl_off (t := 74) rfl (by decide) rfl ?_
                  refine wl_on (t := 71) rfl (by decide) rfl ?_
                  refine wl_val (at_pick_f rfl rfl) rfl ?_
                  refine wl_on (t := 71) rfl (by decide) rfl ?_
                  refine wl_val (at_move rfl) rfl ?_
                  refine wl_off (t := 78) rfl (by decide) rfl ?_
                  refine wl_off (t := 78) rfl (by decide) rfl ?_
                  refine wl_off (t := 78) rfl (by decide) rfl ?_
                  refine wl_off (t := 78) rfl (by decide) rfl ?_
                  refine wl_off (t := 78) rfl (by decide) rfl ?_
                  refine wl_off (t := 78) rfl (by decide) rfl ?_
                  refine wl_off (t := 78) rfl (by decide) rfl ?_
                  refine wl_on (t := 71) rfl (by decide) rfl ?_
                  refine wl_val (at_pick_f rfl rfl) rfl ?_
                  refine wl_val (at_pick_f rfl rfl) rfl ?_
                  refine wl_val (at_move rfl) rfl ?_
                  refine wl_on (t := 88) rfl (by decide) rfl ?_
                  refine wl_val (at_move rfl) rfl ?_
                  refine wl_on (t := 88) rfl (by decide) rfl ?_
                  refine wl_val (at_eql rfl rfl) rfl ?_
                  refine wl_on (t := 88) rfl (by decide) rfl ?_
                  refine wl_val (at_move rfl) rfl ?_
                  refine bif_ h (fun hb h => ?_) (fun hb h => ?_)
                  · refine wl_set (t := 91) (v := .bool true) (congrArg Value.bool hb) ?_; clear hb
                    refine wl_on (t := 91) rfl (by decide) rfl ?_
                    refine wl_val (at_move rfl) rfl ?_
                    refine wl_on (t := 88) rfl (by decide) rfl ?_
                    refine wl_val (at_pick_t rfl rfl) rfl ?_
                    refine wl_val (at_pick_f rfl rfl) rfl ?_
                    refine wl_nil ?_
                    exact wk_prune [(0, .slice a0.a a0.n a0.c), (7, .pointer (some (⟨b11, 0, none⟩ : Addr))), (8, .int .i64 x9.2), (9, .pointer x14), (10, .int .i64 s22), (11, .pointer (some (⟨b29, 0, none⟩ : Addr))), (12, .bool x32), (15, .int .i64 x50), (94, .bool x32)] ⟨rfl, rfl, rfl, rfl, rfl, rfl, rfl, rfl, rfl, trivial⟩ (fun f1 => hJ53 (x32) _ f1 h ⟨t_b11, t_b29, trivial⟩ so)
                  · refine wl_set (t := 91) (v := .bool false) (congrArg Value.bool hb) ?_; clear hb
                    refine wl_off (t := 91) rfl (by decide) rfl ?_
                    refine wl_on (t := 88) rfl (by decide) rfl ?_
                    refine wl_val (at_pick_f rfl rfl) rfl ?_
                    refine wl_val (at_pick_f rfl rfl) rfl ?_
                    refine wl_nil ?_
                    exact wk_prune [(0, .slice a0.a a0.n a0.c), (7, .pointer (some (⟨b11, 0, none⟩ : Addr))), (8, .int .i64 x9.2), (9, .pointer x14), (10, .int .i64 s22), (11, .pointer (some (⟨b29, 0, none⟩ : Addr))), (12, .bool x32), (15, .int .i64 x50), (94, .bool false)] ⟨rfl, rfl, rfl, rfl, rfl, rfl, rfl, rfl, rfl, trivial⟩ (fun f1 => hJ53 (false) _ f1 h ⟨t_b11, t_b29, trivial⟩ so)
          · refine wl_set (t := 62) (v := .bool false) (congrArg Value.bool hb) ?_; clear hb
            refine wl_off (t := 62) rfl (by decide) rfl ?_
            refine wl_off (t := 62) rfl (by decide) rfl ?_
            refine wl_off (t := 62) rfl (by decide) rfl ?_
            refine wl_off (t := 62) rfl (by decide) rfl ?_
            refine wl_off' (t := 66) rfl (by decide) rfl ?_
            refine wl_off' (t := 66) rfl (by decide) rfl ?_
            refine wl_off (t := 62) rfl (by decide) rfl ?_
            refine wl_val (at_pick_f rfl rfl) rfl ?_
            refine wl_val (at_move rfl) rfl ?_
            refine wl_on (t := 71) rfl (by decide) rfl ?_
            refine wl_val (at_move rfl) rfl ?_
            refine wl_on (t := 71) rfl (by decide) rfl ?_
            refine wl_val (at_eql rfl rfl) rfl ?_
            refine wl_on (t := 71) rfl (by decide) rfl ?_
            refine wl_val (at_move rfl) rfl ?_
            refine bif_ h (fun hb h => ?_) (fun hb h => ?_)
            · refine wl_set (t := 74) (v := .bool true) (congrArg Value.bool hb) ?_; clear hb
              refine wl_on (t := 74) rfl (by decide) rfl ?_
              refine wl_val (at_move rfl) rfl ?_
              refine wl_on (t := 74) rfl (by decide) rfl ?_
              refine wl_val (at_eql rfl rfl) rfl ?_
              refine wl_on (t := 71) rfl (by decide) rfl ?_
              refine wl_val (at_pick_t rfl rfl) rfl ?_
              refine wl_on (t := 71) rfl (by decide) rfl ?_
              refine wl_val (at_move rfl) rfl ?_
              refine bif_ h (fun hb h => ?_) (fun hb h => ?_)
              · refine wl_set (t := 78) (v := .bool true) (congrArg Value.bool hb) ?_; clear hb
                refine wl_on (t := 78) rfl (by decide) rfl ?_
                refine wl_val (at_move rfl) rfl ?_
                refine wl_on (t := 78) rfl (by decide) rfl ?_
                refine wl_val (at_move rfl) rfl ?_
                refine wl_on (t := 78) rfl (by decide) rfl ?_
                refine wl_val (at_move rfl) rfl ?_
                refine wl_on (t := 78) rfl (by decide) rfl ?_
                obtain ⟨q71, q72, h⟩ := h
                refine wl_val (at_ixAddrL Try.underlying25 sz42 (sl_some q38) rfl q71 q72) rfl ?_
                refine wl_on (t := 78) rfl (by decide) rfl ?_
                refine wl_val (at_fieldAddr Try.underlying42 rfl rfl sz39 (by decide) rfl) rfl ?_
                refine wl_on (t := 78) rfl (by decide) rfl ?_
                obtain ⟨x73, q74, h⟩ := h
                refine wl_val (at_load Try.underlying39 rfl rfl q74) rfl ?_
                refine wl_on (t := 78) rfl (by decide) rfl ?_
                refine wl_val (at_neq rfl rfl) rfl ?_
                refine wl_on (t := 71) rfl (by decide) rfl ?_
                refine wl_val (at_pick_t rfl rfl) rfl ?_
                refine wl_val (at_pick_f rfl rfl) rfl ?_
                refine wl_val (at_move rfl) rfl ?_
                refine bif_ h (fun hb h => ?_) (fun hb h => ?_)
                · refine wl_set (t := 88) (v := .bool true) (congrArg Value.bool hb) ?_; clear hb
                  refine wl_off (t := 88) rfl (by decide) rfl ?_
                  refine wl_off (t := 88) rfl (by decide) rfl ?_
                  refine wl_off (t := 88) rfl (by decide) rfl ?_
                  refine wl_off' (t := 91) rfl (by decide) rfl ?_
                  refine wl_off (t := 88) rfl (by decide) rfl ?_
                  refine wl_val (at_pick_t rfl rfl) rfl ?_
                  refine wl_nil ?_
                  exact wk_prune [(0, .slice a0.a a0.n a0.c), (7, .pointer (some (⟨b11, 0, none⟩ : Addr))), (8, .int .i64 x9.2), (9, .pointer x14), (10, .int .i64 s22), (11, .pointer (some (⟨b29, 0, none⟩ : Addr))), (12, .bool x32), (15, .int .i64 x50), (94, .bool true)] ⟨rfl, rfl, rfl, rfl, rfl, rfl, rfl, rfl, rfl, trivial⟩ (fun f1 => hJ53 (true) _ f1 h ⟨t_b11, t_b29, trivial⟩ so)
                · refine wl_set (t := 88) (v := .bool false) (congrArg Value.bool hb) ?_; clear hb
                  refine wl_on (t := 88) rfl (by decide) rfl ?_
                  refine wl_val (at_move rfl) rfl ?_
                  refine wl_on (t := 88) rfl (by decide) rfl ?_
                  refine wl_val (at_eql rfl rfl) rfl ?_
                  refine wl_on (t := 88) rfl (by decide) rfl ?_
                  refine wl_val (at_move rfl) rfl ?_
                  refine bif_ h (fun hb h => ?_) (fun hb h => ?_)
                  · refine wl_set (t := 91) (v := .bool true) (congrArg Value.bool hb) ?_; clear hb
                    refine wl_on (t := 91) rfl (by decide) rfl ?_
                    refine wl_val (at_move rfl) rfl ?_
                    refine wl_on (t := 88) rfl (by decide) rfl ?_
                    refine wl_val (at_pick_t rfl rfl) rfl ?_
                    refine wl_val (at_pick_f rfl rfl) rfl ?_
                    refine wl_nil ?_
                    exact wk_prune [(0, .slice a0.a a0.n a0.c), (7, .pointer (some (⟨b11, 0, none⟩ : Addr))), (8, .int .i64 x9.2), (9, .pointer x14), (10, .int .i64 s22), (11, .pointer (some (⟨b29, 0, none⟩ : Addr))), (12, .bool x32), (15, .int .i64 x50), (94, .bool x32)] ⟨rfl, rfl, rfl, rfl, rfl, rfl, rfl, rfl, rfl, trivial⟩ (fun f1 => hJ53 (x32) _ f1 h ⟨t_b11, t_b29, trivial⟩ so)
                  · refine wl_set (t := 91) (v := .bool false) (congrArg Value.bool hb) ?_; clear hb
                    refine wl_off (t := 91) rfl (by decide) rfl ?_
                    refine wl_on (t := 88) rfl (by decide) rfl ?_
                    refine wl_val (at_pick_f rfl rfl) rfl ?_
                    refine wl_val (at_pick_f rfl rfl) rfl ?_
                    refine wl_nil ?_
                    exact wk_prune [(0, .slice a0.a a0.n a0.c), (7, .pointer (some (⟨b11, 0, none⟩ : Addr))), (8, .int .i64 x9.2), (9, .pointer x14), (10, .int .i64 s22), (11, .pointer (some (⟨b29, 0, none⟩ : Addr))), (12, .bool x32), (15, .int .i64 x50), (94, .bool false)] ⟨rfl, rfl, rfl, rfl, rfl, rfl, rfl, rfl, rfl, trivial⟩ (fun f1 => hJ53 (false) _ f1 h ⟨t_b11, t_b29, trivial⟩ so)
              · refine wl_set (t := 78) (v := .bool false) (congrArg Value.bool hb) ?_; clear hb
                refine wl_off (t := 78) rfl (by decide) rfl ?_
                refine wl_off (t := 78) rfl (by decide) rfl ?_
                refine wl_off (t := 78) rfl (by decide) rfl ?_
                refine wl_off (t := 78) rfl (by decide) rfl ?_
                refine wl_off (t := 78) rfl (by decide) rfl ?_
                refine wl_off (t := 78) rfl (by decide) rfl ?_
                refine wl_off (t := 78) rfl (by decide) rfl ?_
                refine wl_on (t := 71) rfl (by decide) rfl ?_
                refine wl_val (at_pick_f rfl rfl) rfl ?_
                refine wl_val (at_pick_f rfl rfl) rfl ?_
                refine wl_val (at_move rfl) rfl ?_
                refine wl_on (t := 88) rfl (by decide) rfl ?_
                refine wl_val (at_move rfl) rfl ?_
                refine wl_on (t := 88) rfl (by decide) rfl ?_
                refine wl_val (at_eql rfl rfl) rfl ?_
                refine wl_on (t := 88) rfl (by decide) rfl ?_
                refine wl_val (at_move rfl) rfl ?_
                refine bif_ h (fun hb h => ?_) (fun hb h => ?_)
                · refine wl_set (t := 91) (v := .bool true) (congrArg Value.bool hb) ?_; clear hb
                  refine wl_on (t := 91) rfl (by decide) rfl ?_
                  refine wl_val (at_move rfl) rfl ?_
                  refine wl_on (t := 88) rfl (by decide) rfl ?_
                  refine wl_val (at_pick_t rfl rfl) rfl ?_
                  refine wl_val (at_pick_f rfl rfl) rfl ?_
                  refine wl_nil ?_
                  exact wk_prune [(0, .slice a0.a a0.n a0.c), (7, .pointer (some (⟨b11, 0, none⟩ : Addr))), (8, .int .i64 x9.2), (9, .pointer x14), (10, .int .i64 s22), (11, .pointer (some (⟨b29, 0, none⟩ : Addr))), (12, .bool x32), (15, .int .i64 x50), (94, .bool x32)] ⟨rfl, rfl, rfl, rfl, rfl, rfl, rfl, rfl, rfl, trivial⟩ (fun f1 => hJ53 (x32) _ f1 h ⟨t_b11, t_b29, trivial⟩ so)
                · refine wl_set (t := 91) (v := .bool false) (congrArg Value.bool hb) ?_; clear hb
                  refine wl_off (t := 91) rfl (by decide) rfl ?_
                  refine wl_on (t := 88) rfl (by decide) rfl ?_
                  refine wl_val (at_pick_f rfl rfl) rfl ?_
                  refine wl_val (at_pick_f rfl rfl) rfl ?_
                  refine wl_nil ?_
                  exact wk_prune [(0, .slice a0.a a0.n a0.c), (7, .pointer (some (⟨b11, 0, none⟩ : Addr))), (8, .int .i64 x9.2), (9, .pointer x14), (10, .int .i64 s22), (11, .pointer (some (⟨b29, 0, none⟩ : Addr))), (12, .bool x32), (15, .int .i64 x50), (94, .bool false)] ⟨rfl, rfl, rfl, rfl, rfl, rfl, rfl, rfl, rfl, trivial⟩ (fun f1 => hJ53 (false) _ f1 h ⟨t_b11, t_b29, trivial⟩ so)
            · refine wl_set (t := 74) (v := .bool false) (congrArg Value.bool hb) ?_; clear hb
              refine wl_off (t := 74) rfl (by decide) rfl ?_
              refine wl_off (t := 74) rfl (by decide) rfl ?_
              refine wl_on (t := 71) rfl (by decide) rfl ?_
              refine wl_val (at_pick_f rfl rfl) rfl ?_
              refine wl_on (t := 71) rfl (by decide) rfl ?_
              refine wl_val (at_move rfl) rfl ?_
              refine wl_off (t := 78) rfl (by decide) rfl ?_
              refine wl_off (t := 78) rfl (by decide) rfl ?_
              refine wl_off (t := 78) rfl (by decide) rfl ?_
              refine wl_off (t := 78) rfl (by decide) rfl ?_
              refine wl_off (t := 78) rfl (by decide) rfl ?_
              refine wl_off (t := 78) rfl (by decide) rfl ?_
              refine wl_off (t := 78) rfl (by decide) rfl ?_
              refine wl_on (t := 71) rfl (by decide) rfl ?_
              refine wl_val (at_pick_f rfl rfl) rfl ?_
              refine wl_val (at_pick_f rfl rfl) rfl ?_
              refine wl_val (at_move rfl) rfl ?_
              refine wl_on (t := 88) rfl (by decide) rfl ?_
              refine wl_val (at_move rfl) rfl ?_
              refine wl_on (t := 88) rfl (by decide) rfl ?_
              refine wl_val (at_eql rfl rfl) rfl ?_
              refine wl_on (t := 88) rfl (by decide) rfl ?_
              refine wl_val (at_move rfl) rfl ?_
              refine bif_ h (fun hb h => ?_) (fun hb h => ?_)
              · refine wl_set (t := 91) (v := .bool true) (congrArg Value.bool hb) ?_; clear hb
                refine wl_on (t := 91) rfl (by decide) rfl ?_
                refine wl_val (at_move rfl) rfl ?_
                refine wl_on (t := 88) rfl (by decide) rfl ?_
                refine wl_val (at_pick_t rfl rfl) rfl ?_
                refine wl_val (at_pick_f rfl rfl) rfl ?_
                refine wl_nil ?_
                exact wk_prune [(0, .slice a0.a a0.n a0.c), (7, .pointer (some (⟨b11, 0, none⟩ : Addr))), (8, .int .i64 x9.2), (9, .pointer x14), (10, .int .i64 s22), (11, .pointer (some (⟨b29, 0, none⟩ : Addr))), (12, .bool x32), (15, .int .i64 x50), (94, .bool x32)] ⟨rfl, rfl, rfl, rfl, rfl, rfl, rfl, rfl, rfl, trivial⟩ (fun f1 => hJ53 (x32) _ f1 h ⟨t_b11, t_b29, trivial⟩ so)
              · refine wl_set (t := 91) (v := .bool false) (congrArg Value.bool hb) ?_; clear hb
                refine wl_off (t := 91) rfl (by decide) rfl ?_
                refine wl_on (t := 88) rfl (by decide) rfl ?_
                refine wl_val (at_pick_f rfl rfl) rfl ?_
                refine wl_val (at_pick_f rfl rfl) rfl ?_
                refine wl_nil ?_
                exact wk_prune [(0, .slice a0.a a0.n a0.c), (7, .pointer (some (⟨b11, 0, none⟩ : Addr))), (8, .int .i64 x9.2), (9, .pointer x14), (10, .int .i64 s22), (11, .pointer (some (⟨b29, 0, none⟩ : Addr))), (12, .bool x32), (15, .int .i64 x50), (94, .bool false)] ⟨rfl, rfl, rfl, rfl, rfl, rfl, rfl, rfl, rfl, trivial⟩ (fun f1 => hJ53 (false) _ f1 h ⟨t_b11, t_b29, trivial⟩ so)
      · refine wc_exit ?_
        refine wk_thenE ?_
        refine wk_thenE ?_
        refine wk_blkE ?_
        refine wk_prune [(7, .pointer (some (⟨b11, 0, none⟩ : Addr))), (8, .int .i64 x9.2), (9, .pointer x14)] ⟨rfl, rfl, rfl, trivial⟩ (fun f1 => ?_)
        refine wk_then ?_
        refine wc_seq ?_
        refine wc_seq ?_
        refine wc_region ?_
        refine wl_val (at_move rfl) rfl ?_
        refine wl_callF (runs_Builder_Done.calls _ _ _ h) enter18 rfl trivial so ?_; intro x75 w76 h so
        obtain ⟨q77, h⟩ := h
        replace t_b11 := pv_bk q77 t_b11 (by simp)
        refine wl_nil ?_
        refine wk_prune [(7, .pointer (some (⟨b11, 0, none⟩ : Addr))), (8, .int .i64 x9.2), (9, .pointer x14), (113, .bool x75)] ⟨rfl, rfl, rfl, rfl, trivial⟩ (fun f1 => ?_)
        refine wk_then ?_
        refine wc_cond rfl h (fun h => ?_) (fun h => ?_)
        · refine wc_seq ?_
          refine wc_join (w0 := w0) (fun (s79 : Bool) => [(4, .bool s79)]) h ?_ ?_
          · rintro s79 w80 f1 h so; refine wk_then ?_
            refine wc_ret ?_
            refine wk_thenR ?_
            exact wk_ret1 (x := s79) rfl (by decide) rfl so h
          · intro J78 h hJ78
            refine wc_wo [0, 1, 3, 7, 15, 7, 63, 127, 255] mixed (by kernel_rfl) so ?_; intro w81 hw so; rw [← hw] at h t_b11; clear hw
            refine wo_pure (m' := 1) 0 rfl (by kernel_rfl) rfl rfl (fun H => at_move rfl) ?_
            refine wo_pure (m' := 3) 1 rfl (by kernel_rfl) rfl rfl (fun H => at_eql rfl rfl) ?_
            refine wo_pure (m' := 7) 2 rfl (by kernel_rfl) rfl rfl (fun H => at_move rfl) ?_
            refine bif_ h (fun hb h => ?_) (fun hb h => ?_)
            · refine wo_set (t := 116) (v := .bool true) (congrArg Value.bool hb) ?_; clear hb
              refine wo_pureG (m' := 15) 3 rfl (by kernel_rfl) rfl (t := 116) rfl (by decide) rfl (fun H => at_move rfl) ?_
              have q82 : ldA w81.heap (⟨b11, 0, none⟩ : Addr) (c24 x9.1) := ldA_full t_b11
              refine wo_loadG (m' := 47) 5 (fun H => ldA H (⟨b11, 0, none⟩ : Addr) (c24 x9.1)) rfl (by kernel_rfl) rfl (t := 116) rfl (by decide) rfl (fun H q82 => at_loadA (cs := (c24 x9.1)) Try.underlying24 rfl (by rw [len24]; exact sz24) rfl (q82)) q82 ?_
              refine wo_take (m' := 63) 4 [false] rfl (by kernel_rfl) rfl (by kernel_rfl) ?_
              refine wl_on (t := 116) rfl (by decide) rfl ?_
              refine wl_callF (runs_Builder_Block.calls _ _ _ h) enter17 rfl trivial so ?_; intro x83 w84 h so
              obtain ⟨q85, h⟩ := h
              replace t_b11 := pv_bk q85 t_b11 (by simp)
              refine wl_nil ?_
              refine wk_tq ⟨(ldA_full t_b11), trivial⟩ ?_
              refine wo_pureG (m' := 127) 6 rfl (by kernel_rfl) rfl (t := 116) rfl (by decide) rfl (fun H => at_eqlA (xs := (c24 x83)) (ys := (c24 x9.1)) rfl rfl (by kernel_rfl) (eqv_ints Try.underlying24 Try.underlying22 sz22)) ?_
              refine wo_pure (m' := 255) 7 rfl (by kernel_rfl) rfl rfl (fun H => at_pick_t rfl rfl) ?_
              refine wo_pure (m' := 511) 8 rfl (by kernel_rfl) rfl rfl (fun H => at_assign rfl) ?_
              refine wo_done (by kernel_rfl) ?_
              exact wk_prune [(4, .bool (x83.1 == x9.1.1))] ⟨rfl, trivial⟩ (fun f1 => hJ78 ((x83.1 == x9.1.1)) _ f1 h so)
            · refine wo_set (t := 116) (v := .bool false) (congrArg Value.bool hb) ?_; clear hb
              refine wo_off (m' := 15) 3 rfl (by kernel_rfl) rfl (t := 116) rfl (by decide) rfl ?_
              refine wo_off (m' := 31) 4 rfl (by kernel_rfl) rfl (t := 116) rfl (by decide) rfl ?_
              refine wo_off (m' := 63) 5 rfl (by kernel_rfl) rfl (t := 116) rfl (by decide) rfl ?_
              refine wo_off (m' := 127) 6 rfl (by kernel_rfl) rfl (t := 116) rfl (by decide) rfl ?_
              refine wo_pure (m' := 255) 7 rfl (by kernel_rfl) rfl rfl (fun H => at_pick_f rfl rfl) ?_
              refine wo_pure (m' := 511) 8 rfl (by kernel_rfl) rfl rfl (fun H => at_assign rfl) ?_
              refine wo_done (by kernel_rfl) ?_
              exact wk_prune [(4, .bool false)] ⟨rfl, trivial⟩ (fun f1 => hJ78 (false) _ f1 h so)
        · refine wc_skip ?_
          refine wk_prune [(7, .pointer (some (⟨b11, 0, none⟩ : Addr))), (8, .int .i64 x9.2)] ⟨rfl, rfl, trivial⟩ (fun f1 => ?_)
          refine wk_then ?_
          refine wc_seq ?_
          refine wc_region ?_
          refine wl_val (at_move rfl) rfl ?_
          refine wl_val (at_eql rfl rfl) rfl ?_
          refine wl_val (at_move rfl) rfl ?_
          refine bif_ h (fun hb h => ?_) (fun hb h => ?_)
          · refine wl_set (t := 124) (v := .bool true) (congrArg Value.bool hb) ?_; clear hb
            refine wl_on (t := 124) rfl (by decide) rfl ?_
            refine wl_val (at_loadA (cs := (c24 x9.1)) Try.underlying24 rfl (by rw [len24]; exact sz24) rfl (ldA_full t_b11)) rfl ?_
            refine wl_on (t := 124) rfl (by decide) rfl ?_
            refine wl_val (at_build (cs := (c24 (zInts 64))) (ps := []) rfl (build_array (vs := [.int .i16 0, .int .i16 0, .int .i16 0, .int .i16 0, .int .i16 0, .int .i16 0, .int .i16 0, .int .i16 0, .int .i16 0, .int .i16 0, .int .i16 0, .int .i16 0, .int .i16 0, .int .i16 0, .int .i16 0, .int .i16 0, .int .i16 0, .int .i16 0, .int .i16 0, .int .i16 0, .int .i16 0, .int .i16 0, .int .i16 0, .int .i16 0, .int .i16 0, .int .i16 0, .int .i16 0, .int .i16 0, .int .i16 0, .int .i16 0, .int .i16 0, .int .i16 0, .int .i16 0, .int .i16 0, .int .i16 0, .int .i16 0, .int .i16 0, .int .i16 0, .int .i16 0, .int .i16 0, .int .i16 0, .int .i16 0, .int .i16 0, .int .i16 0, .int .i16 0, .int .i16 0, .int .i16 0, .int .i16 0, .int .i16 0, .int .i16 0, .int .i16 0, .int .i16 0, .int .i16 0, .int .i16 0, .int .i16 0, .int .i16 0, .int .i16 0, .int .i16 0, .int .i16 0, .int .i16 0, .int .i16 0, .int .i16 0, .int .i16 0, .int .i16 0]) (cs := (c24 (zInts 64))) zero24 (by first | rfl | simp [z24, c24, Value.cells, ints_len, bools_len, List.flatMap]) Try.underlying24 sz22 (by first | rfl | simp [z24, c24, Value.cells, ints_len, bools_len]) (by simp [z24, c24, Value.cells, ints_len, bools_len]) (by first | rfl | simp [z24, c24, Value.cells, ints_len, bools_len, List.set, List.flatMap, mkI, mkB, ints, bools]))) rfl ?_
            refine wl_on (t := 124) rfl (by decide) rfl ?_
            refine wl_val (at_eqlA (xs := (c24 x9.1)) (ys := (c24 (zInts 64))) rfl rfl (by kernel_rfl) (eqv_ints Try.underlying24 Try.underlying22 sz22)) rfl ?_
            refine wl_val (at_pick_t rfl rfl) rfl ?_
            refine wl_val (at_assign rfl) rfl ?_
            refine wl_nil ?_
            refine wk_prune [(4, .bool (x9.1.1 == (zInts 64).1))] ⟨rfl, trivial⟩ (fun f1 => ?_)
            refine wk_then ?_
            refine wc_ret ?_
            exact wk_ret1 (x := (x9.1.1 == (zInts 64).1)) rfl (by decide) rfl so h
          · refine wl_set (t := 124) (v := .bool false) (congrArg Value.bool hb) ?_; clear hb
            refine wl_off (t := 124) rfl (by decide) rfl ?_
            refine wl_off (t := 124) rfl (by decide) rfl ?_
            refine wl_off (t := 124) rfl (by decide) rfl ?_
            refine wl_val (at_pick_f rfl rfl) rfl ?_
            refine wl_val (at_assign rfl) rfl ?_
            refine wl_nil ?_
            refine wk_prune [(4, .bool false)] ⟨rfl, trivial⟩ (fun f1 => ?_)
            refine wk_then ?_
            refine wc_ret ?_
            exact wk_ret1 (x := false) rfl (by decide) rfl so h
  · intro J17 h hJ17
    refine wc_region ?_
    refine wl_val (at_move rfl) rfl ?_
    refine wl_val (at_eqlP Try.underlying34 rfl rfl) rfl ?_
    refine wl_val (at_move rfl) rfl ?_
    refine bif_ h (fun hb h => ?_) (fun hb h => ?_)
    · refine wl_set (t := 30) (v := .bool true) (congrArg Value.bool hb) ?_; clear hb
      refine wl_off (t := 30) rfl (by decide) rfl ?_
      refine wl_off (t := 30) rfl (by decide) rfl ?_
      refine wl_val (at_pick_t rfl rfl) rfl ?_
      refine wl_nil ?_
      exact wk_prune [(0, .slice a0.a a0.n a0.c), (7, .pointer (some (⟨b11, 0, none⟩ : Addr))), (8, .int .i64 x9.2), (9, .pointer x14), (33, .bool true)] ⟨rfl, rfl, rfl, rfl, rfl, trivial⟩ (fun f1 => hJ17 (true) _ f1 h ⟨t_b11, trivial⟩ so)
    · refine wl_set (t := 30) (v := .bool false) (congrArg Value.bool hb) ?_; clear hb
      refine wl_on (t := 30) rfl (by decide) rfl ?_
      refine wl_val (at_move rfl) rfl ?_
      refine wl_on (t := 30) rfl (by decide) rfl ?_
      refine wl_val (at_not rfl) rfl ?_
      refine wl_val (at_pick_f rfl rfl) rfl ?_
      refine wl_nil ?_
      exact wk_prune [(0, .slice a0.a a0.n a0.c), (7, .pointer (some (⟨b11, 0, none⟩ : Addr))), (8, .int .i64 x9.2), (9, .pointer x14), (33, .bool (!x1))] ⟨rfl, rfl, rfl, rfl, rfl, trivial⟩ (fun f1 => hJ17 ((!x1)) _ f1 h ⟨t_b11, trivial⟩ so)
end Go.Proofs.Ythblohaffipkhaa.G
