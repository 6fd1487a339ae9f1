import Derived.Test.YthblohaffipkhaaGF
import Derived.Test.YthblohaffipkhaaKmosaicref07
import Derived.Test.YthblohaffipkhaaKruns
namespace Go.Proofs.Ythblohaffipkhaa.G
open Go.RowKit
set_option linter.unusedVariables false
set_option linter.unusedSimpArgs false
/-- mosaic/mosaiclaw07.RunsBlock -/
def mosaiclaw07_RunsBlock.enc : Bool → Value := fun r => .bool r
def mosaiclaw07_RunsBlock.s (a0 : Sl) (a1 : Int) (H0 : Hp) (Q : Bool → Hp → Prop) : Prop :=
  mosaicref07_Block.s a0 a1 H0 (fun x1 H2 => Gn [] H2 (fun (b3 : Nat) (H5 : Hp) => ∃ y9 : List Value, y9.length = a0.n * 3 ∧ rdS H5 a0.a y9 ∧ apS H5 ⟨none, 0, 0⟩ 42 3 4 z42.cells a0.n y9 (fun l7 H8 => Pv [b3] H5 H8 ∧ (∃ k13, Fix (fun (rec18 : (Sl × Int) → Hp → Prop) (s15 : Sl × Int) (H16 : Hp) => if decide (s15.2 < 8) = true then (nw H16 42 (c42 99 0 (IntKind.wrap .u16 s15.2)) (fun p19 H20 => Pv [b3] H16 H20 ∧ (apS H20 s15.1 42 3 4 z42.cells 1 (c42 99 0 (IntKind.wrap .u16 s15.2)) (fun l25 H26 => Pv [b3] H20 H26 ∧ (rec18 (l25, (IntKind.wrap .i64 (s15.2 + 1))) H26))))) else (0 ≤ (a0.n : Int) ∧ (a0.n : Int) ≤ (s15.1.c : Int) ∧ (runs_Block.s (slS s15.1 3 0 (a0.n : Int)) a1 H16 (fun x30 H31 => Pv [b3] H16 H31 ∧ (Gn [] H31 (fun (b33 : Nat) (H35 : Hp) => runs_Block.s (slS s15.1 3 0 (a0.n : Int)) a1 H35 (fun x36 H37 => Pv [b3, b33] H35 H37 ∧ (Gn [] H37 (fun (b39 : Nat) (H41 : Hp) => Join (fun (s43 : Bool) (H44 : Hp) => if s43 = true then (Q false H44) else (∃ k45, Fix (fun (rec50 : Int → Hp → Prop) (s47 : Int) (H48 : Hp) => if decide (s47 < 8) = true then (0 ≤ (IntKind.wrap .i64 ((a0.n : Int) + s47)) ∧ (IntKind.wrap .i64 ((a0.n : Int) + s47)) < (s15.1.n : Int) ∧ someA s15.1.a (fun p53 => ∃ x55 : Int, ∃ x56 : Int, ∃ x57 : Int, ldA H48 (p53.add (Int.toNat (IntKind.wrap .i64 ((a0.n : Int) + s47)) * 3)) (c42 x55 x56 x57) ∧ (if (!((x55 == 99) && ((x56 == 0) && (x57 == (IntKind.wrap .u16 s47))))) = true then (Q false H48) else (rec50 ((IntKind.wrap .i64 (s47 + 1))) H48)))) else (∃ k59, Fix (fun (rec64 : Int → Hp → Prop) (s61 : Int) (H62 : Hp) => if decide (s61 < ((slS s15.1 3 0 (a0.n : Int)).n : Int)) = true then (0 ≤ (IntKind.wrap .i64 ((IntKind.wrap .i64 ((a0.n : Int) - 1)) - s61)) ∧ (IntKind.wrap .i64 ((IntKind.wrap .i64 ((a0.n : Int) - 1)) - s61)) < (a0.n : Int) ∧ someA a0.a (fun p67 => ∃ x69 : Int, ∃ x70 : Int, ∃ x71 : Int, ldA H62 (p67.add (Int.toNat (IntKind.wrap .i64 ((IntKind.wrap .i64 ((a0.n : Int) - 1)) - s61)) * 3)) (c42 x69 x70 x71) ∧ (0 ≤ s61 ∧ s61 < ((slS s15.1 3 0 (a0.n : Int)).n : Int) ∧ someA ((slS s15.1 3 0 (a0.n : Int)).a) (fun p75 => stA H62 (p75.add (Int.toNat s61 * 3)) (c42 x69 x70 x71) (fun H77 => rec64 ((IntKind.wrap .i64 (s61 + 1))) H77))))) else (mosaicref07_Block.s (slS s15.1 3 0 (a0.n : Int)) a1 H62 (fun x78 H79 => Gn [] H79 (fun (b80 : Nat) (H82 : Hp) => runs_Block.s (slS s15.1 3 0 (a0.n : Int)) a1 H82 (fun x83 H84 => Pv [b80] H82 H84 ∧ (Gn [] H84 (fun (b86 : Nat) (H88 : Hp) => if (x83.1.1 == x78.1.1) = true then (Q (x83.2 == x78.2) H88) else (Q false H88)))))))) k59 (0) H48)) k45 (0) H44)) (fun (J42 : Bool → Hp → Prop) => if (!(x30.1.1 == x1.1.1)) = true then (J42 (true) H41) else (if (x30.2 != x1.2) = true then (J42 (true) H41) else (if (!(x36.1.1 == x1.1.1)) = true then (J42 (true) H41) else (if (x36.2 != x1.2) = true then (J42 (true) H41) else (mosaicref07_Same.s (slS s15.1 3 0 (a0.n : Int)) a0 H41 (fun x89 H90 => J42 ((!x89)) H90))))))))))))))) k13 (l7, 0) H8))))
set_option maxRecDepth 20000 in
set_option maxHeartbeats 4000000 in
theorem mosaiclaw07_RunsBlock.calls (a0 : Sl) (a1 : Int) (w0 : World) (Q : Bool → Hp → Prop) (h : mosaiclaw07_RunsBlock.s a0 a1 w0.heap Q) :
    Ca Try.prog 5 #[.slice a0.a a0.n a0.c, .int .i16 a1] w0 (Rt mosaiclaw07_RunsBlock.enc Q w0) := by
  refine ca_start (c := _) Try.func5 rfl Try.ntmps5 rfl ?_
  have so : Sm w0 w0 := Sm.refl w0
  unfold mosaiclaw07_RunsBlock.s at h
  refine wc_prune [(0, .slice a0.a a0.n a0.c), (1, .int .i16 a1)] ⟨rfl, rfl, trivial⟩ (fun f1 => ?_)
  refine wc_seq ?_
  refine wc_region ?_
  refine wl_val (at_assign rfl) rfl ?_
  refine wl_nil ?_
  refine wk_prune [(0, .slice a0.a a0.n a0.c), (1, .int .i16 a1)] ⟨rfl, rfl, trivial⟩ (fun f1 => ?_)
  refine wk_then ?_
  refine wc_seq ?_
  refine wc_region ?_
  refine wl_val (at_move rfl) rfl ?_
  refine wl_val (at_move rfl) rfl ?_
  refine wl_callF (mosaicref07_Block.calls _ _ _ _ h) enter20 rfl trivial so ?_; intro x1 w2 h so
  refine wl_val (at_move rfl) rfl ?_
  refine wl_val (at_extract rfl rfl) rfl ?_
  refine wl_val (at_extract rfl rfl) rfl ?_
  refine wl_newT (T := 24) (cs := (c24 (zInts 64))) (ef_alloc zero24 rfl) rfl so ?_; intro b3 w4 hb_b3 t_b3 k_b3 so
  have g_b3 := Nat.le_of_eq hb_b3.symm
  have hc := k_b3.ch (F := [])
  refine wl_stWT (vs := (c24 x1.1)) t_b3 (by first | (rw [len24, len24]) | (rw [len24]) | rfl) rfl so (fun q => ef_storeA (p := (⟨b3, 0, none⟩ : Addr)) (cs := (c24 x1.1)) (by rw [len24]; exact sz24) rfl rfl (one24 _) q) ?_; intro w5 t_b3 s_w5 so
  replace hc := ch_same hc s_w5 (.inr g_b3)
  refine wl_val (at_assign rfl) rfl ?_
  refine wl_nil ?_
  refine wk_prune [(0, .slice a0.a a0.n a0.c), (1, .int .i16 a1), (5, .pointer (some (⟨b3, 0, none⟩ : Addr))), (6, .int .i64 x1.2)] ⟨rfl, rfl, rfl, rfl, trivial⟩ (fun f1 => ?_)
  refine wk_then ?_
  refine wc_seq ?_
  refine wc_region ?_
  refine wl_val (at_assign rfl) rfl ?_
  refine wl_nil ?_
  refine wk_prune [(0, .slice a0.a a0.n a0.c), (1, .int .i16 a1), (5, .pointer (some (⟨b3, 0, none⟩ : Addr))), (6, .int .i64 x1.2), (7, .slice none 0 0)] ⟨rfl, rfl, rfl, rfl, rfl, trivial⟩ (fun f1 => ?_)
  refine wk_then ?_
  refine wc_seq ?_
  refine wc_region ?_
  refine wl_val (at_move rfl) rfl ?_
  refine wl_val (at_move rfl) rfl ?_
  obtain ⟨i6, i6a, i6b, i6c, i6d⟩ := info42
  replace h := h b3 _ hc g_b3 t_b3.lt; clear hc
  obtain ⟨y9, q10, q11, h⟩ := h
  refine wl_ap (fx_append (s := ⟨none, 0, 0⟩) (t := a0) (m := a0.n) (xs := y9) Try.underlying25 Try.underlying25 i6a i6b i6c i6d rfl rfl rfl q10 q11 h) rfl so ?_; intro l7 w8 h so
  obtain ⟨q12, h⟩ := h
  replace t_b3 := pv_bk q12 t_b3 (by simp)
  refine wl_val (at_assign rfl) rfl ?_
  refine wl_nil ?_
  refine wk_prune [(0, .slice a0.a a0.n a0.c), (1, .int .i16 a1), (5, .pointer (some (⟨b3, 0, none⟩ : Addr))), (6, .int .i64 x1.2), (7, .slice l7.a l7.n l7.c)] ⟨rfl, rfl, rfl, rfl, rfl, trivial⟩ (fun f1 => ?_)
  refine wk_then ?_
  refine wc_seq ?_
  refine wc_seq ?_
  refine wc_region ?_
  refine wl_val (at_assign rfl) rfl ?_
  refine wl_nil ?_
  refine wk_prune [(0, .slice a0.a a0.n a0.c), (1, .int .i16 a1), (5, .pointer (some (⟨b3, 0, none⟩ : Addr))), (6, .int .i64 x1.2), (7, .slice l7.a l7.n l7.c), (8, .int .i64 0)] ⟨rfl, rfl, rfl, rfl, rfl, rfl, trivial⟩ (fun f1 => ?_)
  refine wk_then ?_
  refine wc_block ?_
  obtain ⟨k13, h⟩ := h
  refine wc_loop (fun k a w => ∃ (s15 : Sl × Int) (f1 : Nat → Value), a = ac 131 (en f1 [(0, .slice a0.a a0.n a0.c), (1, .int .i16 a1), (5, .pointer (some (⟨b3, 0, none⟩ : Addr))), (6, .int .i64 x1.2), (7, .slice s15.1.a s15.1.n s15.1.c), (8, .int .i64 s15.2)]) [] ∧ Sm w0 w ∧ (Bk w.heap b3 24 (c24 x1.1) ∧ True) ∧ Fix _ k s15 w.heap) k13 ⟨(l7, 0), _, ac_again ⟨rfl, rfl, rfl, rfl, rfl, rfl, trivial⟩, so, ⟨t_b3, trivial⟩, h⟩ ?_
  rintro k14 a17 w16 ⟨s15, f1, rfl, so, ⟨t_b3, _⟩, h⟩
  rcases k14 with _ | k14
  · exact h.elim
  replace h := Fix.un h; refine wc_in ?_
  refine wc_seq ?_
  refine wc_seq ?_
  refine wc_region ?_
  refine wl_val (at_move rfl) rfl ?_
  refine wl_val (at_lss rfl rfl) rfl ?_
  refine wl_nil ?_
  refine wk_prune [(0, .slice a0.a a0.n a0.c), (1, .int .i16 a1), (5, .pointer (some (⟨b3, 0, none⟩ : Addr))), (6, .int .i64 x1.2), (7, .slice s15.1.a s15.1.n s15.1.c), (8, .int .i64 s15.2), (30, .bool (decide (s15.2 < 8)))] ⟨rfl, rfl, rfl, rfl, rfl, rfl, rfl, trivial⟩ (fun f1 => ?_)
  refine wk_then ?_
  refine wc_cond rfl h (fun h => ?_) (fun h => ?_)
  · refine wc_skip ?_
    refine wk_prune [(0, .slice a0.a a0.n a0.c), (1, .int .i16 a1), (5, .pointer (some (⟨b3, 0, none⟩ : Addr))), (6, .int .i64 x1.2), (7, .slice s15.1.a s15.1.n s15.1.c), (8, .int .i64 s15.2)] ⟨rfl, rfl, rfl, rfl, rfl, rfl, trivial⟩ (fun f1 => ?_)
    refine wk_then ?_
    refine wc_seq ?_
    refine wc_block ?_
    refine wc_region ?_
    refine wl_val (at_move rfl) rfl ?_
    refine wl_val (at_move rfl) rfl ?_
    refine wl_val (at_conv Try.underlying3 Try.underlying40 rfl) rfl ?_
    refine wl_val (at_build (cs := (c42 99 0 (IntKind.wrap .u16 s15.2))) (ps := [(0, .int .u8 99), (2, .int .u16 (IntKind.wrap .u16 s15.2))]) rfl (fun w => by simp [Instr.build, Instr.fill, go_sem, Try.underlying42, z42])) rfl ?_
    obtain ⟨i22, i22a, i22b, i22c, i22d⟩ := info42
    refine wl_newS (ef_buildSlice (cs := (c42 99 0 (IntKind.wrap .u16 s15.2))) (ps := [(0, .agg (c42 99 0 (IntKind.wrap .u16 s15.2)).toArray)]) Try.underlying25 i22a i22b rfl (by rw [i22c]; decide) (by rw [i22c]; exact fill_full (vs := [.agg (c42 99 0 (IntKind.wrap .u16 s15.2)).toArray]) rfl (by simp [Value.cells]) (by simp [Value.cells, len42]) rfl (by simp))) rfl so (one42 _ _ _) h ?_; intro p19 w20 h r21 so
    obtain ⟨q23, h⟩ := h
    replace t_b3 := pv_bk q23 t_b3 (by simp)
    obtain ⟨i24, i24a, i24b, i24c, i24d⟩ := info42
    refine wl_ap (fx_append (s := s15.1) (t := ⟨(some p19), 1, 1⟩) (m := 1) (xs := (c42 99 0 (IntKind.wrap .u16 s15.2))) Try.underlying25 Try.underlying25 i24a i24b i24c i24d rfl rfl rfl (by first | rfl | simp [len42]) r21 h) rfl so ?_; intro l25 w26 h so
    obtain ⟨q27, h⟩ := h
    replace t_b3 := pv_bk q27 t_b3 (by simp)
    refine wl_val (at_assign rfl) rfl ?_
    refine wl_nil ?_
    refine wk_blkN ?_
    refine wk_prune [(0, .slice a0.a a0.n a0.c), (1, .int .i16 a1), (5, .pointer (some (⟨b3, 0, none⟩ : Addr))), (6, .int .i64 x1.2), (7, .slice l25.a l25.n l25.c), (8, .int .i64 s15.2)] ⟨rfl, rfl, rfl, rfl, rfl, rfl, trivial⟩ (fun f1 => ?_)
    refine wk_then ?_
    refine wc_region ?_
    refine wl_val (at_move rfl) rfl ?_
    refine wl_val (at_add rfl rfl) rfl ?_
    refine wl_val (at_assign rfl) rfl ?_
    refine wl_nil ?_
    exact wk_again ⟨(l25, (IntKind.wrap .i64 (s15.2 + 1))), _, ac_again ⟨rfl, rfl, rfl, rfl, rfl, rfl, trivial⟩, so, ⟨t_b3, trivial⟩, h⟩
  · refine wc_exit ?_
    refine wk_thenE ?_
    refine wk_thenE ?_
    refine wk_blkE ?_
    refine wk_prune [(0, .slice a0.a a0.n a0.c), (1, .int .i16 a1), (5, .pointer (some (⟨b3, 0, none⟩ : Addr))), (6, .int .i64 x1.2), (7, .slice s15.1.a s15.1.n s15.1.c)] ⟨rfl, rfl, rfl, rfl, rfl, trivial⟩ (fun f1 => ?_)
    refine wk_then ?_
    refine wc_seq ?_
    refine wc_region ?_
    refine wl_val (at_move rfl) rfl ?_
    refine wl_val (at_move rfl) rfl ?_
    refine wl_val (at_lenL Try.underlying25 rfl) rfl ?_
    obtain ⟨q28, q29, h⟩ := h
    refine wl_val (at_subLh (s := s15.1) Try.underlying25 sz42 rfl rfl q28 q29) rfl ?_
    refine wl_val (at_assign rfl) rfl ?_
    refine wl_nil ?_
    refine wk_prune [(0, .slice a0.a a0.n a0.c), (1, .int .i16 a1), (5, .pointer (some (⟨b3, 0, none⟩ : Addr))), (6, .int .i64 x1.2), (7, .slice s15.1.a s15.1.n s15.1.c), (9, .slice ((slS s15.1 3 0 (a0.n : Int)).a) ((slS s15.1 3 0 (a0.n : Int)).n) ((slS s15.1 3 0 (a0.n : Int)).c))] ⟨rfl, rfl, rfl, rfl, rfl, rfl, trivial⟩ (fun f1 => ?_)
    refine wk_then ?_
    refine wc_seq ?_
    refine wc_region ?_
    refine wl_val (at_move rfl) rfl ?_
    refine wl_val (at_move rfl) rfl ?_
    refine wl_callF (runs_Block.calls _ _ _ _ h) enter21 rfl trivial so ?_; intro x30 w31 h so
    obtain ⟨q32, h⟩ := h
    replace t_b3 := pv_bk q32 t_b3 (by simp)
    refine wl_val (at_move rfl) rfl ?_
    refine wl_val (at_extract rfl rfl) rfl ?_
    refine wl_val (at_extract rfl rfl) rfl ?_
    refine wl_newT (T := 24) (cs := (c24 (zInts 64))) (ef_alloc zero24 rfl) rfl so ?_; intro b33 w34 hb_b33 t_b33 k_b33 so
    have g_b33 := Nat.le_of_eq hb_b33.symm
    have hc := k_b33.ch (F := [])
    have n_b3_b33 : b3 ≠ b33 := fun e => by have := t_b3.lt; omega
    replace t_b3 := t_b3.keep k_b33
    refine wl_stWT (vs := (c24 x30.1)) t_b33 (by first | (rw [len24, len24]) | (rw [len24]) | rfl) rfl so (fun q => ef_storeA (p := (⟨b33, 0, none⟩ : Addr)) (cs := (c24 x30.1)) (by rw [len24]; exact sz24) rfl rfl (one24 _) q) ?_; intro w35 t_b33 s_w35 so
    replace t_b3 := t_b3.same s_w35 (n_b3_b33)
    replace hc := ch_same hc s_w35 (.inr g_b33)
    refine wl_val (at_assign rfl) rfl ?_
    refine wl_nil ?_
    refine wk_prune [(0, .slice a0.a a0.n a0.c), (1, .int .i16 a1), (5, .pointer (some (⟨b3, 0, none⟩ : Addr))), (6, .int .i64 x1.2), (7, .slice s15.1.a s15.1.n s15.1.c), (9, .slice ((slS s15.1 3 0 (a0.n : Int)).a) ((slS s15.1 3 0 (a0.n : Int)).n) ((slS s15.1 3 0 (a0.n : Int)).c)), (10, .pointer (some (⟨b33, 0, none⟩ : Addr))), (11, .int .i64 x30.2)] ⟨rfl, rfl, rfl, rfl, rfl, rfl, rfl, rfl, trivial⟩ (fun f1 => ?_)
    refine wk_then ?_
    refine wc_seq ?_
    refine wc_region ?_
    refine wl_val (at_move rfl) rfl ?_
    refine wl_val (at_move rfl) rfl ?_
    replace h := h b33 _ hc g_b33 t_b33.lt; clear hc
    refine wl_callF (runs_Block.calls _ _ _ _ h) enter21 rfl trivial so ?_; intro x36 w37 h so
    obtain ⟨q38, h⟩ := h
    replace t_b3 := pv_bk q38 t_b3 (by simp)
    replace t_b33 := pv_bk q38 t_b33 (by simp)
    refine wl_val (at_move rfl) rfl ?_
    refine wl_val (at_extract rfl rfl) rfl ?_
    refine wl_val (at_extract rfl rfl) rfl ?_
    refine wl_newT (T := 24) (cs := (c24 (zInts 64))) (ef_alloc zero24 rfl) rfl so ?_; intro b39 w40 hb_b39 t_b39 k_b39 so
    have g_b39 := Nat.le_of_eq hb_b39.symm
    have hc := k_b39.ch (F := [])
    have n_b3_b39 : b3 ≠ b39 := fun e => by have := t_b3.lt; omega
    replace t_b3 := t_b3.keep k_b39
    have n_b33_b39 : b33 ≠ b39 := fun e => by have := t_b33.lt; omega
    replace t_b33 := t_b33.keep k_b39
    refine wl_stWT (vs := (c24 x36.1)) t_b39 (by first | (rw [len24, len24]) | (rw [len24]) | rfl) rfl so (fun q => ef_storeA (p := (⟨b39, 0, none⟩ : Addr)) (cs := (c24 x36.1)) (by rw [len24]; exact sz24) rfl rfl (one24 _) q) ?_; intro w41 t_b39 s_w41 so
    replace t_b3 := t_b3.same s_w41 (n_b3_b39)
    replace t_b33 := t_b33.same s_w41 (n_b33_b39)
    replace hc := ch_same hc s_w41 (.inr g_b39)
    refine wl_val (at_assign rfl) rfl ?_
    refine wl_nil ?_
    refine wk_prune [(0, .slice a0.a a0.n a0.c), (1, .int .i16 a1), (5, .pointer (some (⟨b3, 0, none⟩ : Addr))), (6, .int .i64 x1.2), (7, .slice s15.1.a s15.1.n s15.1.c), (9, .slice ((slS s15.1 3 0 (a0.n : Int)).a) ((slS s15.1 3 0 (a0.n : Int)).n) ((slS s15.1 3 0 (a0.n : Int)).c)), (10, .pointer (some (⟨b33, 0, none⟩ : Addr))), (11, .int .i64 x30.2), (12, .pointer (some (⟨b39, 0, none⟩ : Addr))), (13, .int .i64 x36.2)] ⟨rfl, rfl, rfl, rfl, rfl, rfl, rfl, rfl, rfl, rfl, trivial⟩ (fun f1 => ?_)
    refine wk_then ?_
    refine wc_seq ?_
    replace h := h b39 _ hc g_b39 t_b39.lt; clear hc
    refine wc_seq ?_
    refine wc_join (w0 := w0) (fun (s43 : Bool) => [(0, .slice a0.a a0.n a0.c), (1, .int .i16 a1), (7, .slice s15.1.a s15.1.n s15.1.c), (9, .slice ((slS s15.1 3 0 (a0.n : Int)).a) ((slS s15.1 3 0 (a0.n : Int)).n) ((slS s15.1 3 0 (a0.n : Int)).c)), (78, .bool s43)]) h ?_ ?_
    · rintro s43 w44 f1 h so; refine wk_then ?_
      refine wc_cond rfl h (fun h => ?_) (fun h => ?_)
      · refine wc_seq ?_
        refine wc_region ?_
        refine wl_val (at_assign rfl) rfl ?_
        refine wl_nil ?_
        refine wk_prune [(4, .bool false)] ⟨rfl, trivial⟩ (fun f1 => ?_)
        refine wk_then ?_
        refine wc_ret ?_
        refine wk_thenR ?_
        exact wk_ret1 (x := false) rfl (by decide) rfl so h
      · refine wc_skip ?_
        refine wk_prune [(0, .slice a0.a a0.n a0.c), (1, .int .i16 a1), (7, .slice s15.1.a s15.1.n s15.1.c), (9, .slice ((slS s15.1 3 0 (a0.n : Int)).a) ((slS s15.1 3 0 (a0.n : Int)).n) ((slS s15.1 3 0 (a0.n : Int)).c))] ⟨rfl, rfl, rfl, rfl, trivial⟩ (fun f1 => ?_)
        refine wk_then ?_
        refine wc_seq ?_
        refine wc_seq ?_
        refine wc_region ?_
        refine wl_val (at_assign rfl) rfl ?_
        refine wl_nil ?_
        refine wk_prune [(0, .slice a0.a a0.n a0.c), (1, .int .i16 a1), (7, .slice s15.1.a s15.1.n s15.1.c), (9, .slice ((slS s15.1 3 0 (a0.n : Int)).a) ((slS s15.1 3 0 (a0.n : Int)).n) ((slS s15.1 3 0 (a0.n : Int)).c)), (14, .int .i64 0)] ⟨rfl, rfl, rfl, rfl, rfl, trivial⟩ (fun f1 => ?_)
        refine wk_then ?_
        refine wc_block ?_
        obtain ⟨k45, h⟩ := h
        refine wc_loop (fun k a w => ∃ (s47 : Int) (f1 : Nat → Value), a = ac 131 (en f1 [(0, .slice a0.a a0.n a0.c), (1, .int .i16 a1), (7, .slice s15.1.a s15.1.n s15.1.c), (9, .slice ((slS s15.1 3 0 (a0.n : Int)).a) ((slS s15.1 3 0 (a0.n : Int)).n) ((slS s15.1 3 0 (a0.n : Int)).c)), (14, .int .i64 s47)]) [] ∧ Sm w0 w ∧ Fix _ k s47 w.heap) k45 ⟨(0), _, ac_again ⟨rfl, rfl, rfl, rfl, rfl, trivial⟩, so, h⟩ ?_
        rintro k46 a49 w48 ⟨s47, f1, rfl, so, h⟩
        rcases k46 with _ | k46
        · exact h.elim
        replace h := Fix.un h; refine wc_in ?_
        refine wc_seq ?_
        refine wc_seq ?_
        refine wc_region ?_
        refine wl_val (at_move rfl) rfl ?_
        refine wl_val (at_lss rfl rfl) rfl ?_
        refine wl_nil ?_
        refine wk_prune [(0, .slice a0.a a0.n a0.c), (1, .int .i16 a1), (7, .slice s15.1.a s15.1.n s15.1.c), (9, .slice ((slS s15.1 3 0 (a0.n : Int)).a) ((slS s15.1 3 0 (a0.n : Int)).n) ((slS s15.1 3 0 (a0.n : Int)).c)), (14, .int .i64 s47), (80, .bool (decide (s47 < 8)))] ⟨rfl, rfl, rfl, rfl, rfl, rfl, trivial⟩ (fun f1 => ?_)
        refine wk_then ?_
        refine wc_cond rfl h (fun h => ?_) (fun h => ?_)
        · refine wc_skip ?_
          refine wk_prune [(0, .slice a0.a a0.n a0.c), (1, .int .i16 a1), (7, .slice s15.1.a s15.1.n s15.1.c), (9, .slice ((slS s15.1 3 0 (a0.n : Int)).a) ((slS s15.1 3 0 (a0.n : Int)).n) ((slS s15.1 3 0 (a0.n : Int)).c)), (14, .int .i64 s47)] ⟨rfl, rfl, rfl, rfl, rfl, trivial⟩ (fun f1 => ?_)
          refine wk_then ?_
          refine wc_seq ?_
          refine wc_block ?_
          refine wc_seq ?_
          refine wc_region ?_
          refine wl_val (at_move rfl) rfl ?_
          refine wl_val (at_move rfl) rfl ?_
          refine wl_val (at_lenL Try.underlying25 rfl) rfl ?_
          refine wl_val (at_move rfl) rfl ?_
          refine wl_val (at_add rfl rfl) rfl ?_
          obtain ⟨q51, q52, p53, q54, h⟩ := h
          refine wl_val (at_ixAddrL Try.underlying25 sz42 (sl_some q54) rfl q51 q52) rfl ?_
          obtain ⟨x55, x56, x57, q58, h⟩ := h
          refine wl_val (at_loadA (cs := (c42 x55 x56 x57)) Try.underlying42 rfl (by rw [len42]; exact sz42) rfl q58) rfl ?_
          refine wl_val (at_move rfl) rfl ?_
          refine wl_val (at_conv Try.underlying3 Try.underlying40 rfl) rfl ?_
          refine wl_val (at_build (cs := (c42 99 0 (IntKind.wrap .u16 s47))) (ps := [(0, .int .u8 99), (2, .int .u16 (IntKind.wrap .u16 s47))]) rfl (fun w => by simp [Instr.build, Instr.fill, go_sem, Try.underlying42, z42])) rfl ?_
          refine wl_val (at_neqA (xs := (c42 x55 x56 x57)) (ys := (c42 99 0 (IntKind.wrap .u16 s47))) rfl rfl (by kernel_rfl) (eqv_struct Try.underlying42 (by kernel_rfl) (eqf_cons rfl (pt_one (v := .int .u8 x55) Try.underlying5 rfl rfl) (pt_one (v := .int .u8 99) Try.underlying5 rfl rfl) (eqv_int Try.underlying5) (eqf_cons rfl (pt_one (v := .int .i8 x56) Try.underlying39 rfl rfl) (pt_one (v := .int .i8 0) Try.underlying39 rfl rfl) (eqv_int Try.underlying39) (eqf_last rfl (pt_one (v := .int .u16 x57) Try.underlying40 rfl rfl) (pt_one (v := .int .u16 (IntKind.wrap .u16 s47)) Try.underlying40 rfl rfl) (eqv_int Try.underlying40)))))) rfl ?_
          refine wl_nil ?_
          refine wk_prune [(0, .slice a0.a a0.n a0.c), (1, .int .i16 a1), (7, .slice s15.1.a s15.1.n s15.1.c), (9, .slice ((slS s15.1 3 0 (a0.n : Int)).a) ((slS s15.1 3 0 (a0.n : Int)).n) ((slS s15.1 3 0 (a0.n : Int)).c)), (14, .int .i64 s47), (93, .bool (!((x55 == 99) && ((x56 == 0) && (x57 == (IntKind.wrap .u16 s47))))))] ⟨rfl, rfl, rfl, rfl, rfl, rfl, trivial⟩ (fun f1 => ?_)
          refine wk_then ?_
          refine wc_cond rfl h (fun h => ?_) (fun h => ?_)
          · refine wc_seq ?_
            refine wc_region ?_
            refine wl_val (at_assign rfl) rfl ?_
            refine wl_nil ?_
            refine wk_prune [(4, .bool false)] ⟨rfl, trivial⟩ (fun f1 => ?_)
            refine wk_then ?_
            refine wc_ret ?_
            refine wk_blkR ?_
            refine wk_thenR ?_
            refine wk_thenR ?_
            refine wk_blkR ?_
            refine wk_thenR ?_
            exact wk_ret1 (x := false) rfl (by decide) rfl so h
          · refine wc_skip ?_
            refine wk_blkN ?_
            refine wk_prune [(0, .slice a0.a a0.n a0.c), (1, .int .i16 a1), (7, .slice s15.1.a s15.1.n s15.1.c), (9, .slice ((slS s15.1 3 0 (a0.n : Int)).a) ((slS s15.1 3 0 (a0.n : Int)).n) ((slS s15.1 3 0 (a0.n : Int)).c)), (14, .int .i64 s47)] ⟨rfl, rfl, rfl, rfl, rfl, trivial⟩ (fun f1 => ?_)
            refine wk_then ?_
            refine wc_region ?_
            refine wl_val (at_move rfl) rfl ?_
            refine wl_val (at_add rfl rfl) rfl ?_
            refine wl_val (at_assign rfl) rfl ?_
            refine wl_nil ?_
            exact wk_again ⟨((IntKind.wrap .i64 (s47 + 1))), _, ac_again ⟨rfl, rfl, rfl, rfl, rfl, trivial⟩, so, h⟩
        · refine wc_exit ?_
          refine wk_thenE ?_
          refine wk_thenE ?_
          refine wk_blkE ?_
          refine wk_prune [(0, .slice a0.a a0.n a0.c), (1, .int .i16 a1), (9, .slice ((slS s15.1 3 0 (a0.n : Int)).a) ((slS s15.1 3 0 (a0.n : Int)).n) ((slS s15.1 3 0 (a0.n : Int)).c))] ⟨rfl, rfl, rfl, trivial⟩ (fun f1 => ?_)
          refine wk_then ?_
          refine wc_seq ?_
          refine wc_seq ?_
          refine wc_region ?_
          refine wl_val (at_assign rfl) rfl ?_
          refine wl_nil ?_
          refine wk_prune [(0, .slice a0.a a0.n a0.c), (1, .int .i16 a1), (9, .slice ((slS s15.1 3 0 (a0.n : Int)).a) ((slS s15.1 3 0 (a0.n : Int)).n) ((slS s15.1 3 0 (a0.n : Int)).c)), (15, .int .i64 0)] ⟨rfl, rfl, rfl, rfl, trivial⟩ (fun f1 => ?_)
          refine wk_then ?_
          refine wc_block ?_
          obtain ⟨k59, h⟩ := h
          refine wc_loop (fun k a w => ∃ (s61 : Int) (f1 : Nat → Value), a = ac 131 (en f1 [(0, .slice a0.a a0.n a0.c), (1, .int .i16 a1), (9, .slice ((slS s15.1 3 0 (a0.n : Int)).a) ((slS s15.1 3 0 (a0.n : Int)).n) ((slS s15.1 3 0 (a0.n : Int)).c)), (15, .int .i64 s61)]) [] ∧ Sm w0 w ∧ Fix _ k s61 w.heap) k59 ⟨(0), _, ac_again ⟨rfl, rfl, rfl, rfl, trivial⟩, so, h⟩ ?_
          rintro k60 a63 w62 ⟨s61, f1, rfl, so, h⟩
          rcases k60 with _ | k60
          · exact h.elim
          replace h := Fix.un h; refine wc_in ?_
          refine wc_seq ?_
          refine wc_seq ?_
          refine wc_region ?_
          refine wl_val (at_move rfl) rfl ?_
          refine wl_val (at_move rfl) rfl ?_
          refine wl_val (at_lenL Try.underlying25 rfl) rfl ?_
          refine wl_val (at_lss rfl rfl) rfl ?_
          refine wl_nil ?_
          refine wk_prune [(0, .slice a0.a a0.n a0.c), (1, .int .i16 a1), (9, .slice ((slS s15.1 3 0 (a0.n : Int)).a) ((slS s15.1 3 0 (a0.n : Int)).n) ((slS s15.1 3 0 (a0.n : Int)).c)), (15, .int .i64 s61), (97, .bool (decide (s61 < ((slS s15.1 3 0 (a0.n : Int)).n : Int))))] ⟨rfl, rfl, rfl, rfl, rfl, trivial⟩ (fun f1 => ?_)
          refine wk_then ?_
          refine wc_cond rfl h (fun h => ?_) (fun h => ?_)
          · refine wc_skip ?_
            refine wk_prune [(0, .slice a0.a a0.n a0.c), (1, .int .i16 a1), (9, .slice ((slS s15.1 3 0 (a0.n : Int)).a) ((slS s15.1 3 0 (a0.n : Int)).n) ((slS s15.1 3 0 (a0.n : Int)).c)), (15, .int .i64 s61)] ⟨rfl, rfl, rfl, rfl, trivial⟩ (fun f1 => ?_)
            refine wk_then ?_
            refine wc_seq ?_
            refine wc_block ?_
            refine wc_region ?_
            refine wl_val (at_move rfl) rfl ?_
            refine wl_val (at_move rfl) rfl ?_
            refine wl_val (at_move rfl) rfl ?_
            refine wl_val (at_move rfl) rfl ?_
            refine wl_val (at_lenL Try.underlying25 rfl) rfl ?_
            refine wl_val (at_sub rfl rfl) rfl ?_
            refine wl_val (at_move rfl) rfl ?_
            refine wl_val (at_sub rfl rfl) rfl ?_
            obtain ⟨q65, q66, p67, q68, h⟩ := h
            refine wl_val (at_ixAddrL Try.underlying25 sz42 (sl_some q68) rfl q65 q66) rfl ?_
            obtain ⟨x69, x70, x71, q72, h⟩ := h
            refine wl_val (at_loadA (cs := (c42 x69 x70 x71)) Try.underlying42 rfl (by rw [len42]; exact sz42) rfl q72) rfl ?_
            obtain ⟨q73, q74, p75, q76, h⟩ := h
            refine wl_val (at_ixAddrL Try.underlying25 sz42 (sl_some q76) rfl q73 q74) rfl ?_
            refine wl_stA h rfl so (fun q => ef_storeA (by rw [len42]; exact sz42) rfl rfl (one42 _ _ _) q) ?_; intro w77 h so
            refine wl_nil ?_
            refine wk_blkN ?_
            refine wk_prune [(0, .slice a0.a a0.n a0.c), (1, .int .i16 a1), (9, .slice ((slS s15.1 3 0 (a0.n : Int)).a) ((slS s15.1 3 0 (a0.n : Int)).n) ((slS s15.1 3 0 (a0.n : Int)).c)), (15, .int .i64 s61)] ⟨rfl, rfl, rfl, rfl, trivial⟩ (fun f1 => ?_)
            refine wk_then ?_
            refine wc_region ?_
            refine wl_val (at_move rfl) rfl ?_
            refine wl_val (at_add rfl rfl) rfl ?_
            refine wl_val (at_assign rfl) rfl ?_
            refine wl_nil ?_
            exact wk_again ⟨((IntKind.wrap .i64 (s61 + 1))), _, ac_again ⟨rfl, rfl, rfl, rfl, trivial⟩, so, h⟩
          · refine wc_exit ?_
            refine wk_thenE ?_
            refine wk_thenE ?_
            refine wk_blkE ?_
            refine wk_prune [(1, .int .i16 a1), (9, .slice ((slS s15.1 3 0 (a0.n : Int)).a) ((slS s15.1 3 0 (a0.n : Int)).n) ((slS s15.1 3 0 (a0.n : Int)).c))] ⟨rfl, rfl, trivial⟩ (fun f1 => ?_)
            refine wk_then ?_
            refine wc_seq ?_
            refine wc_region ?_
            refine wl_val (at_move rfl) rfl ?_
            refine wl_val (at_move rfl) rfl ?_
            refine wl_callF (mosaicref07_Block.calls _ _ _ _ h) enter20 rfl trivial so ?_; intro x78 w79 h so
            refine wl_val (at_move rfl) rfl ?_
            refine wl_val (at_extract rfl rfl) rfl ?_
            refine wl_val (at_extract rfl rfl) rfl ?_
            refine wl_newT (T := 24) (cs := (c24 (zInts 64))) (ef_alloc zero24 rfl) rfl so ?_; intro b80 w81 hb_b80 t_b80 k_b80 so
            have g_b80 := Nat.le_of_eq hb_b80.symm
            have hc := k_b80.ch (F := [])
            refine wl_stWT (vs := (c24 x78.1)) t_b80 (by first | (rw [len24, len24]) | (rw [len24]) | rfl) rfl so (fun q => ef_storeA (p := (⟨b80, 0, none⟩ : Addr)) (cs := (c24 x78.1)) (by rw [len24]; exact sz24) rfl rfl (one24 _) q) ?_; intro w82 t_b80 s_w82 so
            replace hc := ch_same hc s_w82 (.inr g_b80)
            refine wl_val (at_assign rfl) rfl ?_
            refine wl_nil ?_
            refine wk_prune [(1, .int .i16 a1), (9, .slice ((slS s15.1 3 0 (a0.n : Int)).a) ((slS s15.1 3 0 (a0.n : Int)).n) ((slS s15.1 3 0 (a0.n : Int)).c)), (16, .pointer (some (⟨b80, 0, none⟩ : Addr))), (17, .int .i64 x78.2)] ⟨rfl, rfl, rfl, rfl, trivial⟩ (fun f1 => ?_)
            refine wk_then ?_
            refine wc_seq ?_
            refine wc_region ?_
            refine wl_val (at_move rfl) rfl ?_
            refine wl_val (at_move rfl) rfl ?_
            replace h := h b80 _ hc g_b80 t_b80.lt; clear hc
            refine wl_callF (runs_Block.calls _ _ _ _ h) enter21 rfl trivial so ?_; intro x83 w84 h so
            obtain ⟨q85, h⟩ := h
            replace t_b80 := pv_bk q85 t_b80 (by simp)
            refine wl_val (at_move rfl) rfl ?_
            refine wl_val (at_extract rfl rfl) rfl ?_
            refine wl_val (at_extract rfl rfl) rfl ?_
            refine wl_newT (T := 24) (cs := (c24 (zInts 64))) (ef_alloc zero24 rfl) rfl so ?_; intro b86 w87 hb_b86 t_b86 k_b86 so
            have g_b86 := Nat.le_of_eq hb_b86.symm
            have hc := k_b86.ch (F := [])
            have n_b80_b86 : b80 ≠ b86 := fun e => by have := t_b80.lt; omega
            replace t_b80 := t_b80.keep k_b86
            refine wl_stWT (vs := (c24 x83.1)) t_b86 (by first | (rw [len24, len24]) | (rw [len24]) | rfl) rfl so (fun q => ef_storeA (p := (⟨b86, 0, none⟩ : Addr)) (cs := (c24 x83.1)) (by rw [len24]; exact sz24) rfl rfl (one24 _) q) ?_; intro w88 t_b86 s_w88 so
            replace t_b80 := t_b80.same s_w88 (n_b80_b86)
            replace hc := ch_same hc s_w88 (.inr g_b86)
            refine wl_val (at_assign rfl) rfl ?_
            refine wl_nil ?_
            refine wk_prune [(16, .pointer (some (⟨b80, 0, none⟩ : Addr))), (17, .int .i64 x78.2), (18, .pointer (some (⟨b86, 0, none⟩ : Addr))), (19, .int .i64 x83.2)] ⟨rfl, rfl, rfl, rfl, trivial⟩ (fun f1 => ?_)
            refine wk_then ?_
            refine wc_seq ?_
            refine wc_region ?_
            refine wl_val (at_loadA (cs := (c24 x83.1)) Try.underlying24 rfl (by rw [len24]; exact sz24) rfl (ldA_full t_b86)) rfl ?_
            refine wl_val (at_loadA (cs := (c24 x78.1)) Try.underlying24 rfl (by rw [len24]; exact sz24) rfl (ldA_full t_b80)) rfl ?_
            refine wl_val (at_eqlA (xs := (c24 x83.1)) (ys := (c24 x78.1)) rfl rfl (by kernel_rfl) (eqv_ints Try.underlying24 Try.underlying22 sz22)) rfl ?_
            refine wl_val (at_move rfl) rfl ?_
            replace h := h b86 _ hc g_b86 t_b86.lt; clear hc
            refine bif_ h (fun hb h => ?_) (fun hb h => ?_)
            · refine wl_set (t := 126) (v := .bool true) (congrArg Value.bool hb) ?_; clear hb
              refine wl_on (t := 126) rfl (by decide) rfl ?_
              refine wl_val (at_move rfl) rfl ?_
              refine wl_on (t := 126) rfl (by decide) rfl ?_
              refine wl_val (at_move rfl) rfl ?_
              refine wl_on (t := 126) rfl (by decide) rfl ?_
              refine wl_val (at_eql rfl rfl) rfl ?_
              refine wl_val (at_pick_t rfl rfl) rfl ?_
              refine wl_val (at_assign rfl) rfl ?_
              refine wl_nil ?_
              refine wk_prune [(4, .bool (x83.2 == x78.2))] ⟨rfl, trivial⟩ (fun f1 => ?_)
              refine wk_then ?_
              refine wc_ret ?_
              exact wk_ret1 (x := (x83.2 == x78.2)) rfl (by decide) rfl so h
            · refine wl_set (t := 126) (v := .bool false) (congrArg Value.bool hb) ?_; clear hb
              refine wl_off (t := 126) rfl (by decide) rfl ?_
              refine wl_off (t := 126) rfl (by decide) rfl ?_
              refine wl_off (t := 126) rfl (by decide) rfl ?_
              refine wl_val (at_pick_f rfl rfl) rfl ?_
              refine wl_val (at_assign rfl) rfl ?_
              refine wl_nil ?_
              refine wk_prune [(4, .bool false)] ⟨rfl, trivial⟩ (fun f1 => ?_)
              refine wk_then ?_
              refine wc_ret ?_
              exact wk_ret1 (x := false) rfl (by decide) rfl so h
    · intro J42 h hJ42
      refine wc_region ?_
      refine wl_val (at_loadA (cs := (c24 x30.1)) Try.underlying24 rfl (by rw [len24]; exact sz24) rfl (ldA_full t_b33)) rfl ?_
      refine wl_val (at_loadA (cs := (c24 x1.1)) Try.underlying24 rfl (by rw [len24]; exact sz24) rfl (ldA_full t_b3)) rfl ?_
      refine wl_val (at_neqA (xs := (c24 x30.1)) (ys := (c24 x1.1)) rfl rfl (by kernel_rfl) (eqv_ints Try.underlying24 Try.underlying22 sz22)) rfl ?_
      refine wl_val (at_move rfl) rfl ?_
      refine bif_ h (fun hb h => ?_) (fun hb h => ?_)
      · refine wl_set (t := 58) (v := .bool true) (congrArg Value.bool hb) ?_; clear hb
        refine wl_off (t := 58) rfl (by decide) rfl ?_
        refine wl_off (t := 58) rfl (by decide) rfl ?_
        refine wl_off (t := 58) rfl (by decide) rfl ?_
        refine wl_val (at_pick_t rfl rfl) rfl ?_
        refine wl_val (at_move rfl) rfl ?_
        refine wl_off (t := 63) rfl (by decide) rfl ?_
        refine wl_off (t := 63) rfl (by decide) rfl ?_
        refine wl_off (t := 63) rfl (by decide) rfl ?_
        refine wl_val (at_pick_t rfl rfl) rfl ?_
        refine wl_val (at_move rfl) rfl ?_
        refine wl_off (t := 68) rfl (by decide) rfl ?_
        refine wl_off (t := 68) rfl (by decide) rfl ?_
        refine wl_off (t := 68) rfl (by decide) rfl ?_
        refine wl_val (at_pick_t rfl rfl) rfl ?_
        refine wl_val (at_move rfl) rfl ?_
        refine wl_off (t := 73) rfl (by decide) rfl ?_
        refine wl_off (t := 73) rfl (by decide) rfl ?_
        refine wl_off (t := 73) rfl (by decide) rfl ?_
        refine wl_off (t := 73) rfl (by decide) rfl ?_
        refine wl_val (at_pick_t rfl rfl) rfl ?_
        refine wl_nil ?_
        exact wk_prune [(0, .slice a0.a a0.n a0.c), (1, .int .i16 a1), (7, .slice s15.1.a s15.1.n s15.1.c), (9, .slice ((slS s15.1 3 0 (a0.n : Int)).a) ((slS s15.1 3 0 (a0.n : Int)).n) ((slS s15.1 3 0 (a0.n : Int)).c)), (78, .bool true)] ⟨rfl, rfl, rfl, rfl, rfl, trivial⟩ (fun f1 => hJ42 (true) _ f1 h so)
      · refine wl_set (t := 58) (v := .bool false) (congrArg Value.bool hb) ?_; clear hb
        refine wl_on (t := 58) rfl (by decide) rfl ?_
        refine wl_val (at_move rfl) rfl ?_
        refine wl_on (t := 58) rfl (by decide) rfl ?_
        refine wl_val (at_move rfl) rfl ?_
        refine wl_on (t := 58) rfl (by decide) rfl ?_
        refine wl_val (at_neq rfl rfl) rfl ?_
        refine wl_val (at_pick_f rfl rfl) rfl ?_
        refine wl_val (at_move rfl) rfl ?_
        refine bif_ h (fun hb h => ?_) (fun hb h => ?_)
        · refine wl_set (t := 63) (v := .bool true) (congrArg Value.bool hb) ?_; clear hb
          refine wl_off (t := 63) rfl (by decide) rfl ?_
          refine wl_off (t := 63) rfl (by decide) rfl ?_
          refine wl_off (t := 63) rfl (by decide) rfl ?_
          refine wl_val (at_pick_t rfl rfl) rfl ?_
          refine wl_val (at_move rfl) rfl ?_
          refine wl_off (t := 68) rfl (by decide) rfl ?_
          refine wl_off (t := 68) rfl (by decide) rfl ?_
          refine wl_off (t := 68) rfl (by decide) rfl ?_
          refine wl_val (at_pick_t rfl rfl) rfl ?_
          refine wl_val (at_move rfl) rfl ?_
          refine wl_off (t := 73) rfl (by decide) rfl ?_
          refine wl_off (t := 73) rfl (by decide) rfl ?_
          refine wl_off (t := 73) rfl (by decide) rfl ?_
          refine wl_off (t := 73) rfl (by decide) rfl ?_
          refine wl_val (at_pick_t rfl rfl) rfl ?_
          refine wl_nil ?_
          exact wk_prune [(0, .slice a0.a a0.n a0.c), (1, .int .i16 a1), (7, .slice s15.1.a s15.1.n s15.1.c), (9, .slice ((slS s15.1 3 0 (a0.n : Int)).a) ((slS s15.1 3 0 (a0.n : Int)).n) ((slS s15.1 3 0 (a0.n : Int)).c)), (78, .bool true)] ⟨rfl, rfl, rfl, rfl, rfl, trivial⟩ (fun f1 => hJ42 (true) _ f1 h so)
        · refine wl_set (t := 63) (v := .bool false) (congrArg Value.bool hb) ?_; clear hb
          refine wl_on (t := 63) rfl (by decide) rfl ?_
          refine wl_val (at_loadA (cs := (c24 x36.1)) Try.underlying24 rfl (by rw [len24]; exact sz24) rfl (ldA_full t_b39)) rfl ?_
          refine wl_on (t := 63) rfl (by decide) rfl ?_
          refine wl_val (at_loadA (cs := (c24 x1.1)) Try.underlying24 rfl (by rw [len24]; exact sz24) rfl (ldA_full t_b3)) rfl ?_
          refine wl_on (t := 63) rfl (by decide) rfl ?_
          refine wl_val (at_neqA (xs := (c24 x36.1)) (ys := (c24 x1.1)) rfl rfl (by kernel_rfl) (eqv_ints Try.underlying24 Try.underlying22 sz22)) rfl ?_
          refine wl_val (at_pick_f rfl rfl) rfl ?_
          refine wl_val (at_move rfl) rfl ?_
          refine bif_ h (fun hb h => ?_) (fun hb h => ?_)
          · refine wl_set (t := 68) (v := .bool true) (congrArg Value.bool hb) ?_; clear hb
            refine wl_off (t := 68) rfl (by decide) rfl ?_
            refine wl_off (t := 68) rfl (by decide) rfl ?_
            refine wl_off (t := 68) rfl (by decide) rfl ?_
            refine wl_val (at_pick_t rfl rfl) rfl ?_
            refine wl_val (at_move rfl) rfl ?_
            refine wl_off (t := 73) rfl (by decide) rfl ?_
            refine wl_off (t := 73) rfl (by decide) rfl ?_
            refine wl_off (t := 73) rfl (by decide) rfl ?_
            refine wl_off (t := 73) rfl (by decide) rfl ?_
            refine wl_val (at_pick_t rfl rfl) rfl ?_
            refine wl_nil ?_
            exact wk_prune [(0, .slice a0.a a0.n a0.c), (1, .int .i16 a1), (7, .slice s15.1.a s15.1.n s15.1.c), (9, .slice ((slS s15.1 3 0 (a0.n : Int)).a) ((slS s15.1 3 0 (a0.n : Int)).n) ((slS s15.1 3 0 (a0.n : Int)).c)), (78, .bool true)] ⟨rfl, rfl, rfl, rfl, rfl, trivial⟩ (fun f1 => hJ42 (true) _ f1 h so)
          · refine wl_set (t := 68) (v := .bool false) (congrArg Value.bool hb) ?_; clear hb
            refine wl_on (t := 68) rfl (by decide) rfl ?_
            refine wl_val (at_move rfl) rfl ?_
            refine wl_on (t := 68) rfl (by decide) rfl ?_
            refine wl_val (at_move rfl) rfl ?_
            refine wl_on (t := 68) rfl (by decide) rfl ?_
            refine wl_val (at_neq rfl rfl) rfl ?_
            refine wl_val (at_pick_f rfl rfl) rfl ?_
            refine wl_val (at_move rfl) rfl ?_
            refine bif_ h (fun hb h => ?_) (fun hb h => ?_)
            · refine wl_set (t := 73) (v := .bool true) (congrArg Value.bool hb) ?_; clear hb
              refine wl_off (t := 73) rfl (by decide) rfl ?_
              refine wl_off (t := 73) rfl (by decide) rfl ?_
              refine wl_off (t := 73) rfl (by decide) rfl ?_
              refine wl_off (t := 73) rfl (by decide) rfl ?_
              refine wl_val (at_pick_t rfl rfl) rfl ?_
              refine wl_nil ?_
              exact wk_prune [(0, .slice a0.a a0.n a0.c), (1, .int .i16 a1), (7, .slice s15.1.a s15.1.n s15.1.c), (9, .slice ((slS s15.1 3 0 (a0.n : Int)).a) ((slS s15.1 3 0 (a0.n : Int)).n) ((slS s15.1 3 0 (a0.n : Int)).c)), (78, .bool true)] ⟨rfl, rfl, rfl, rfl, rfl, trivial⟩ (fun f1 => hJ42 (true) _ f1 h so)
            · refine wl_set (t := 73) (v := .bool false) (congrArg Value.bool hb) ?_; clear hb
              refine wl_on (t := 73) rfl (by decide) rfl ?_
              refine wl_val (at_move rfl) rfl ?_
              refine wl_on (t := 73) rfl (by decide) rfl ?_
              refine wl_val (at_move rfl) rfl ?_
              refine wl_on (t := 73) rfl (by decide) rfl ?_
              refine wl_callF (mosaicref07_Same.calls _ _ _ _ h) enter13 rfl trivial so ?_; intro x89 w90 h so
              refine wl_on (t := 73) rfl (by decide) rfl ?_
              refine wl_val (at_not rfl) rfl ?_
              refine wl_val (at_pick_f rfl rfl) rfl ?_
              refine wl_nil ?_
              exact wk_prune [(0, .slice a0.a a0.n a0.c), (1, .int .i16 a1), (7, .slice s15.1.a s15.1.n s15.1.c), (9, .slice ((slS s15.1 3 0 (a0.n : Int)).a) ((slS s15.1 3 0 (a0.n : Int)).n) ((slS s15.1 3 0 (a0.n : Int)).c)), (78, .bool (!x89))] ⟨rfl, rfl, rfl, rfl, rfl, trivial⟩ (fun f1 => hJ42 ((!x89)) _ f1 h so)
end Go.Proofs.Ythblohaffipkhaa.G
