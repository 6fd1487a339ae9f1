import Derived.Test.YthblohaffipkhaaGF
import Derived.Test.YthblohaffipkhaaKmosaiclaw07
import Derived.Test.YthblohaffipkhaaKmosaicref07
import Derived.Test.YthblohaffipkhaaKruns
namespace Go.Proofs.Ythblohaffipkhaa.G
open Go.RowKit
set_option linter.unusedVariables false
set_option linter.unusedSimpArgs false
/-- mosaic/mosaiclaw07.RunsSymbols -/
def mosaiclaw07_RunsSymbols.enc : Bool → Value := fun r => .bool r
def mosaiclaw07_RunsSymbols.s (a0_0 : Ints 64) (a1 : Int) (a2_0 : Ints 64) (a3 : Int) (H0 : Hp) (Q : Bool → Hp → Prop) : Prop :=
  Gn [] H0 (fun (b1 : Nat) (H2 : Hp) => Gn [] H2 (fun (b3 : Nat) (H4 : Hp) => mosaicref07_Symbols.s a0_0 a1 H4 (fun x5 H6 => Pv [b1, b3] H4 H6 ∧ (mosaicref07_Symbols.s a2_0 a3 H6 (fun x8 H9 => Pv [b1, b3] H6 H9 ∧ (∃ k11, Fix (fun (rec16 : (Sl × Sl × Int) → Hp → Prop) (s13 : Sl × Sl × Int) (H14 : Hp) => if decide (s13.2.2 < 6) = true then (Gn [] H14 (fun (b17 : Nat) (H19 : Hp) => Bk H19 b17 24 (c24 a0_0) → (Join (fun (s21 : Int × Sl × Int) (H22 : Hp) => ∃ x23 : Ints 64, ldA H22 (⟨b17, 0, none⟩ : Addr) (c24 x23) ∧ (runs_Symbols.s x23 s21.1 H22 (fun x25 H26 => Pv [b1, b3] H22 H26 ∧ (if (x25.2 != s21.2.2) = true then (Q false H26) else (nw H26 25 [.slice x25.1.a x25.1.n x25.1.c] (fun p28 H29 => Pv [b1, b3] H26 H29 ∧ (apS H29 s13.1 25 1 24 z25.cells 1 [.slice x25.1.a x25.1.n x25.1.c] (fun l34 H35 => Pv [b1, b3] H29 H35 ∧ (nw H35 25 [.slice s21.2.1.a s21.2.1.n s21.2.1.c] (fun p37 H38 => Pv [b1, b3] H35 H38 ∧ (apS H38 s13.2.1 25 1 24 z25.cells 1 [.slice s21.2.1.a s21.2.1.n s21.2.1.c] (fun l43 H44 => Pv [b1, b3] H38 H44 ∧ (rec16 (l34, l43, (IntKind.wrap .i64 (s13.2.2 + 1))) H44))))))))))))) (fun (J20 : (Int × Sl × Int) → Hp → Prop) => Join (fun (s47 : Bool) (H48 : Hp) => if s47 = true then (stA H48 (⟨b17, 0, none⟩ : Addr) (c24 a2_0) (fun H49 => Pv [b1, b3] H48 H49 ∧ (J20 (a3, x8.1, x8.2) H49))) else (J20 (a1, x5.1, x5.2) H48)) (fun (J46 : Bool → Hp → Prop) => if (s13.2.2 == 2) = true then (J46 (true) H19) else (J46 ((s13.2.2 == 3)) H19)))))) else (mosaiclaw07_apart.s s13.1 s13.2.1 H14 (fun x51 H52 => Pv [b1] H14 H52 ∧ (runs_Symbols.s a0_0 a1 H52 (fun x54 H55 => if x51 = true then (if (x54.2 == x5.2) = true then (mosaicref07_Same.s x54.1 x5.1 H55 (fun x56 H57 => Q x56 H57)) else (Q false H55)) else (Q false H55)))))) k11 (⟨none, 0, 0⟩, ⟨none, 0, 0⟩, 0) H9))))))
set_option maxRecDepth 20000 in
set_option maxHeartbeats 4000000 in
theorem mosaiclaw07_RunsSymbols.calls (a0_0 : Ints 64) (a1 : Int) (a2_0 : Ints 64) (a3 : Int) (w0 : World) (Q : Bool → Hp → Prop) (h : mosaiclaw07_RunsSymbols.s a0_0 a1 a2_0 a3 w0.heap Q) :
    Ca Try.prog 3 #[.agg (c24 a0_0).toArray, .int .i16 a1, .agg (c24 a2_0).toArray, .int .i16 a3] w0 (Rt mosaiclaw07_RunsSymbols.enc Q w0) := by
  refine ca_start (c := _) Try.func3 rfl Try.ntmps3 rfl ?_
  have so : Sm w0 w0 := Sm.refl w0
  unfold mosaiclaw07_RunsSymbols.s at h
  refine wc_prune [(0, .agg (c24 a0_0).toArray), (1, .int .i16 a1), (2, .agg (c24 a2_0).toArray), (3, .int .i16 a3)] ⟨rfl, rfl, rfl, rfl, trivial⟩ (fun f1 => ?_)
  refine wc_seq ?_
  refine wc_region ?_
  refine wl_newT (T := 24) (cs := (c24 a0_0)) (ef_box rfl rfl) rfl so ?_; intro b1 w2 hb_b1 t_b1 k_b1 so
  have g_b1 := Nat.le_of_eq hb_b1.symm
  have hc := k_b1.ch (F := [])
  replace h := h b1 _ hc g_b1 t_b1.lt; clear hc
  refine wl_newT (T := 24) (cs := (c24 a2_0)) (ef_box rfl rfl) rfl so ?_; intro b3 w4 hb_b3 t_b3 k_b3 so
  have g_b3 := Nat.le_of_eq hb_b3.symm
  have hc := k_b3.ch (F := [])
  have n_b1_b3 : b1 ≠ b3 := fun e => by have := t_b1.lt; omega
  replace t_b1 := t_b1.keep k_b3
  refine wl_val (at_assign rfl) rfl ?_
  refine wl_nil ?_
  refine wk_prune [(1, .int .i16 a1), (3, .int .i16 a3), (4, .pointer (some (⟨b1, 0, none⟩ : Addr))), (6, .pointer (some (⟨b3, 0, none⟩ : Addr)))] ⟨rfl, rfl, rfl, rfl, trivial⟩ (fun f1 => ?_)
  refine wk_then ?_
  refine wc_seq ?_
  refine wc_region ?_
  refine wl_val (at_loadA (cs := (c24 a0_0)) Try.underlying24 rfl (by rw [len24]; exact sz24) rfl (ldA_full t_b1)) rfl ?_
  refine wl_val (at_move rfl) rfl ?_
  replace h := h b3 _ hc g_b3 t_b3.lt; clear hc
  refine wl_callF (mosaicref07_Symbols.calls _ _ _ _ h) enter10 rfl trivial so ?_; intro x5 w6 h so
  obtain ⟨q7, h⟩ := h
  replace t_b1 := pv_bk q7 t_b1 (by simp)
  replace t_b3 := pv_bk q7 t_b3 (by simp)
  refine wl_val (at_move rfl) rfl ?_
  refine wl_val (at_extract rfl rfl) rfl ?_
  refine wl_val (at_extract rfl rfl) rfl ?_
  refine wl_val (at_assign rfl) rfl ?_
  refine wl_val (at_assign rfl) rfl ?_
  refine wl_nil ?_
  refine wk_prune [(1, .int .i16 a1), (3, .int .i16 a3), (4, .pointer (some (⟨b1, 0, none⟩ : Addr))), (6, .pointer (some (⟨b3, 0, none⟩ : Addr))), (9, .slice x5.1.a x5.1.n x5.1.c), (10, .int .i64 x5.2)] ⟨rfl, rfl, rfl, rfl, rfl, rfl, trivial⟩ (fun f1 => ?_)
  refine wk_then ?_
  refine wc_seq ?_
  refine wc_region ?_
  refine wl_val (at_loadA (cs := (c24 a2_0)) Try.underlying24 rfl (by rw [len24]; exact sz24) rfl (ldA_full t_b3)) rfl ?_
  refine wl_val (at_move rfl) rfl ?_
  refine wl_callF (mosaicref07_Symbols.calls _ _ _ _ h) enter10 rfl trivial so ?_; intro x8 w9 h so
  obtain ⟨q10, h⟩ := h
  replace t_b1 := pv_bk q10 t_b1 (by simp)
  replace t_b3 := pv_bk q10 t_b3 (by simp)
  refine wl_val (at_move rfl) rfl ?_
  refine wl_val (at_extract rfl rfl) rfl ?_
  refine wl_val (at_extract rfl rfl) rfl ?_
  refine wl_val (at_assign rfl) rfl ?_
  refine wl_val (at_assign rfl) rfl ?_
  refine wl_nil ?_
  refine wk_prune [(1, .int .i16 a1), (3, .int .i16 a3), (4, .pointer (some (⟨b1, 0, none⟩ : Addr))), (6, .pointer (some (⟨b3, 0, none⟩ : Addr))), (9, .slice x5.1.a x5.1.n x5.1.c), (10, .int .i64 x5.2), (11, .slice x8.1.a x8.1.n x8.1.c), (12, .int .i64 x8.2)] ⟨rfl, rfl, rfl, rfl, rfl, rfl, rfl, rfl, trivial⟩ (fun f1 => ?_)
  refine wk_then ?_
  refine wc_seq ?_
  refine wc_region ?_
  refine wl_val (at_assign rfl) rfl ?_
  refine wl_nil ?_
  refine wk_prune [(1, .int .i16 a1), (3, .int .i16 a3), (4, .pointer (some (⟨b1, 0, none⟩ : Addr))), (6, .pointer (some (⟨b3, 0, none⟩ : Addr))), (9, .slice x5.1.a x5.1.n x5.1.c), (10, .int .i64 x5.2), (11, .slice x8.1.a x8.1.n x8.1.c), (12, .int .i64 x8.2), (13, .slice none 0 0)] ⟨rfl, rfl, rfl, rfl, rfl, rfl, rfl, rfl, rfl, trivial⟩ (fun f1 => ?_)
  refine wk_then ?_
  refine wc_seq ?_
  refine wc_region ?_
  refine wl_val (at_assign rfl) rfl ?_
  refine wl_nil ?_
  refine wk_prune [(1, .int .i16 a1), (3, .int .i16 a3), (4, .pointer (some (⟨b1, 0, none⟩ : Addr))), (6, .pointer (some (⟨b3, 0, none⟩ : Addr))), (9, .slice x5.1.a x5.1.n x5.1.c), (10, .int .i64 x5.2), (11, .slice x8.1.a x8.1.n x8.1.c), (12, .int .i64 x8.2), (13, .slice none 0 0), (14, .slice none 0 0)] ⟨rfl, rfl, rfl, rfl, rfl, rfl, rfl, rfl, rfl, rfl, trivial⟩ (fun f1 => ?_)
  refine wk_then ?_
  refine wc_seq ?_
  refine wc_seq ?_
  refine wc_region ?_
  refine wl_val (at_assign rfl) rfl ?_
  refine wl_nil ?_
  refine wk_prune [(1, .int .i16 a1), (3, .int .i16 a3), (4, .pointer (some (⟨b1, 0, none⟩ : Addr))), (6, .pointer (some (⟨b3, 0, none⟩ : Addr))), (9, .slice x5.1.a x5.1.n x5.1.c), (10, .int .i64 x5.2), (11, .slice x8.1.a x8.1.n x8.1.c), (12, .int .i64 x8.2), (13, .slice none 0 0), (14, .slice none 0 0), (15, .int .i64 0)] ⟨rfl, rfl, rfl, rfl, rfl, rfl, rfl, rfl, rfl, rfl, rfl, trivial⟩ (fun f1 => ?_)
  refine wk_then ?_
  refine wc_block ?_
  obtain ⟨k11, h⟩ := h
  refine wc_loop (fun k a w => ∃ (s13 : Sl × Sl × Int) (f1 : Nat → Value), a = ac 92 (en f1 [(1, .int .i16 a1), (3, .int .i16 a3), (4, .pointer (some (⟨b1, 0, none⟩ : Addr))), (6, .pointer (some (⟨b3, 0, none⟩ : Addr))), (9, .slice x5.1.a x5.1.n x5.1.c), (10, .int .i64 x5.2), (11, .slice x8.1.a x8.1.n x8.1.c), (12, .int .i64 x8.2), (13, .slice s13.1.a s13.1.n s13.1.c), (14, .slice s13.2.1.a s13.2.1.n s13.2.1.c), (15, .int .i64 s13.2.2)]) [] ∧ Sm w0 w ∧ (Bk w.heap b1 24 (c24 a0_0) ∧ Bk w.heap b3 24 (c24 a2_0) ∧ True) ∧ Fix _ k s13 w.heap) k11 ⟨(⟨none, 0, 0⟩, ⟨none, 0, 0⟩, 0), _, ac_again ⟨rfl, rfl, rfl, rfl, rfl, rfl, rfl, rfl, rfl, rfl, rfl, trivial⟩, so, ⟨t_b1, t_b3, trivial⟩, h⟩ ?_
  rintro k12 a15 w14 ⟨s13, f1, rfl, so, ⟨t_b1, t_b3, _⟩, h⟩
  rcases k12 with _ | k12
  · exact h.elim
  replace h := Fix.un h; refine wc_in ?_
  refine wc_seq ?_
  refine wc_seq ?_
  refine wc_region ?_
  refine wl_val (at_move rfl) rfl ?_
  refine wl_val (at_lss rfl rfl) rfl ?_
  refine wl_nil ?_
  refine wk_prune [(1, .int .i16 a1), (3, .int .i16 a3), (4, .pointer (some (⟨b1, 0, none⟩ : Addr))), (6, .pointer (some (⟨b3, 0, none⟩ : Addr))), (9, .slice x5.1.a x5.1.n x5.1.c), (10, .int .i64 x5.2), (11, .slice x8.1.a x8.1.n x8.1.c), (12, .int .i64 x8.2), (13, .slice s13.1.a s13.1.n s13.1.c), (14, .slice s13.2.1.a s13.2.1.n s13.2.1.c), (15, .int .i64 s13.2.2), (38, .bool (decide (s13.2.2 < 6)))] ⟨rfl, rfl, rfl, rfl, rfl, rfl, rfl, rfl, rfl, rfl, rfl, rfl, trivial⟩ (fun f1 => ?_)
  refine wk_then ?_
  refine wc_cond rfl h (fun h => ?_) (fun h => ?_)
  · refine wc_skip ?_
    refine wk_prune [(1, .int .i16 a1), (3, .int .i16 a3), (4, .pointer (some (⟨b1, 0, none⟩ : Addr))), (6, .pointer (some (⟨b3, 0, none⟩ : Addr))), (9, .slice x5.1.a x5.1.n x5.1.c), (10, .int .i64 x5.2), (11, .slice x8.1.a x8.1.n x8.1.c), (12, .int .i64 x8.2), (13, .slice s13.1.a s13.1.n s13.1.c), (14, .slice s13.2.1.a s13.2.1.n s13.2.1.c), (15, .int .i64 s13.2.2)] ⟨rfl, rfl, rfl, rfl, rfl, rfl, rfl, rfl, rfl, rfl, rfl, trivial⟩ (fun f1 => ?_)
    refine wk_then ?_
    refine wc_seq ?_
    refine wc_block ?_
    refine wc_seq ?_
    refine wc_region ?_
    refine wl_val (at_loadA (cs := (c24 a0_0)) Try.underlying24 rfl (by rw [len24]; exact sz24) rfl (ldA_full t_b1)) rfl ?_
    refine wl_val (at_move rfl) rfl ?_
    refine wl_val (at_move rfl) rfl ?_
    refine wl_val (at_move rfl) rfl ?_
    refine wl_newT (T := 24) (cs := (c24 (zInts 64))) (ef_alloc zero24 rfl) rfl so ?_; intro b17 w18 hb_b17 t_b17 k_b17 so
    have g_b17 := Nat.le_of_eq hb_b17.symm
    have hc := k_b17.ch (F := [])
    have n_b1_b17 : b1 ≠ b17 := fun e => by have := t_b1.lt; omega
    replace t_b1 := t_b1.keep k_b17
    have n_b3_b17 : b3 ≠ b17 := fun e => by have := t_b3.lt; omega
    replace t_b3 := t_b3.keep k_b17
    refine wl_stWT (vs := (c24 a0_0)) t_b17 (by first | (rw [len24, len24]) | (rw [len24]) | rfl) rfl so (fun q => ef_storeA (p := (⟨b17, 0, none⟩ : Addr)) (cs := (c24 a0_0)) (by rw [len24]; exact sz24) rfl rfl (one24 _) q) ?_; intro w19 t_b17 s_w19 so
    replace t_b1 := t_b1.same s_w19 (n_b1_b17)
    replace t_b3 := t_b3.same s_w19 (n_b3_b17)
    replace hc := ch_same hc s_w19 (.inr g_b17)
    refine wl_val (at_assign rfl) rfl ?_
    refine wl_val (at_assign rfl) rfl ?_
    refine wl_val (at_assign rfl) rfl ?_
    refine wl_nil ?_
    refine wk_prune [(1, .int .i16 a1), (3, .int .i16 a3), (4, .pointer (some (⟨b1, 0, none⟩ : Addr))), (6, .pointer (some (⟨b3, 0, none⟩ : Addr))), (9, .slice x5.1.a x5.1.n x5.1.c), (10, .int .i64 x5.2), (11, .slice x8.1.a x8.1.n x8.1.c), (12, .int .i64 x8.2), (13, .slice s13.1.a s13.1.n s13.1.c), (14, .slice s13.2.1.a s13.2.1.n s13.2.1.c), (15, .int .i64 s13.2.2), (16, .pointer (some (⟨b17, 0, none⟩ : Addr))), (17, .int .i16 a1), (18, .slice x5.1.a x5.1.n x5.1.c), (19, .int .i64 x5.2)] ⟨rfl, rfl, rfl, rfl, rfl, rfl, rfl, rfl, rfl, rfl, rfl, rfl, rfl, rfl, rfl, trivial⟩ (fun f1 => ?_)
    refine wk_then ?_
    replace h := h b17 _ hc g_b17 t_b17.lt; clear hc
    replace h := h t_b17
    refine wc_seq ?_
    refine wc_joinG (w0 := w0) (fun (H : Hp) => Bk H b1 24 (c24 a0_0) ∧ Bk H b3 24 (c24 a2_0) ∧ True) (fun (s21 : Int × Sl × Int) => [(1, .int .i16 a1), (3, .int .i16 a3), (4, .pointer (some (⟨b1, 0, none⟩ : Addr))), (6, .pointer (some (⟨b3, 0, none⟩ : Addr))), (9, .slice x5.1.a x5.1.n x5.1.c), (10, .int .i64 x5.2), (11, .slice x8.1.a x8.1.n x8.1.c), (12, .int .i64 x8.2), (13, .slice s13.1.a s13.1.n s13.1.c), (14, .slice s13.2.1.a s13.2.1.n s13.2.1.c), (15, .int .i64 s13.2.2), (16, .pointer (some (⟨b17, 0, none⟩ : Addr))), (17, .int .i16 s21.1), (18, .slice s21.2.1.a s21.2.1.n s21.2.1.c), (19, .int .i64 s21.2.2)]) (fun (s21 : Int × Sl × Int) => []) h ?_ ?_
    · rintro s21 w22 f1 h ⟨t_b1, t_b3, _⟩ so; refine wk_then ?_
      refine wc_seq ?_
      refine wc_region ?_
      obtain ⟨x23, q24, h⟩ := h
      refine wl_val (at_loadA (cs := (c24 x23)) Try.underlying24 rfl (by rw [len24]; exact sz24) rfl q24) rfl ?_
      refine wl_val (at_move rfl) rfl ?_
      refine wl_callF (runs_Symbols.calls _ _ _ _ h) enter11 rfl trivial so ?_; intro x25 w26 h so
      obtain ⟨q27, h⟩ := h
      replace t_b1 := pv_bk q27 t_b1 (by simp)
      replace t_b3 := pv_bk q27 t_b3 (by simp)
      refine wl_val (at_move rfl) rfl ?_
      refine wl_val (at_extract rfl rfl) rfl ?_
      refine wl_val (at_extract rfl rfl) rfl ?_
      refine wl_val (at_assign rfl) rfl ?_
      refine wl_val (at_assign rfl) rfl ?_
      refine wl_nil ?_
      refine wk_prune [(1, .int .i16 a1), (3, .int .i16 a3), (4, .pointer (some (⟨b1, 0, none⟩ : Addr))), (6, .pointer (some (⟨b3, 0, none⟩ : Addr))), (9, .slice x5.1.a x5.1.n x5.1.c), (10, .int .i64 x5.2), (11, .slice x8.1.a x8.1.n x8.1.c), (12, .int .i64 x8.2), (13, .slice s13.1.a s13.1.n s13.1.c), (14, .slice s13.2.1.a s13.2.1.n s13.2.1.c), (15, .int .i64 s13.2.2), (18, .slice s21.2.1.a s21.2.1.n s21.2.1.c), (19, .int .i64 s21.2.2), (20, .slice x25.1.a x25.1.n x25.1.c), (21, .int .i64 x25.2)] ⟨rfl, rfl, rfl, rfl, rfl, rfl, rfl, rfl, rfl, rfl, rfl, rfl, rfl, rfl, rfl, trivial⟩ (fun f1 => ?_)
      refine wk_then ?_
      refine wc_seq ?_
      refine wc_seq ?_
      refine wc_region ?_
      refine wl_val (at_move rfl) rfl ?_
      refine wl_val (at_move rfl) rfl ?_
      refine wl_val (at_neq rfl rfl) rfl ?_
      refine wl_nil ?_
      refine wk_prune [(1, .int .i16 a1), (3, .int .i16 a3), (4, .pointer (some (⟨b1, 0, none⟩ : Addr))), (6, .pointer (some (⟨b3, 0, none⟩ : Addr))), (9, .slice x5.1.a x5.1.n x5.1.c), (10, .int .i64 x5.2), (11, .slice x8.1.a x8.1.n x8.1.c), (12, .int .i64 x8.2), (13, .slice s13.1.a s13.1.n s13.1.c), (14, .slice s13.2.1.a s13.2.1.n s13.2.1.c), (15, .int .i64 s13.2.2), (18, .slice s21.2.1.a s21.2.1.n s21.2.1.c), (20, .slice x25.1.a x25.1.n x25.1.c), (63, .bool (x25.2 != s21.2.2))] ⟨rfl, rfl, rfl, rfl, rfl, rfl, rfl, rfl, rfl, rfl, rfl, rfl, rfl, rfl, trivial⟩ (fun f1 => ?_)
      refine wk_then ?_
      refine wc_cond rfl h (fun h => ?_) (fun h => ?_)
      · refine wc_seq ?_
        refine wc_region ?_
        refine wl_val (at_assign rfl) rfl ?_
        refine wl_nil ?_
        refine wk_prune [(8, .bool false)] ⟨rfl, trivial⟩ (fun f1 => ?_)
        refine wk_then ?_
        refine wc_ret ?_
        refine wk_thenR ?_
        refine wk_blkR ?_
        refine wk_thenR ?_
        refine wk_thenR ?_
        refine wk_blkR ?_
        refine wk_thenR ?_
        exact wk_ret1 (x := false) rfl (by decide) rfl so h
      · refine wc_skip ?_
        refine wk_prune [(1, .int .i16 a1), (3, .int .i16 a3), (4, .pointer (some (⟨b1, 0, none⟩ : Addr))), (6, .pointer (some (⟨b3, 0, none⟩ : Addr))), (9, .slice x5.1.a x5.1.n x5.1.c), (10, .int .i64 x5.2), (11, .slice x8.1.a x8.1.n x8.1.c), (12, .int .i64 x8.2), (13, .slice s13.1.a s13.1.n s13.1.c), (14, .slice s13.2.1.a s13.2.1.n s13.2.1.c), (15, .int .i64 s13.2.2), (18, .slice s21.2.1.a s21.2.1.n s21.2.1.c), (20, .slice x25.1.a x25.1.n x25.1.c)] ⟨rfl, rfl, rfl, rfl, rfl, rfl, rfl, rfl, rfl, rfl, rfl, rfl, rfl, trivial⟩ (fun f1 => ?_)
        refine wk_then ?_
        refine wc_seq ?_
        refine wc_region ?_
        refine wl_val (at_move rfl) rfl ?_
        refine wl_val (at_move rfl) rfl ?_
        obtain ⟨i31, i31a, i31b, i31c, i31d⟩ := info25
        refine wl_newS (ef_buildSlice (cs := [.slice x25.1.a x25.1.n x25.1.c]) (ps := [(0, .slice x25.1.a x25.1.n x25.1.c)]) Try.underlying29 i31a i31b rfl (by rw [i31c]; decide) (by rw [i31c]; exact fill_full (vs := [.slice x25.1.a x25.1.n x25.1.c]) rfl (by simp [Value.cells]) (by simp [Value.cells]) rfl (by simp))) rfl so (ones_cons rfl ones_nil) h ?_; intro p28 w29 h r30 so
        obtain ⟨q32, h⟩ := h
        replace t_b1 := pv_bk q32 t_b1 (by simp)
        replace t_b3 := pv_bk q32 t_b3 (by simp)
        obtain ⟨i33, i33a, i33b, i33c, i33d⟩ := info25
        refine wl_ap (fx_append (s := s13.1) (t := ⟨(some p28), 1, 1⟩) (m := 1) (xs := [.slice x25.1.a x25.1.n x25.1.c]) Try.underlying29 Try.underlying29 i33a i33b i33c i33d rfl rfl rfl (by first | rfl | simp) r30 h) rfl so ?_; intro l34 w35 h so
        obtain ⟨q36, h⟩ := h
        replace t_b1 := pv_bk q36 t_b1 (by simp)
        replace t_b3 := pv_bk q36 t_b3 (by simp)
        refine wl_val (at_assign rfl) rfl ?_
        refine wl_nil ?_
        refine wk_prune [(1, .int .i16 a1), (3, .int .i16 a3), (4, .pointer (some (⟨b1, 0, none⟩ : Addr))), (6, .pointer (some (⟨b3, 0, none⟩ : Addr))), (9, .slice x5.1.a x5.1.n x5.1.c), (10, .int .i64 x5.2), (11, .slice x8.1.a x8.1.n x8.1.c), (12, .int .i64 x8.2), (13, .slice l34.a l34.n l34.c), (14, .slice s13.2.1.a s13.2.1.n s13.2.1.c), (15, .int .i64 s13.2.2), (18, .slice s21.2.1.a s21.2.1.n s21.2.1.c)] ⟨rfl, rfl, rfl, rfl, rfl, rfl, rfl, rfl, rfl, rfl, rfl, rfl, trivial⟩ (fun f1 => ?_)
        refine wk_then ?_
        refine wc_region ?_
        refine wl_val (at_move rfl) rfl ?_
        refine wl_val (at_move rfl) rfl ?_
        obtain ⟨i40, i40a, i40b, i40c, i40d⟩ := info25
        refine wl_newS (ef_buildSlice (cs := [.slice s21.2.1.a s21.2.1.n s21.2.1.c]) (ps := [(0, .slice s21.2.1.a s21.2.1.n s21.2.1.c)]) Try.underlying29 i40a i40b rfl (by rw [i40c]; decide) (by rw [i40c]; exact fill_full (vs := [.slice s21.2.1.a s21.2.1.n s21.2.1.c]) rfl (by simp [Value.cells]) (by simp [Value.cells]) rfl (by simp))) rfl so (ones_cons rfl ones_nil) h ?_; intro p37 w38 h r39 so
        obtain ⟨q41, h⟩ := h
        replace t_b1 := pv_bk q41 t_b1 (by simp)
        replace t_b3 := pv_bk q41 t_b3 (by simp)
        obtain ⟨i42, i42a, i42b, i42c, i42d⟩ := info25
        refine wl_ap (fx_append (s := s13.2.1) (t := ⟨(some p37), 1, 1⟩) (m := 1) (xs := [.slice s21.2.1.a s21.2.1.n s21.2.1.c]) Try.underlying29 Try.underlying29 i42a i42b i42c i42d rfl rfl rfl (by first | rfl | simp) r39 h) rfl so ?_; intro l43 w44 h so
        obtain ⟨q45, h⟩ := h
        replace t_b1 := pv_bk q45 t_b1 (by simp)
        replace t_b3 := pv_bk q45 t_b3 (by simp)
        refine wl_val (at_assign rfl) rfl ?_
        refine wl_nil ?_
        refine wk_blkN ?_
        refine wk_prune [(1, .int .i16 a1), (3, .int .i16 a3), (4, .pointer (some (⟨b1, 0, none⟩ : Addr))), (6, .pointer (some (⟨b3, 0, none⟩ : Addr))), (9, .slice x5.1.a x5.1.n x5.1.c), (10, .int .i64 x5.2), (11, .slice x8.1.a x8.1.n x8.1.c), (12, .int .i64 x8.2), (13, .slice l34.a l34.n l34.c), (14, .slice l43.a l43.n l43.c), (15, .int .i64 s13.2.2)] ⟨rfl, rfl, rfl, rfl, rfl, rfl, rfl, rfl, rfl, rfl, rfl, trivial⟩ (fun f1 => ?_)
        refine wk_then ?_
        refine wc_region ?_
        refine wl_val (at_move rfl) rfl ?_
        refine wl_val (at_add rfl rfl) rfl ?_
        refine wl_val (at_assign rfl) rfl ?_
        refine wl_nil ?_
        exact wk_again ⟨(l34, l43, (IntKind.wrap .i64 (s13.2.2 + 1))), _, ac_again ⟨rfl, rfl, rfl, rfl, rfl, rfl, rfl, rfl, rfl, rfl, rfl, trivial⟩, so, ⟨t_b1, t_b3, trivial⟩, h⟩
    · intro J20 h hJ20
      refine wc_seq ?_
      refine wc_joinG (w0 := w0) (fun (H : Hp) => Bk H b1 24 (c24 a0_0) ∧ Bk H b3 24 (c24 a2_0) ∧ True) (fun (s47 : Bool) => [(1, .int .i16 a1), (3, .int .i16 a3), (4, .pointer (some (⟨b1, 0, none⟩ : Addr))), (6, .pointer (some (⟨b3, 0, none⟩ : Addr))), (9, .slice x5.1.a x5.1.n x5.1.c), (10, .int .i64 x5.2), (11, .slice x8.1.a x8.1.n x8.1.c), (12, .int .i64 x8.2), (13, .slice s13.1.a s13.1.n s13.1.c), (14, .slice s13.2.1.a s13.2.1.n s13.2.1.c), (15, .int .i64 s13.2.2), (16, .pointer (some (⟨b17, 0, none⟩ : Addr))), (17, .int .i16 a1), (18, .slice x5.1.a x5.1.n x5.1.c), (19, .int .i64 x5.2), (50, .bool s47)]) (fun (s47 : Bool) => []) h ?_ ?_
      · rintro s47 w48 f1 h ⟨t_b1, t_b3, _⟩ so; refine wk_then ?_
        refine wc_cond rfl h (fun h => ?_) (fun h => ?_)
        · refine wc_region ?_
          refine wl_val (at_loadA (cs := (c24 a2_0)) Try.underlying24 rfl (by rw [len24]; exact sz24) rfl (ldA_full t_b3)) rfl ?_
          refine wl_val (at_move rfl) rfl ?_
          refine wl_val (at_move rfl) rfl ?_
          refine wl_val (at_move rfl) rfl ?_
          refine wl_stA h rfl so (fun q => ef_storeA (by rw [len24]; exact sz24) rfl rfl (one24 _) q) ?_; intro w49 h so
          obtain ⟨q50, h⟩ := h
          replace t_b1 := pv_bk q50 t_b1 (by simp)
          replace t_b3 := pv_bk q50 t_b3 (by simp)
          refine wl_val (at_assign rfl) rfl ?_
          refine wl_val (at_assign rfl) rfl ?_
          refine wl_val (at_assign rfl) rfl ?_
          refine wl_nil ?_
          exact wk_prune [(1, .int .i16 a1), (3, .int .i16 a3), (4, .pointer (some (⟨b1, 0, none⟩ : Addr))), (6, .pointer (some (⟨b3, 0, none⟩ : Addr))), (9, .slice x5.1.a x5.1.n x5.1.c), (10, .int .i64 x5.2), (11, .slice x8.1.a x8.1.n x8.1.c), (12, .int .i64 x8.2), (13, .slice s13.1.a s13.1.n s13.1.c), (14, .slice s13.2.1.a s13.2.1.n s13.2.1.c), (15, .int .i64 s13.2.2), (16, .pointer (some (⟨b17, 0, none⟩ : Addr))), (17, .int .i16 a3), (18, .slice x8.1.a x8.1.n x8.1.c), (19, .int .i64 x8.2)] ⟨rfl, rfl, rfl, rfl, rfl, rfl, rfl, rfl, rfl, rfl, rfl, rfl, rfl, rfl, rfl, trivial⟩ (fun f1 => hJ20 (a3, x8.1, x8.2) _ f1 h ⟨t_b1, t_b3, trivial⟩ so)
        · refine wc_skip ?_
          exact wk_prune [(1, .int .i16 a1), (3, .int .i16 a3), (4, .pointer (some (⟨b1, 0, none⟩ : Addr))), (6, .pointer (some (⟨b3, 0, none⟩ : Addr))), (9, .slice x5.1.a x5.1.n x5.1.c), (10, .int .i64 x5.2), (11, .slice x8.1.a x8.1.n x8.1.c), (12, .int .i64 x8.2), (13, .slice s13.1.a s13.1.n s13.1.c), (14, .slice s13.2.1.a s13.2.1.n s13.2.1.c), (15, .int .i64 s13.2.2), (16, .pointer (some (⟨b17, 0, none⟩ : Addr))), (17, .int .i16 a1), (18, .slice x5.1.a x5.1.n x5.1.c), (19, .int .i64 x5.2)] ⟨rfl, rfl, rfl, rfl, rfl, rfl, rfl, rfl, rfl, rfl, rfl, rfl, rfl, rfl, rfl, trivial⟩ (fun f1 => hJ20 (a1, x5.1, x5.2) _ f1 h ⟨t_b1, t_b3, trivial⟩ so)
      · intro J46 h hJ46
        refine wc_region ?_
        refine wl_val (at_move rfl) rfl ?_
        refine wl_val (at_eql rfl rfl) rfl ?_
        refine wl_val (at_move rfl) rfl ?_
        refine bif_ h (fun hb h => ?_) (fun hb h => ?_)
        · refine wl_set (t := 47) (v := .bool true) (congrArg Value.bool hb) ?_; clear hb
          refine wl_off (t := 47) rfl (by decide) rfl ?_
          refine wl_off (t := 47) rfl (by decide) rfl ?_
          refine wl_val (at_pick_t rfl rfl) rfl ?_
          refine wl_nil ?_
          exact wk_prune [(1, .int .i16 a1), (3, .int .i16 a3), (4, .pointer (some (⟨b1, 0, none⟩ : Addr))), (6, .pointer (some (⟨b3, 0, none⟩ : Addr))), (9, .slice x5.1.a x5.1.n x5.1.c), (10, .int .i64 x5.2), (11, .slice x8.1.a x8.1.n x8.1.c), (12, .int .i64 x8.2), (13, .slice s13.1.a s13.1.n s13.1.c), (14, .slice s13.2.1.a s13.2.1.n s13.2.1.c), (15, .int .i64 s13.2.2), (16, .pointer (some (⟨b17, 0, none⟩ : Addr))), (17, .int .i16 a1), (18, .slice x5.1.a x5.1.n x5.1.c), (19, .int .i64 x5.2), (50, .bool true)] ⟨rfl, rfl, rfl, rfl, rfl, rfl, rfl, rfl, rfl, rfl, rfl, rfl, rfl, rfl, rfl, rfl, trivial⟩ (fun f1 => hJ46 (true) _ f1 h ⟨t_b1, t_b3, trivial⟩ so)
        · refine wl_set (t := 47) (v := .bool false) (congrArg Value.bool hb) ?_; clear hb
          refine wl_on (t := 47) rfl (by decide) rfl ?_
          refine wl_val (at_move rfl) rfl ?_
          refine wl_on (t := 47) rfl (by decide) rfl ?_
          refine wl_val (at_eql rfl rfl) rfl ?_
          refine wl_val (at_pick_f rfl rfl) rfl ?_
          refine wl_nil ?_
          exact wk_prune [(1, .int .i16 a1), (3, .int .i16 a3), (4, .pointer (some (⟨b1, 0, none⟩ : Addr))), (6, .pointer (some (⟨b3, 0, none⟩ : Addr))), (9, .slice x5.1.a x5.1.n x5.1.c), (10, .int .i64 x5.2), (11, .slice x8.1.a x8.1.n x8.1.c), (12, .int .i64 x8.2), (13, .slice s13.1.a s13.1.n s13.1.c), (14, .slice s13.2.1.a s13.2.1.n s13.2.1.c), (15, .int .i64 s13.2.2), (16, .pointer (some (⟨b17, 0, none⟩ : Addr))), (17, .int .i16 a1), (18, .slice x5.1.a x5.1.n x5.1.c), (19, .int .i64 x5.2), (50, .bool (s13.2.2 == 3))] ⟨rfl, rfl, rfl, rfl, rfl, rfl, rfl, rfl, rfl, rfl, rfl, rfl, rfl, rfl, rfl, rfl, trivial⟩ (fun f1 => hJ46 ((s13.2.2 == 3)) _ f1 h ⟨t_b1, t_b3, trivial⟩ so)
  · refine wc_exit ?_
    refine wk_thenE ?_
    refine wk_thenE ?_
    refine wk_blkE ?_
    refine wk_prune [(1, .int .i16 a1), (4, .pointer (some (⟨b1, 0, none⟩ : Addr))), (9, .slice x5.1.a x5.1.n x5.1.c), (10, .int .i64 x5.2), (13, .slice s13.1.a s13.1.n s13.1.c), (14, .slice s13.2.1.a s13.2.1.n s13.2.1.c)] ⟨rfl, rfl, rfl, rfl, rfl, rfl, trivial⟩ (fun f1 => ?_)
    refine wk_then ?_
    refine wc_seq ?_
    refine wc_region ?_
    refine wl_val (at_move rfl) rfl ?_
    refine wl_val (at_move rfl) rfl ?_
    refine wl_callF (mosaiclaw07_apart.calls _ _ _ _ h) enter12 rfl trivial so ?_; intro x51 w52 h so
    obtain ⟨q53, h⟩ := h
    replace t_b1 := pv_bk q53 t_b1 (by simp)
    refine wl_val (at_assign rfl) rfl ?_
    refine wl_nil ?_
    refine wk_prune [(1, .int .i16 a1), (4, .pointer (some (⟨b1, 0, none⟩ : Addr))), (9, .slice x5.1.a x5.1.n x5.1.c), (10, .int .i64 x5.2), (22, .bool x51)] ⟨rfl, rfl, rfl, rfl, rfl, trivial⟩ (fun f1 => ?_)
    refine wk_then ?_
    refine wc_seq ?_
    refine wc_region ?_
    refine wl_val (at_loadA (cs := (c24 a0_0)) Try.underlying24 rfl (by rw [len24]; exact sz24) rfl (ldA_full t_b1)) rfl ?_
    refine wl_val (at_move rfl) rfl ?_
    refine wl_callF (runs_Symbols.calls _ _ _ _ h) enter11 rfl trivial so ?_; intro x54 w55 h so
    refine wl_val (at_move rfl) rfl ?_
    refine wl_val (at_extract rfl rfl) rfl ?_
    refine wl_val (at_extract rfl rfl) rfl ?_
    refine wl_val (at_assign rfl) rfl ?_
    refine wl_val (at_assign rfl) rfl ?_
    refine wl_nil ?_
    refine wk_prune [(9, .slice x5.1.a x5.1.n x5.1.c), (10, .int .i64 x5.2), (22, .bool x51), (23, .slice x54.1.a x54.1.n x54.1.c), (24, .int .i64 x54.2)] ⟨rfl, rfl, rfl, rfl, rfl, trivial⟩ (fun f1 => ?_)
    refine wk_then ?_
    refine wc_seq ?_
    refine wc_region ?_
    refine wl_val (at_move rfl) rfl ?_
    refine wl_val (at_move rfl) rfl ?_
    refine bif_ h (fun hb h => ?_) (fun hb h => ?_)
    · refine wl_set (t := 82) (v := .bool true) (congrArg Value.bool hb) ?_; clear hb
      refine wl_on (t := 82) rfl (by decide) rfl ?_
      refine wl_val (at_move rfl) rfl ?_
      refine wl_on (t := 82) rfl (by decide) rfl ?_
      refine wl_val (at_move rfl) rfl ?_
      refine wl_on (t := 82) rfl (by decide) rfl ?_
      refine wl_val (at_eql rfl rfl) rfl ?_
      refine wl_val (at_pick_t rfl rfl) rfl ?_
      refine wl_val (at_move rfl) rfl ?_
      refine bif_ h (fun hb h => ?_) (fun hb h => ?_)
      · refine wl_set (t := 87) (v := .bool true) (congrArg Value.bool hb) ?_; clear hb
        refine wl_on (t := 87) rfl (by decide) rfl ?_
        refine wl_val (at_move rfl) rfl ?_
        refine wl_on (t := 87) rfl (by decide) rfl ?_
        refine wl_val (at_move rfl) rfl ?_
        refine wl_on (t := 87) rfl (by decide) rfl ?_
        refine wl_callF (mosaicref07_Same.calls _ _ _ _ h) enter13 rfl trivial so ?_; intro x56 w57 h so
        refine wl_val (at_pick_t rfl rfl) rfl ?_
        refine wl_val (at_assign rfl) rfl ?_
        refine wl_nil ?_
        refine wk_prune [(8, .bool x56)] ⟨rfl, trivial⟩ (fun f1 => ?_)
        refine wk_then ?_
        refine wc_ret ?_
        exact wk_ret1 (x := x56) rfl (by decide) rfl so h
      · refine wl_set (t := 87) (v := .bool false) (congrArg Value.bool hb) ?_; clear hb
        refine wl_off (t := 87) rfl (by decide) rfl ?_
        refine wl_off (t := 87) rfl (by decide) rfl ?_
        refine wl_off (t := 87) rfl (by decide) rfl ?_
        refine wl_val (at_pick_f rfl rfl) rfl ?_
        refine wl_val (at_assign rfl) rfl ?_
        refine wl_nil ?_
        refine wk_prune [(8, .bool false)] ⟨rfl, trivial⟩ (fun f1 => ?_)
        refine wk_then ?_
        refine wc_ret ?_
        exact wk_ret1 (x := false) rfl (by decide) rfl so h
    · refine wl_set (t := 82) (v := .bool false) (congrArg Value.bool hb) ?_; clear hb
      refine wl_off (t := 82) rfl (by decide) rfl ?_
      refine wl_off (t := 82) rfl (by decide) rfl ?_
      refine wl_off (t := 82) rfl (by decide) rfl ?_
      refine wl_val (at_pick_f rfl rfl) rfl ?_
      refine wl_val (at_move rfl) rfl ?_
      refine wl_off (t := 87) rfl (by decide) rfl ?_
      refine wl_off (t := 87) rfl (by decide) rfl ?_
      refine wl_off (t := 87) rfl (by decide) rfl ?_
      refine wl_val (at_pick_f rfl rfl) rfl ?_
      refine wl_val (at_assign rfl) rfl ?_
      refine wl_nil ?_
      refine wk_prune [(8, .bool false)] ⟨rfl, trivial⟩ (fun f1 => ?_)
      refine wk_then ?_
      refine wc_ret ?_
      exact wk_ret1 (x := false) rfl (by decide) rfl so h
end Go.Proofs.Ythblohaffipkhaa.G
