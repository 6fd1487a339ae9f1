import Derived.Test.YtbefacccdaafeaaGF
import Derived.Test.YtbefacccdaafeaaKbits
import Derived.Test.YtbefacccdaafeaaKhuff
import Derived.Test.YtbefacccdaafeaaKmosaicref04
namespace Go.Proofs.Ytbefacccdaafeaa.G
open Go.RowKit
set_option linter.unusedVariables false
set_option linter.unusedSimpArgs false
/-- mosaic/mosaiclaw04.twin -/
def mosaiclaw04_twin.enc : (Ints 16) × Sl → Value := fun r => .agg (c25 r.1 r.2).toArray
def mosaiclaw04_twin.s (a0_0 : Ints 16) (a0_1 : Sl) (H0 : Hp) (Q : ((Ints 16) × Sl) → Hp → Prop) : Prop :=
  Gn [] H0 (fun (b1 : Nat) (H2 : Hp) => Gn [] H2 (fun (b3 : Nat) (H4 : Hp) => ∃ y8 : List Value, y8.length = a0_1.n * 1 ∧ rdS H4 a0_1.a y8 ∧ apS H4 ⟨none, 0, 0⟩ 5 1 1 z5.cells a0_1.n y8 (fun l6 H7 => Pv [b1, b3] H4 H7 ∧ (∃ k12, Fix (fun (rec17 : (Sl × Int) → Hp → Prop) (s14 : Sl × Int) (H15 : Hp) => if decide (s14.2 < 12) = true then (nw H15 5 [.int .u8 77] (fun p18 H19 => Pv [b1, b3] H15 H19 ∧ (apS H19 s14.1 5 1 1 z5.cells 1 [.int .u8 77] (fun l24 H25 => Pv [b1, b3] H19 H25 ∧ (rec17 (l24, (IntKind.wrap .i64 (s14.2 + 1))) H25))))) else (0 ≤ (a0_1.n : Int) ∧ (a0_1.n : Int) ≤ (s14.1.c : Int) ∧ (Gr [b3, b1] H15 (fun (H30 : Hp) => Q (a0_0, (slS s14.1 1 0 (a0_1.n : Int))) H30)))) k12 (l6, 0) H7))))
set_option maxRecDepth 20000 in
set_option maxHeartbeats 4000000 in
theorem mosaiclaw04_twin.calls (a0_0 : Ints 16) (a0_1 : Sl) (w0 : World) (Q : ((Ints 16) × Sl) → Hp → Prop) (h : mosaiclaw04_twin.s a0_0 a0_1 w0.heap Q) :
    Ca Try.prog 11 #[.agg (c25 a0_0 a0_1).toArray] w0 (Rt mosaiclaw04_twin.enc Q w0) := by
  refine ca_start (c := _) Try.func11 rfl Try.ntmps11 rfl ?_
  have so : Sm w0 w0 := Sm.refl w0
  unfold mosaiclaw04_twin.s at h
  refine wc_prune [(0, .agg (c25 a0_0 a0_1).toArray)] ⟨rfl, trivial⟩ (fun f1 => ?_)
  refine wc_seq ?_
  refine wc_region ?_
  refine wl_newT (T := 25) (cs := (c25 a0_0 a0_1)) (ef_box rfl rfl) rfl so ?_; intro b1 w2 hb_b1 t_b1 k_b1 so
  have g_b1 := Nat.le_of_eq hb_b1.symm
  have hc := k_b1.ch (F := [])
  replace h := h b1 _ hc g_b1 t_b1.lt; clear hc
  refine wl_newT (T := 25) (cs := (c25 (zInts 16) ⟨none, 0, 0⟩)) (ef_alloc zero25 rfl) rfl so ?_; intro b3 w4 hb_b3 t_b3 k_b3 so
  have g_b3 := Nat.le_of_eq hb_b3.symm
  have hc := k_b3.ch (F := [])
  have n_b1_b3 : b1 ≠ b3 := fun e => by have := t_b1.lt; omega
  replace t_b1 := t_b1.keep k_b3
  refine wl_nil ?_
  refine wk_prune [(1, .pointer (some (⟨b1, 0, none⟩ : Addr))), (2, .pointer (some (⟨b3, 0, none⟩ : Addr)))] ⟨rfl, rfl, trivial⟩ (fun f1 => ?_)
  refine wk_then ?_
  refine wc_seq ?_
  refine wc_region ?_
  refine wl_val (at_assign rfl) rfl ?_
  refine wl_nil ?_
  refine wk_prune [(1, .pointer (some (⟨b1, 0, none⟩ : Addr))), (2, .pointer (some (⟨b3, 0, none⟩ : Addr))), (3, .slice none 0 0)] ⟨rfl, rfl, rfl, trivial⟩ (fun f1 => ?_)
  refine wk_then ?_
  refine wc_seq ?_
  refine wc_region ?_
  refine wl_val (at_move rfl) rfl ?_
  refine wl_val (at_fieldAddr Try.underlying25 rfl rfl sz23 (by decide) rfl) rfl ?_
  refine wl_val (at_load (v := .slice a0_1.a a0_1.n a0_1.c) Try.underlying23 rfl rfl ((t_b1.cell 16).trans (by first | rfl | simp [List.getElem?_append, ints_len, bools_len]))) rfl ?_
  obtain ⟨i5, i5a, i5b, i5c, i5d⟩ := info5
  replace h := h b3 _ hc g_b3 t_b3.lt; clear hc
  obtain ⟨y8, q9, q10, h⟩ := h
  refine wl_ap (fx_append (s := ⟨none, 0, 0⟩) (t := a0_1) (m := a0_1.n) (xs := y8) Try.underlying23 Try.underlying23 i5a i5b i5c i5d rfl rfl rfl q9 q10 h) rfl so ?_; intro l6 w7 h so
  obtain ⟨q11, h⟩ := h
  replace t_b1 := pv_bk q11 t_b1 (by simp)
  replace t_b3 := pv_bk q11 t_b3 (by simp)
  refine wl_val (at_assign rfl) rfl ?_
  refine wl_nil ?_
  refine wk_prune [(1, .pointer (some (⟨b1, 0, none⟩ : Addr))), (2, .pointer (some (⟨b3, 0, none⟩ : Addr))), (3, .slice l6.a l6.n l6.c)] ⟨rfl, rfl, rfl, trivial⟩ (fun f1 => ?_)
  refine wk_then ?_
  refine wc_seq ?_
  refine wc_seq ?_
  refine wc_region ?_
  refine wl_val (at_assign rfl) rfl ?_
  refine wl_nil ?_
  refine wk_prune [(1, .pointer (some (⟨b1, 0, none⟩ : Addr))), (2, .pointer (some (⟨b3, 0, none⟩ : Addr))), (3, .slice l6.a l6.n l6.c), (4, .int .i64 0)] ⟨rfl, rfl, rfl, rfl, trivial⟩ (fun f1 => ?_)
  refine wk_then ?_
  refine wc_block ?_
  obtain ⟨k12, h⟩ := h
  refine wc_loop (fun k a w => ∃ (s14 : Sl × Int) (f1 : Nat → Value), a = ac 23 (en f1 [(1, .pointer (some (⟨b1, 0, none⟩ : Addr))), (2, .pointer (some (⟨b3, 0, none⟩ : Addr))), (3, .slice s14.1.a s14.1.n s14.1.c), (4, .int .i64 s14.2)]) [] ∧ Sm w0 w ∧ (Bk w.heap b1 25 (c25 a0_0 a0_1) ∧ Bk w.heap b3 25 (c25 (zInts 16) ⟨none, 0, 0⟩) ∧ True) ∧ Fix _ k s14 w.heap) k12 ⟨(l6, 0), _, ac_again ⟨rfl, rfl, rfl, rfl, trivial⟩, so, ⟨t_b1, t_b3, trivial⟩, h⟩ ?_
  rintro k13 a16 w15 ⟨s14, f1, rfl, so, ⟨t_b1, t_b3, _⟩, h⟩
  rcases k13 with _ | k13
  · exact h.elim
  replace h := Fix.un h; refine wc_in ?_
  refine wc_seq ?_
  refine wc_seq ?_
  refine wc_region ?_
  refine wl_val (at_move rfl) rfl ?_
  refine wl_val (at_lss rfl rfl) rfl ?_
  refine wl_nil ?_
  refine wk_prune [(1, .pointer (some (⟨b1, 0, none⟩ : Addr))), (2, .pointer (some (⟨b3, 0, none⟩ : Addr))), (3, .slice s14.1.a s14.1.n s14.1.c), (4, .int .i64 s14.2), (10, .bool (decide (s14.2 < 12)))] ⟨rfl, rfl, rfl, rfl, rfl, trivial⟩ (fun f1 => ?_)
  refine wk_then ?_
  refine wc_cond rfl h (fun h => ?_) (fun h => ?_)
  · refine wc_skip ?_
    refine wk_prune [(1, .pointer (some (⟨b1, 0, none⟩ : Addr))), (2, .pointer (some (⟨b3, 0, none⟩ : Addr))), (3, .slice s14.1.a s14.1.n s14.1.c), (4, .int .i64 s14.2)] ⟨rfl, rfl, rfl, rfl, trivial⟩ (fun f1 => ?_)
    refine wk_then ?_
    refine wc_seq ?_
    refine wc_block ?_
    refine wc_region ?_
    refine wl_val (at_move rfl) rfl ?_
    obtain ⟨i21, i21a, i21b, i21c, i21d⟩ := info5
    refine wl_newS (ef_buildSlice (cs := [.int .u8 77]) (ps := [(0, .int .u8 77)]) Try.underlying23 i21a i21b rfl (by rw [i21c]; decide) (by rw [i21c]; exact fill_full (vs := [.int .u8 77]) rfl (by simp [Value.cells]) (by simp [Value.cells]) rfl (by simp))) rfl so (ones_cons rfl ones_nil) h ?_; intro p18 w19 h r20 so
    obtain ⟨q22, h⟩ := h
    replace t_b1 := pv_bk q22 t_b1 (by simp)
    replace t_b3 := pv_bk q22 t_b3 (by simp)
    obtain ⟨i23, i23a, i23b, i23c, i23d⟩ := info5
    refine wl_ap (fx_append (s := s14.1) (t := ⟨(some p18), 1, 1⟩) (m := 1) (xs := [.int .u8 77]) Try.underlying23 Try.underlying23 i23a i23b i23c i23d rfl rfl rfl (by first | rfl | simp) r20 h) rfl so ?_; intro l24 w25 h so
    obtain ⟨q26, h⟩ := h
    replace t_b1 := pv_bk q26 t_b1 (by simp)
    replace t_b3 := pv_bk q26 t_b3 (by simp)
    refine wl_val (at_assign rfl) rfl ?_
    refine wl_nil ?_
    refine wk_blkN ?_
    refine wk_prune [(1, .pointer (some (⟨b1, 0, none⟩ : Addr))), (2, .pointer (some (⟨b3, 0, none⟩ : Addr))), (3, .slice l24.a l24.n l24.c), (4, .int .i64 s14.2)] ⟨rfl, rfl, rfl, rfl, trivial⟩ (fun f1 => ?_)
    refine wk_then ?_
    refine wc_region ?_
    refine wl_val (at_move rfl) rfl ?_
    refine wl_val (at_add rfl rfl) rfl ?_
    refine wl_val (at_assign rfl) rfl ?_
    refine wl_nil ?_
    exact wk_again ⟨(l24, (IntKind.wrap .i64 (s14.2 + 1))), _, ac_again ⟨rfl, rfl, rfl, rfl, trivial⟩, so, ⟨t_b1, t_b3, trivial⟩, h⟩
  · refine wc_exit ?_
    refine wk_thenE ?_
    refine wk_thenE ?_
    refine wk_blkE ?_
    refine wk_prune [(1, .pointer (some (⟨b1, 0, none⟩ : Addr))), (2, .pointer (some (⟨b3, 0, none⟩ : Addr))), (3, .slice s14.1.a s14.1.n s14.1.c)] ⟨rfl, rfl, rfl, trivial⟩ (fun f1 => ?_)
    refine wk_then ?_
    refine wc_seq ?_
    refine wc_region ?_
    refine wl_val (at_move rfl) rfl ?_
    refine wl_val (at_fieldAddr Try.underlying25 rfl rfl sz23 (by decide) rfl) rfl ?_
    refine wl_val (at_load (v := .slice a0_1.a a0_1.n a0_1.c) Try.underlying23 rfl rfl ((t_b1.cell 16).trans (by first | rfl | simp [List.getElem?_append, ints_len, bools_len]))) rfl ?_
    refine wl_val (at_lenL Try.underlying23 rfl) rfl ?_
    obtain ⟨q27, q28, h⟩ := h
    refine wl_val (at_subLh (s := s14.1) Try.underlying23 sz5 rfl rfl q27 q28) rfl ?_
    refine wl_val (at_fieldAddr Try.underlying25 rfl rfl sz23 (by decide) rfl) rfl ?_
    refine wl_stT (v := .slice ((slS s14.1 1 0 (a0_1.n : Int)).a) ((slS s14.1 1 0 (a0_1.n : Int)).n) ((slS s14.1 1 0 (a0_1.n : Int)).c)) (cs' := (c25 a0_0 (slS s14.1 1 0 (a0_1.n : Int)))) t_b1 (by first | decide | simp [ints_len, bools_len]) (by first | rfl | simp [List.set_append, ints_len, bools_len]) rfl so (fun q1 q2 => ef_store (sz := sz23) rfl rfl rfl q1 q2) ?_; intro w29 t_b1 s_w29 so
    replace t_b3 := t_b3.same s_w29 (Ne.symm n_b1_b3)
    have hc := s_w29.ch
    refine wl_nil ?_
    refine wk_prune [(1, .pointer (some (⟨b1, 0, none⟩ : Addr))), (2, .pointer (some (⟨b3, 0, none⟩ : Addr)))] ⟨rfl, rfl, trivial⟩ (fun f1 => ?_)
    refine wk_then ?_
    refine wc_seq ?_
    refine wc_region ?_
    refine wl_val (at_loadA (cs := (c25 a0_0 (slS s14.1 1 0 (a0_1.n : Int)))) Try.underlying25 rfl (by rw [len25]; exact sz25) rfl (ldA_full t_b1)) rfl ?_
    refine wl_stWT (vs := (c25 a0_0 (slS s14.1 1 0 (a0_1.n : Int)))) t_b3 (by first | (rw [len25, len25]) | (rw [len25]) | rfl) rfl so (fun q => ef_storeA (p := (⟨b3, 0, none⟩ : Addr)) (cs := (c25 a0_0 (slS s14.1 1 0 (a0_1.n : Int)))) (by rw [len25]; exact sz25) rfl rfl (one25 _ _) q) ?_; intro w30 t_b3 s_w30 so
    replace t_b1 := t_b1.same s_w30 (n_b1_b3)
    replace hc := ch_more hc s_w30
    refine wl_nil ?_
    refine wk_prune [(2, .pointer (some (⟨b3, 0, none⟩ : Addr)))] ⟨rfl, trivial⟩ (fun f1 => ?_)
    refine wk_then ?_
    refine wc_ret ?_
    replace h := h _ hc; clear hc
    exact wk_retR1 (x := (a0_0, (slS s14.1 1 0 (a0_1.n : Int)))) rfl ⟨by decide, _, rfl, loadVar_agg (cs := (c25 a0_0 (slS s14.1 1 0 (a0_1.n : Int)))) Try.underlying25 rfl (by rw [len25]; exact sz25) (ldA_full t_b3)⟩ rfl so h

/-- mosaic/mosaiclaw04.kept -/
def mosaiclaw04_kept.enc : Bool → Value := fun r => .bool r
def mosaiclaw04_kept.s (a0_0 : Ints 16) (a0_1 : Sl) (a1_0 : Ints 16) (a1_1 : Sl) (H0 : Hp) (Q : Bool → Hp → Prop) : Prop :=
  Gn [] H0 (fun (b1 : Nat) (H2 : Hp) => Gn [] H2 (fun (b3 : Nat) (H4 : Hp) => 0 ≤ (IntKind.wrap .i64 ((a1_1.n : Int) + 12)) ∧ (IntKind.wrap .i64 ((a1_1.n : Int) + 12)) ≤ (a0_1.c : Int) ∧ (∃ k7, Fix (fun (rec12 : Int → Hp → Prop) (s9 : Int) (H10 : Hp) => if decide (s9 < ((slS a0_1 1 0 (IntKind.wrap .i64 ((a1_1.n : Int) + 12))).n : Int)) = true then (Join (fun (s14 : Bool) (H15 : Hp) => if s14 = true then (Q false H15) else (rec12 ((IntKind.wrap .i64 (s9 + 1))) H15)) (fun (J13 : Bool → Hp → Prop) => if decide (s9 < (a1_1.n : Int)) = true then (0 ≤ s9 ∧ s9 < ((slS a0_1 1 0 (IntKind.wrap .i64 ((a1_1.n : Int) + 12))).n : Int) ∧ someA ((slS a0_1 1 0 (IntKind.wrap .i64 ((a1_1.n : Int) + 12))).a) (fun p20 => ldI .u8 H10 (p20.add (Int.toNat s9 * 1)) (fun x22 => 0 ≤ s9 ∧ s9 < (a1_1.n : Int) ∧ someA a1_1.a (fun p27 => ldI .u8 H10 (p27.add (Int.toNat s9 * 1)) (fun x29 => if (x22 != x29) = true then (J13 (true) H10) else (if decide ((a1_1.n : Int) ≤ s9) = true then (0 ≤ s9 ∧ s9 < ((slS a0_1 1 0 (IntKind.wrap .i64 ((a1_1.n : Int) + 12))).n : Int) ∧ (ldI .u8 H10 (p20.add (Int.toNat s9 * 1)) (fun x34 => J13 ((x34 != 77)) H10))) else (J13 (false) H10))))))) else (if decide ((a1_1.n : Int) ≤ s9) = true then (0 ≤ s9 ∧ s9 < ((slS a0_1 1 0 (IntKind.wrap .i64 ((a1_1.n : Int) + 12))).n : Int) ∧ someA ((slS a0_1 1 0 (IntKind.wrap .i64 ((a1_1.n : Int) + 12))).a) (fun p39 => ldI .u8 H10 (p39.add (Int.toNat s9 * 1)) (fun x41 => J13 ((x41 != 77)) H10))) else (J13 (false) H10)))) else (if (a0_0.1 == a1_0.1) = true then (Q ((a0_1.n : Int) == (a1_1.n : Int)) H10) else (Q false H10))) k7 (0) H4)))
set_option maxRecDepth 20000 in
set_option maxHeartbeats 4000000 in
theorem mosaiclaw04_kept.calls (a0_0 : Ints 16) (a0_1 : Sl) (a1_0 : Ints 16) (a1_1 : Sl) (w0 : World) (Q : Bool → Hp → Prop) (h : mosaiclaw04_kept.s a0_0 a0_1 a1_0 a1_1 w0.heap Q) :
    Ca Try.prog 16 #[.agg (c25 a0_0 a0_1).toArray, .agg (c25 a1_0 a1_1).toArray] w0 (Rt mosaiclaw04_kept.enc Q w0) := by
  refine ca_start (c := _) Try.func16 rfl Try.ntmps16 rfl ?_
  have so : Sm w0 w0 := Sm.refl w0
  unfold mosaiclaw04_kept.s at h
  refine wc_prune [(0, .agg (c25 a0_0 a0_1).toArray), (1, .agg (c25 a1_0 a1_1).toArray)] ⟨rfl, rfl, trivial⟩ (fun f1 => ?_)
  refine wc_seq ?_
  refine wc_region ?_
  refine wl_newT (T := 25) (cs := (c25 a0_0 a0_1)) (ef_box rfl rfl) rfl so ?_; intro b1 w2 hb_b1 t_b1 k_b1 so
  have g_b1 := Nat.le_of_eq hb_b1.symm
  have hc := k_b1.ch (F := [])
  replace h := h b1 _ hc g_b1 t_b1.lt; clear hc
  refine wl_newT (T := 25) (cs := (c25 a1_0 a1_1)) (ef_box rfl rfl) rfl so ?_; intro b3 w4 hb_b3 t_b3 k_b3 so
  have g_b3 := Nat.le_of_eq hb_b3.symm
  have hc := k_b3.ch (F := [])
  have n_b1_b3 : b1 ≠ b3 := fun e => by have := t_b1.lt; omega
  replace t_b1 := t_b1.keep k_b3
  refine wl_val (at_assign rfl) rfl ?_
  refine wl_nil ?_
  refine wk_prune [(2, .pointer (some (⟨b1, 0, none⟩ : Addr))), (3, .pointer (some (⟨b3, 0, none⟩ : Addr)))] ⟨rfl, rfl, trivial⟩ (fun f1 => ?_)
  refine wk_then ?_
  refine wc_seq ?_
  refine wc_region ?_
  refine wl_val (at_fieldAddr Try.underlying25 rfl rfl sz23 (by decide) rfl) rfl ?_
  refine wl_val (at_load (v := .slice a0_1.a a0_1.n a0_1.c) Try.underlying23 rfl rfl ((t_b1.cell 16).trans (by first | rfl | simp [List.getElem?_append, ints_len, bools_len]))) rfl ?_
  refine wl_val (at_fieldAddr Try.underlying25 rfl rfl sz23 (by decide) rfl) rfl ?_
  refine wl_val (at_load (v := .slice a1_1.a a1_1.n a1_1.c) Try.underlying23 rfl rfl ((t_b3.cell 16).trans (by first | rfl | simp [List.getElem?_append, ints_len, bools_len]))) rfl ?_
  refine wl_val (at_lenL Try.underlying23 rfl) rfl ?_
  refine wl_val (at_add rfl rfl) rfl ?_
  replace h := h b3 _ hc g_b3 t_b3.lt; clear hc
  obtain ⟨q5, q6, h⟩ := h
  refine wl_val (at_subLh (s := a0_1) Try.underlying23 sz5 rfl rfl q5 q6) rfl ?_
  refine wl_val (at_assign rfl) rfl ?_
  refine wl_nil ?_
  refine wk_prune [(2, .pointer (some (⟨b1, 0, none⟩ : Addr))), (3, .pointer (some (⟨b3, 0, none⟩ : Addr))), (5, .slice ((slS a0_1 1 0 (IntKind.wrap .i64 ((a1_1.n : Int) + 12))).a) ((slS a0_1 1 0 (IntKind.wrap .i64 ((a1_1.n : Int) + 12))).n) ((slS a0_1 1 0 (IntKind.wrap .i64 ((a1_1.n : Int) + 12))).c))] ⟨rfl, rfl, rfl, trivial⟩ (fun f1 => ?_)
  refine wk_then ?_
  refine wc_seq ?_
  refine wc_seq ?_
  refine wc_region ?_
  refine wl_val (at_assign rfl) rfl ?_
  refine wl_nil ?_
  refine wk_prune [(2, .pointer (some (⟨b1, 0, none⟩ : Addr))), (3, .pointer (some (⟨b3, 0, none⟩ : Addr))), (5, .slice ((slS a0_1 1 0 (IntKind.wrap .i64 ((a1_1.n : Int) + 12))).a) ((slS a0_1 1 0 (IntKind.wrap .i64 ((a1_1.n : Int) + 12))).n) ((slS a0_1 1 0 (IntKind.wrap .i64 ((a1_1.n : Int) + 12))).c)), (6, .int .i64 0)] ⟨rfl, rfl, rfl, rfl, trivial⟩ (fun f1 => ?_)
  refine wk_then ?_
  refine wc_block ?_
  obtain ⟨k7, h⟩ := h
  refine wc_loop (fun k a w => ∃ (s9 : Int) (f1 : Nat → Value), a = ac 65 (en f1 [(2, .pointer (some (⟨b1, 0, none⟩ : Addr))), (3, .pointer (some (⟨b3, 0, none⟩ : Addr))), (5, .slice ((slS a0_1 1 0 (IntKind.wrap .i64 ((a1_1.n : Int) + 12))).a) ((slS a0_1 1 0 (IntKind.wrap .i64 ((a1_1.n : Int) + 12))).n) ((slS a0_1 1 0 (IntKind.wrap .i64 ((a1_1.n : Int) + 12))).c)), (6, .int .i64 s9)]) [] ∧ Sm w0 w ∧ (Bk w.heap b1 25 (c25 a0_0 a0_1) ∧ Bk w.heap b3 25 (c25 a1_0 a1_1) ∧ True) ∧ Fix _ k s9 w.heap) k7 ⟨(0), _, ac_again ⟨rfl, rfl, rfl, rfl, trivial⟩, so, ⟨t_b1, t_b3, trivial⟩, h⟩ ?_
  rintro k8 a11 w10 ⟨s9, f1, rfl, so, ⟨t_b1, t_b3, _⟩, h⟩
  rcases k8 with _ | k8
  · exact h.elim
  replace h := Fix.un h; refine wc_in ?_
  refine wc_seq ?_
  refine wc_seq ?_
  refine wc_region ?_
  refine wl_val (at_move rfl) rfl ?_
  refine wl_val (at_move rfl) rfl ?_
  refine wl_val (at_lenL Try.underlying23 rfl) rfl ?_
  refine wl_val (at_lss rfl rfl) rfl ?_
  refine wl_nil ?_
  refine wk_prune [(2, .pointer (some (⟨b1, 0, none⟩ : Addr))), (3, .pointer (some (⟨b3, 0, none⟩ : Addr))), (5, .slice ((slS a0_1 1 0 (IntKind.wrap .i64 ((a1_1.n : Int) + 12))).a) ((slS a0_1 1 0 (IntKind.wrap .i64 ((a1_1.n : Int) + 12))).n) ((slS a0_1 1 0 (IntKind.wrap .i64 ((a1_1.n : Int) + 12))).c)), (6, .int .i64 s9), (17, .bool (decide (s9 < ((slS a0_1 1 0 (IntKind.wrap .i64 ((a1_1.n : Int) + 12))).n : Int))))] ⟨rfl, rfl, rfl, rfl, rfl, trivial⟩ (fun f1 => ?_)
  refine wk_then ?_
  refine wc_cond rfl h (fun h => ?_) (fun h => ?_)
  · refine wc_skip ?_
    refine wk_prune [(2, .pointer (some (⟨b1, 0, none⟩ : Addr))), (3, .pointer (some (⟨b3, 0, none⟩ : Addr))), (5, .slice ((slS a0_1 1 0 (IntKind.wrap .i64 ((a1_1.n : Int) + 12))).a) ((slS a0_1 1 0 (IntKind.wrap .i64 ((a1_1.n : Int) + 12))).n) ((slS a0_1 1 0 (IntKind.wrap .i64 ((a1_1.n : Int) + 12))).c)), (6, .int .i64 s9)] ⟨rfl, rfl, rfl, rfl, trivial⟩ (fun f1 => ?_)
    refine wk_then ?_
    refine wc_seq ?_
    refine wc_block ?_
    refine wc_seq ?_
    refine wc_joinG (w0 := w0) (fun (H : Hp) => Bk H b1 25 (c25 a0_0 a0_1) ∧ Bk H b3 25 (c25 a1_0 a1_1) ∧ True) (fun (s14 : Bool) => [(2, .pointer (some (⟨b1, 0, none⟩ : Addr))), (3, .pointer (some (⟨b3, 0, none⟩ : Addr))), (5, .slice ((slS a0_1 1 0 (IntKind.wrap .i64 ((a1_1.n : Int) + 12))).a) ((slS a0_1 1 0 (IntKind.wrap .i64 ((a1_1.n : Int) + 12))).n) ((slS a0_1 1 0 (IntKind.wrap .i64 ((a1_1.n : Int) + 12))).c)), (6, .int .i64 s9), (50, .bool s14)]) (fun (s14 : Bool) => []) h ?_ ?_
    · rintro s14 w15 f1 h ⟨t_b1, t_b3, _⟩ so; refine wk_then ?_
      refine wc_cond rfl h (fun h => ?_) (fun h => ?_)
      · refine wc_seq ?_
        refine wc_region ?_
        refine wl_val (at_assign rfl) rfl ?_
        refine wl_nil ?_
        refine wk_prune [(4, .bool false)] ⟨rfl, trivial⟩ (fun f1 => ?_)
        refine wk_then ?_
        refine wc_ret ?_
        refine wk_blkR ?_
        refine wk_thenR ?_
        refine wk_thenR ?_
        refine wk_blkR ?_
        refine wk_thenR ?_
        exact wk_ret1 (x := false) rfl (by decide) rfl so h
      · refine wc_skip ?_
        refine wk_blkN ?_
        refine wk_prune [(2, .pointer (some (⟨b1, 0, none⟩ : Addr))), (3, .pointer (some (⟨b3, 0, none⟩ : Addr))), (5, .slice ((slS a0_1 1 0 (IntKind.wrap .i64 ((a1_1.n : Int) + 12))).a) ((slS a0_1 1 0 (IntKind.wrap .i64 ((a1_1.n : Int) + 12))).n) ((slS a0_1 1 0 (IntKind.wrap .i64 ((a1_1.n : Int) + 12))).c)), (6, .int .i64 s9)] ⟨rfl, rfl, rfl, rfl, trivial⟩ (fun f1 => ?_)
        refine wk_then ?_
        refine wc_region ?_
        refine wl_val (at_move rfl) rfl ?_
        refine wl_val (at_add rfl rfl) rfl ?_
        refine wl_val (at_assign rfl) rfl ?_
        refine wl_nil ?_
        exact wk_again ⟨((IntKind.wrap .i64 (s9 + 1))), _, ac_again ⟨rfl, rfl, rfl, rfl, trivial⟩, so, ⟨t_b1, t_b3, trivial⟩, h⟩
    · intro J13 h hJ13
      refine wc_wo [0, 0, 2, 6, 15, 31, 63, 63, 255, 511, 63, 1087, 63, 7231, 15423, 32767, 65535, 131071, 262143, 262143, 786431, 1835007, 4194303, 8388607, 16777215, 16777215, 67108863, 134217727, 268435455, 536870911, 1073741823] mixed (by kernel_rfl) so ?_; intro w16 hw so; rw [← hw] at h t_b1 t_b3; clear hw
      refine wo_pure (m' := 1) 0 rfl (by kernel_rfl) rfl rfl (fun H => at_move rfl) ?_
      refine wo_pure (m' := 3) 1 rfl (by kernel_rfl) rfl rfl (fun H => at_fieldAddr Try.underlying25 rfl rfl sz23 (by decide) rfl) ?_
      have q17 : cellAt w16.heap (⟨b3, 16, none⟩ : Addr) = some (.slice a1_1.a a1_1.n a1_1.c) := (t_b3.cell 16).trans (by first | rfl | simp [List.getElem?_append, ints_len, bools_len])
      refine wo_load (m' := 7) 2 (fun H => cellAt H (⟨b3, 16, none⟩ : Addr) = some (.slice a1_1.a a1_1.n a1_1.c)) rfl (by kernel_rfl) rfl rfl (fun H q17 => at_load (v := .slice a1_1.a a1_1.n a1_1.c) Try.underlying23 rfl rfl (q17)) q17 ?_
      refine wo_pure (m' := 15) 3 rfl (by kernel_rfl) rfl rfl (fun H => at_lenL Try.underlying23 rfl) ?_
      refine wo_pure (m' := 31) 4 rfl (by kernel_rfl) rfl rfl (fun H => at_lss rfl rfl) ?_
      refine wo_pure (m' := 63) 5 rfl (by kernel_rfl) rfl rfl (fun H => at_move rfl) ?_
      refine bif_ h (fun hb h => ?_) (fun hb h => ?_)
      · refine wo_set (t := 25) (v := .bool true) (congrArg Value.bool hb) ?_; clear hb
        refine wo_pureG (m' := 127) 6 rfl (by kernel_rfl) rfl (t := 25) rfl (by decide) rfl (fun H => at_move rfl) ?_
        refine wo_pureG (m' := 255) 7 rfl (by kernel_rfl) rfl (t := 25) rfl (by decide) rfl (fun H => at_move rfl) ?_
        obtain ⟨q18, q19, p20, q21, h⟩ := h
        refine wo_pureG (m' := 511) 8 rfl (by kernel_rfl) rfl (t := 25) rfl (by decide) rfl (fun H => at_ixAddrL Try.underlying23 sz5 (sl_some q21) rfl q18 q19) ?_
        refine wo_pureG (m' := 1535) 10 rfl (by kernel_rfl) rfl (t := 25) rfl (by decide) rfl (fun H => at_fieldAddr Try.underlying25 rfl rfl sz23 (by decide) rfl) ?_
        refine wo_pureG (m' := 5631) 12 rfl (by kernel_rfl) rfl (t := 25) rfl (by decide) rfl (fun H => at_move rfl) ?_
        obtain ⟨x22, q23, h⟩ := h
        refine wo_loadG (m' := 6143) 9 (fun H => cellAt H (p20.add (Int.toNat s9 * 1)) = some (.int .u8 x22)) rfl (by kernel_rfl) rfl (t := 25) rfl (by decide) rfl (fun H q23 => at_load Try.underlying5 rfl rfl q23) q23 ?_
        have q24 : cellAt w16.heap (⟨b3, 16, none⟩ : Addr) = some (.slice a1_1.a a1_1.n a1_1.c) := (t_b3.cell 16).trans (by first | rfl | simp [List.getElem?_append, ints_len, bools_len])
        refine wo_loadG (m' := 8191) 11 (fun H => cellAt H (⟨b3, 16, none⟩ : Addr) = some (.slice a1_1.a a1_1.n a1_1.c)) rfl (by kernel_rfl) rfl (t := 25) rfl (by decide) rfl (fun H q24 => at_load (v := .slice a1_1.a a1_1.n a1_1.c) Try.underlying23 rfl rfl (q24)) q24 ?_
        obtain ⟨q25, q26, p27, q28, h⟩ := h
        refine wo_pureG (m' := 16383) 13 rfl (by kernel_rfl) rfl (t := 25) rfl (by decide) rfl (fun H => at_ixAddrL Try.underlying23 sz5 (sl_some q28) rfl q25 q26) ?_
        obtain ⟨x29, q30, h⟩ := h
        refine wo_loadG (m' := 32767) 14 (fun H => cellAt H (p27.add (Int.toNat s9 * 1)) = some (.int .u8 x29)) rfl (by kernel_rfl) rfl (t := 25) rfl (by decide) rfl (fun H q30 => at_load Try.underlying5 rfl rfl q30) q30 ?_
        refine wo_pureG (m' := 65535) 15 rfl (by kernel_rfl) rfl (t := 25) rfl (by decide) rfl (fun H => at_neq rfl rfl) ?_
        refine wo_pure (m' := 131071) 16 rfl (by kernel_rfl) rfl rfl (fun H => at_pick_t rfl rfl) ?_
        refine wo_pure (m' := 262143) 17 rfl (by kernel_rfl) rfl rfl (fun H => at_move rfl) ?_
        refine bif_ h (fun hb h => ?_) (fun hb h => ?_)
        · refine wo_set (t := 37) (v := .bool true) (congrArg Value.bool hb) ?_; clear hb
          refine wo_off (m' := 524287) 18 rfl (by kernel_rfl) rfl (t := 37) rfl (by decide) rfl ?_
          refine wo_off (m' := 1048575) 19 rfl (by kernel_rfl) rfl (t := 37) rfl (by decide) rfl ?_
          refine wo_off (m' := 2097151) 20 rfl (by kernel_rfl) rfl (t := 37) rfl (by decide) rfl ?_
          refine wo_off (m' := 4194303) 21 rfl (by kernel_rfl) rfl (t := 37) rfl (by decide) rfl ?_
          refine wo_off (m' := 8388607) 22 rfl (by kernel_rfl) rfl (t := 37) rfl (by decide) rfl ?_
          refine wo_off (m' := 16777215) 23 rfl (by kernel_rfl) rfl (t := 37) rfl (by decide) rfl ?_
          refine wo_off' (m' := 33554431) 24 rfl (by kernel_rfl) rfl (t := 43) rfl (by decide) rfl ?_
          refine wo_off' (m' := 67108863) 25 rfl (by kernel_rfl) rfl (t := 43) rfl (by decide) rfl ?_
          refine wo_off' (m' := 134217727) 26 rfl (by kernel_rfl) rfl (t := 43) rfl (by decide) rfl ?_
          refine wo_off' (m' := 268435455) 27 rfl (by kernel_rfl) rfl (t := 43) rfl (by decide) rfl ?_
          refine wo_off' (m' := 536870911) 28 rfl (by kernel_rfl) rfl (t := 43) rfl (by decide) rfl ?_
          refine wo_off (m' := 1073741823) 29 rfl (by kernel_rfl) rfl (t := 37) rfl (by decide) rfl ?_
          refine wo_pure (m' := 2147483647) 30 rfl (by kernel_rfl) rfl rfl (fun H => at_pick_t rfl rfl) ?_
          refine wo_done (by kernel_rfl) ?_
          exact wk_prune [(2, .pointer (some (⟨b1, 0, none⟩ : Addr))), (3, .pointer (some (⟨b3, 0, none⟩ : Addr))), (5, .slice ((slS a0_1 1 0 (IntKind.wrap .i64 ((a1_1.n : Int) + 12))).a) ((slS a0_1 1 0 (IntKind.wrap .i64 ((a1_1.n : Int) + 12))).n) ((slS a0_1 1 0 (IntKind.wrap .i64 ((a1_1.n : Int) + 12))).c)), (6, .int .i64 s9), (50, .bool true)] ⟨rfl, rfl, rfl, rfl, rfl, trivial⟩ (fun f1 => hJ13 (true) _ f1 h ⟨t_b1, t_b3, trivial⟩ so)
        · refine wo_set (t := 37) (v := .bool false) (congrArg Value.bool hb) ?_; clear hb
          refine wo_pureG (m' := 524287) 18 rfl (by kernel_rfl) rfl (t := 37) rfl (by decide) rfl (fun H => at_move rfl) ?_
          refine wo_pureG (m' := 1048575) 19 rfl (by kernel_rfl) rfl (t := 37) rfl (by decide) rfl (fun H => at_fieldAddr Try.underlying25 rfl rfl sz23 (by decide) rfl) ?_
          have q31 : cellAt w16.heap (⟨b3, 16, none⟩ : Addr) = some (.slice a1_1.a a1_1.n a1_1.c) := (t_b3.cell 16).trans (by first | rfl | simp [List.getElem?_append, ints_len, bools_len])
          refine wo_loadG (m' := 2097151) 20 (fun H => cellAt H (⟨b3, 16, none⟩ : Addr) = some (.slice a1_1.a a1_1.n a1_1.c)) rfl (by kernel_rfl) rfl (t := 37) rfl (by decide) rfl (fun H q31 => at_load (v := .slice a1_1.a a1_1.n a1_1.c) Try.underlying23 rfl rfl (q31)) q31 ?_
          refine wo_pureG (m' := 4194303) 21 rfl (by kernel_rfl) rfl (t := 37) rfl (by decide) rfl (fun H => at_lenL Try.underlying23 rfl) ?_
          refine wo_pureG (m' := 8388607) 22 rfl (by kernel_rfl) rfl (t := 37) rfl (by decide) rfl (fun H => at_geq rfl rfl) ?_
          refine wo_pureG (m' := 16777215) 23 rfl (by kernel_rfl) rfl (t := 37) rfl (by decide) rfl (fun H => at_move rfl) ?_
          refine bif_ h (fun hb h => ?_) (fun hb h => ?_)
          · refine wo_set (t := 43) (v := .bool true) (congrArg Value.bool hb) ?_; clear hb
            refine wo_pureG (m' := 33554431) 24 rfl (by kernel_rfl) rfl (t := 43) rfl (by decide) rfl (fun H => at_move rfl) ?_
            refine wo_pureG (m' := 67108863) 25 rfl (by kernel_rfl) rfl (t := 43) rfl (by decide) rfl (fun H => at_move rfl) ?_
            obtain ⟨q32, q33, h⟩ := h
            refine wo_pureG (m' := 134217727) 26 rfl (by kernel_rfl) rfl (t := 43) rfl (by decide) rfl (fun H => at_ixAddrL Try.underlying23 sz5 (sl_some q21) rfl q32 q33) ?_
            obtain ⟨x34, q35, h⟩ := h
            refine wo_loadG (m' := 268435455) 27 (fun H => cellAt H (p20.add (Int.toNat s9 * 1)) = some (.int .u8 x34)) rfl (by kernel_rfl) rfl (t := 43) rfl (by decide) rfl (fun H q35 => at_load Try.underlying5 rfl rfl q35) q35 ?_
            refine wo_pureG (m' := 536870911) 28 rfl (by kernel_rfl) rfl (t := 43) rfl (by decide) rfl (fun H => at_neq rfl rfl) ?_
            refine wo_pureG (m' := 1073741823) 29 rfl (by kernel_rfl) rfl (t := 37) rfl (by decide) rfl (fun H => at_pick_t rfl rfl) ?_
            refine wo_pure (m' := 2147483647) 30 rfl (by kernel_rfl) rfl rfl (fun H => at_pick_f rfl rfl) ?_
            refine wo_done (by kernel_rfl) ?_
            exact wk_prune [(2, .pointer (some (⟨b1, 0, none⟩ : Addr))), (3, .pointer (some (⟨b3, 0, none⟩ : Addr))), (5, .slice ((slS a0_1 1 0 (IntKind.wrap .i64 ((a1_1.n : Int) + 12))).a) ((slS a0_1 1 0 (IntKind.wrap .i64 ((a1_1.n : Int) + 12))).n) ((slS a0_1 1 0 (IntKind.wrap .i64 ((a1_1.n : Int) + 12))).c)), (6, .int .i64 s9), (50, .bool (x34 != 77))] ⟨rfl, rfl, rfl, rfl, rfl, trivial⟩ (fun f1 => hJ13 ((x34 != 77)) _ f1 h ⟨t_b1, t_b3, trivial⟩ so)
          · refine wo_set (t := 43) (v := .bool false) (congrArg Value.bool hb) ?_; clear hb
            refine wo_off (m' := 33554431) 24 rfl (by kernel_rfl) rfl (t := 43) rfl (by decide) rfl ?_
            refine wo_off (m' := 67108863) 25 rfl (by kernel_rfl) rfl (t := 43) rfl (by decide) rfl ?_
            refine wo_off (m' := 134217727) 26 rfl (by kernel_rfl) rfl (t := 43) rfl (by decide) rfl ?_
            refine wo_off (m' := 268435455) 27 rfl (by kernel_rfl) rfl (t := 43) rfl (by decide) rfl ?_
            refine wo_off (m' := 536870911) 28 rfl (by kernel_rfl) rfl (t := 43) rfl (by decide) rfl ?_
            refine wo_pureG (m' := 1073741823) 29 rfl (by kernel_rfl) rfl (t := 37) rfl (by decide) rfl (fun H => at_pick_f rfl rfl) ?_
            refine wo_pure (m' := 2147483647) 30 rfl (by kernel_rfl) rfl rfl (fun H => at_pick_f rfl rfl) ?_
            refine wo_done (by kernel_rfl) ?_
            exact wk_prune [(2, .pointer (some (⟨b1, 0, none⟩ : Addr))), (3, .pointer (some (⟨b3, 0, none⟩ : Addr))), (5, .slice ((slS a0_1 1 0 (IntKind.wrap .i64 ((a1_1.n : Int) + 12))).a) ((slS a0_1 1 0 (IntKind.wrap .i64 ((a1_1.n : Int) + 12))).n) ((slS a0_1 1 0 (IntKind.wrap .i64 ((a1_1.n : Int) + 12))).c)), (6, .int .i64 s9), (50, .bool false)] ⟨rfl, rfl, rfl, rfl, rfl, trivial⟩ (fun f1 => hJ13 (false) _ f1 h ⟨t_b1, t_b3, trivial⟩ so)
      · refine wo_set (t := 25) (v := .bool false) (congrArg Value.bool hb) ?_; clear hb
        refine wo_off (m' := 127) 6 rfl (by kernel_rfl) rfl (t := 25) rfl (by decide) rfl ?_
        refine wo_off (m' := 255) 7 rfl (by kernel_rfl) rfl (t := 25) rfl (by decide) rfl ?_
        refine wo_off (m' := 511) 8 rfl (by kernel_rfl) rfl (t := 25) rfl (by decide) rfl ?_
        refine wo_off (m' := 1023) 9 rfl (by kernel_rfl) rfl (t := 25) rfl (by decide) rfl ?_
        refine wo_off (m' := 2047) 10 rfl (by kernel_rfl) rfl (t := 25) rfl (by decide) rfl ?_
        refine wo_off (m' := 4095) 11 rfl (by kernel_rfl) rfl (t := 25) rfl (by decide) rfl ?_
        refine wo_off (m' := 8191) 12 rfl (by kernel_rfl) rfl (t := 25) rfl (by decide) rfl ?_
        refine wo_off (m' := 16383) 13 rfl (by kernel_rfl) rfl (t := 25) rfl (by decide) rfl ?_
        refine wo_off (m' := 32767) 14 rfl (by kernel_rfl) rfl (t := 25) rfl (by decide) rfl ?_
        refine wo_off (m' := 65535) 15 rfl (by kernel_rfl) rfl (t := 25) rfl (by decide) rfl ?_
        refine wo_pure (m' := 131071) 16 rfl (by kernel_rfl) rfl rfl (fun H => at_pick_f rfl rfl) ?_
        refine wo_pure (m' := 262143) 17 rfl (by kernel_rfl) rfl rfl (fun H => at_move rfl) ?_
        refine wo_pureG (m' := 524287) 18 rfl (by kernel_rfl) rfl (t := 37) rfl (by decide) rfl (fun H => at_move rfl) ?_
        refine wo_pureG (m' := 1048575) 19 rfl (by kernel_rfl) rfl (t := 37) rfl (by decide) rfl (fun H => at_fieldAddr Try.underlying25 rfl rfl sz23 (by decide) rfl) ?_
        have q36 : cellAt w16.heap (⟨b3, 16, none⟩ : Addr) = some (.slice a1_1.a a1_1.n a1_1.c) := (t_b3.cell 16).trans (by first | rfl | simp [List.getElem?_append, ints_len, bools_len])
        refine wo_loadG (m' := 2097151) 20 (fun H => cellAt H (⟨b3, 16, none⟩ : Addr) = some (.slice a1_1.a a1_1.n a1_1.c)) rfl (by kernel_rfl) rfl (t := 37) rfl (by decide) rfl (fun H q36 => at_load (v := .slice a1_1.a a1_1.n a1_1.c) Try.underlying23 rfl rfl (q36)) q36 ?_
        refine wo_pureG (m' := 4194303) 21 rfl (by kernel_rfl) rfl (t := 37) rfl (by decide) rfl (fun H => at_lenL Try.underlying23 rfl) ?_
        refine wo_pureG (m' := 8388607) 22 rfl (by kernel_rfl) rfl (t := 37) rfl (by decide) rfl (fun H => at_geq rfl rfl) ?_
        refine wo_pureG (m' := 16777215) 23 rfl (by kernel_rfl) rfl (t := 37) rfl (by decide) rfl (fun H => at_move rfl) ?_
        refine bif_ h (fun hb h => ?_) (fun hb h => ?_)
        · refine wo_set (t := 43) (v := .bool true) (congrArg Value.bool hb) ?_; clear hb
          refine wo_pureG (m' := 33554431) 24 rfl (by kernel_rfl) rfl (t := 43) rfl (by decide) rfl (fun H => at_move rfl) ?_
          refine wo_pureG (m' := 67108863) 25 rfl (by kernel_rfl) rfl (t := 43) rfl (by decide) rfl (fun H => at_move rfl) ?_
          obtain ⟨q37, q38, p39, q40, h⟩ := h
          refine wo_pureG (m' := 134217727) 26 rfl (by kernel_rfl) rfl (t := 43) rfl (by decide) rfl (fun H => at_ixAddrL Try.underlying23 sz5 (sl_some q40) rfl q37 q38) ?_
          obtain ⟨x41, q42, h⟩ := h
          refine wo_loadG (m' := 268435455) 27 (fun H => cellAt H (p39.add (Int.toNat s9 * 1)) = some (.int .u8 x41)) rfl (by kernel_rfl) rfl (t := 43) rfl (by decide) rfl (fun H q42 => at_load Try.underlying5 rfl rfl q42) q42 ?_
          refine wo_pureG (m' := 536870911) 28 rfl (by kernel_rfl) rfl (t := 43) rfl (by decide) rfl (fun H => at_neq rfl rfl) ?_
          refine wo_pureG (m' := 1073741823) 29 rfl (by kernel_rfl) rfl (t := 37) rfl (by decide) rfl (fun H => at_pick_t rfl rfl) ?_
          refine wo_pure (m' := 2147483647) 30 rfl (by kernel_rfl) rfl rfl (fun H => at_pick_f rfl rfl) ?_
          refine wo_done (by kernel_rfl) ?_
          exact wk_prune [(2, .pointer (some (⟨b1, 0, none⟩ : Addr))), (3, .pointer (some (⟨b3, 0, none⟩ : Addr))), (5, .slice ((slS a0_1 1 0 (IntKind.wrap .i64 ((a1_1.n : Int) + 12))).a) ((slS a0_1 1 0 (IntKind.wrap .i64 ((a1_1.n : Int) + 12))).n) ((slS a0_1 1 0 (IntKind.wrap .i64 ((a1_1.n : Int) + 12))).c)), (6, .int .i64 s9), (50, .bool (x41 != 77))] ⟨rfl, rfl, rfl, rfl, rfl, trivial⟩ (fun f1 => hJ13 ((x41 != 77)) _ f1 h ⟨t_b1, t_b3, trivial⟩ so)
        · refine wo_set (t := 43) (v := .bool false) (congrArg Value.bool hb) ?_; clear hb
          refine wo_off (m' := 33554431) 24 rfl (by kernel_rfl) rfl (t := 43) rfl (by decide) rfl ?_
          refine wo_off (m' := 67108863) 25 rfl (by kernel_rfl) rfl (t := 43) rfl (by decide) rfl ?_
          refine wo_off (m' := 134217727) 26 rfl (by kernel_rfl) rfl (t := 43) rfl (by decide) rfl ?_
          refine wo_off (m' := 268435455) 27 rfl (by kernel_rfl) rfl (t := 43) rfl (by decide) rfl ?_
          refine wo_off (m' := 536870911) 28 rfl (by kernel_rfl) rfl (t := 43) rfl (by decide) rfl ?_
          refine wo_pureG (m' := 1073741823) 29 rfl (by kernel_rfl) rfl (t := 37) rfl (by decide) rfl (fun H => at_pick_f rfl rfl) ?_
          refine wo_pure (m' := 2147483647) 30 rfl (by kernel_rfl) rfl rfl (fun H => at_pick_f rfl rfl) ?_
          refine wo_done (by kernel_rfl) ?_
          exact wk_prune [(2, .pointer (some (⟨b1, 0, none⟩ : Addr))), (3, .pointer (some (⟨b3, 0, none⟩ : Addr))), (5, .slice ((slS a0_1 1 0 (IntKind.wrap .i64 ((a1_1.n : Int) + 12))).a) ((slS a0_1 1 0 (IntKind.wrap .i64 ((a1_1.n : Int) + 12))).n) ((slS a0_1 1 0 (IntKind.wrap .i64 ((a1_1.n : Int) + 12))).c)), (6, .int .i64 s9), (50, .bool false)] ⟨rfl, rfl, rfl, rfl, rfl, trivial⟩ (fun f1 => hJ13 (false) _ f1 h ⟨t_b1, t_b3, trivial⟩ so)
  · refine wc_exit ?_
    refine wk_thenE ?_
    refine wk_thenE ?_
    refine wk_blkE ?_
    refine wk_prune [(2, .pointer (some (⟨b1, 0, none⟩ : Addr))), (3, .pointer (some (⟨b3, 0, none⟩ : Addr)))] ⟨rfl, rfl, trivial⟩ (fun f1 => ?_)
    refine wk_then ?_
    refine wc_seq ?_
    refine wc_region ?_
    refine wl_val (at_fieldAddr Try.underlying25 rfl rfl sz22 (by decide) rfl) rfl ?_
    refine wl_val (at_loadA (cs := (c22 a0_0)) Try.underlying22 rfl (by rw [len22]; exact sz22) rfl (ldA_sub (pre := []) (sub := (c22 a0_0)) (post := ([.slice a0_1.a a0_1.n a0_1.c])) (by first | exact t_b1 | (have q := t_b1; simp only [List.append_assoc, List.cons_append, List.nil_append, List.append_nil] at q ⊢; exact q)) (by first | rfl | simp [ints_len, bools_len]))) rfl ?_
    refine wl_val (at_fieldAddr Try.underlying25 rfl rfl sz22 (by decide) rfl) rfl ?_
    refine wl_val (at_loadA (cs := (c22 a1_0)) Try.underlying22 rfl (by rw [len22]; exact sz22) rfl (ldA_sub (pre := []) (sub := (c22 a1_0)) (post := ([.slice a1_1.a a1_1.n a1_1.c])) (by first | exact t_b3 | (have q := t_b3; simp only [List.append_assoc, List.cons_append, List.nil_append, List.append_nil] at q ⊢; exact q)) (by first | rfl | simp [ints_len, bools_len]))) rfl ?_
    refine wl_val (at_eqlA (xs := (c22 a0_0)) (ys := (c22 a1_0)) rfl rfl (by kernel_rfl) (eqv_ints Try.underlying22 Try.underlying5 sz5)) rfl ?_
    refine wl_val (at_move rfl) rfl ?_
    refine bif_ h (fun hb h => ?_) (fun hb h => ?_)
    · refine wl_set (t := 56) (v := .bool true) (congrArg Value.bool hb) ?_; clear hb
      refine wl_on (t := 56) rfl (by decide) rfl ?_
      refine wl_val (at_fieldAddr Try.underlying25 rfl rfl sz23 (by decide) rfl) rfl ?_
      refine wl_on (t := 56) rfl (by decide) rfl ?_
      refine wl_val (at_load (v := .slice a0_1.a a0_1.n a0_1.c) Try.underlying23 rfl rfl ((t_b1.cell 16).trans (by first | rfl | simp [List.getElem?_append, ints_len, bools_len]))) rfl ?_
      refine wl_on (t := 56) rfl (by decide) rfl ?_
      refine wl_val (at_lenL Try.underlying23 rfl) rfl ?_
      refine wl_on (t := 56) rfl (by decide) rfl ?_
      refine wl_val (at_fieldAddr Try.underlying25 rfl rfl sz23 (by decide) rfl) rfl ?_
      refine wl_on (t := 56) rfl (by decide) rfl ?_
      refine wl_val (at_load (v := .slice a1_1.a a1_1.n a1_1.c) Try.underlying23 rfl rfl ((t_b3.cell 16).trans (by first | rfl | simp [List.getElem?_append, ints_len, bools_len]))) rfl ?_
      refine wl_on (t := 56) rfl (by decide) rfl ?_
      refine wl_val (at_lenL Try.underlying23 rfl) rfl ?_
      refine wl_on (t := 56) rfl (by decide) rfl ?_
      refine wl_val (at_eql rfl rfl) rfl ?_
      refine wl_val (at_pick_t rfl rfl) rfl ?_
      refine wl_val (at_assign rfl) rfl ?_
      refine wl_nil ?_
      refine wk_prune [(4, .bool ((a0_1.n : Int) == (a1_1.n : Int)))] ⟨rfl, trivial⟩ (fun f1 => ?_)
      refine wk_then ?_
      refine wc_ret ?_
      exact wk_ret1 (x := ((a0_1.n : Int) == (a1_1.n : Int))) rfl (by decide) rfl so h
    · refine wl_set (t := 56) (v := .bool false) (congrArg Value.bool hb) ?_; clear hb
      refine wl_off (t := 56) rfl (by decide) rfl ?_
      refine wl_off (t := 56) rfl (by decide) rfl ?_
      refine wl_off (t := 56) rfl (by decide) rfl ?_
      refine wl_off (t := 56) rfl (by decide) rfl ?_
      refine wl_off (t := 56) rfl (by decide) rfl ?_
      refine wl_off (t := 56) rfl (by decide) rfl ?_
      refine wl_off (t := 56) rfl (by decide) rfl ?_
      refine wl_val (at_pick_f rfl rfl) rfl ?_
      refine wl_val (at_assign rfl) rfl ?_
      refine wl_nil ?_
      refine wk_prune [(4, .bool false)] ⟨rfl, trivial⟩ (fun f1 => ?_)
      refine wk_then ?_
      refine wc_ret ?_
      exact wk_ret1 (x := false) rfl (by decide) rfl so h

/-- mosaic/mosaiclaw04.codes -/
def mosaiclaw04_codes.enc : Bool → Value := fun r => .bool r
def mosaiclaw04_codes.s (a0 : Option Addr) (a1 : Option Addr) (a2 : Int) (H0 : Hp) (Q : Bool → Hp → Prop) : Prop :=
  Gn [] H0 (fun (b1 : Nat) (H2 : Hp) => Gn [] H2 (fun (b3 : Nat) (H4 : Hp) => Gn [] H4 (fun (b5 : Nat) (H6 : Hp) => Bk H6 b5 4 [.bool false] → (∃ k7, Fix (fun (rec12 : Int → Hp → Prop) (s9 : Int) (H10 : Hp) => if decide (s9 < 256) = true then (huff_Table_Code.s a0 (IntKind.wrap .u8 s9) H10 (fun x13 H14 => Pv [b1, b3] H10 H14 ∧ (mosaicref04_Table_Code.s a1 (IntKind.wrap .u8 s9) H14 (fun x16 H17 => Pv [b1, b3] H14 H17 ∧ (Join (fun (s20 : Bool) (H21 : Hp) => if s20 = true then (st H21 (⟨b5, 0, none⟩ : Addr) (.bool false) (fun H22 => ldB H22 (⟨b5, 0, none⟩ : Addr) (fun x25 => Q x25 H22))) else (rec12 ((IntKind.wrap .i64 (s9 + 1))) H21)) (fun (J19 : Bool → Hp → Prop) => if (x13.1 != x16.1) = true then (J19 (true) H17) else (J19 ((x13.2 != x16.2)) H17))))))) else (huff_Table_All.s a0 H10 (fun x26 H27 => Pv [b1, b3] H10 H27 ∧ (Gn [] H27 (fun (b29 : Nat) (H31 : Hp) => Bk H31 b1 35 [.pointer a1] → (Bk H31 b3 3 [.int .i64 a2] → (Bk H31 b29 3 [.int .i64 0] → (Join (fun (s33 : (List Nat)) (H34 : Hp) => st H34 (⟨b29, 0, none⟩ : Addr) (.int .i64 0) (fun H35 => Rg H35 (fun r36 D44 H39 => huff_Table_All_1.s (fun (x40 : Int × ByteArray) (H42 : Hp) (K41 : Bool → Hp → Prop) => Lp H42 (D44 + 1) r36 ∧ (Lp H42 (D44 + 1) r36 ∧ Up (putL H42 (D44 + 1) (bsy r36)) (fun H45 => Join (fun (s47 : Bool) (H48 : Hp) => if s47 = true then (st H48 (⟨b5, 0, none⟩ : Addr) (.bool false) (fun H49 => Lp H49 (D44 + 1) (bsy r36) ∧ K41 false (putL H49 (D44 + 1) (dn r36 .ret)))) else (ldI .i64 H48 (⟨b29, 0, none⟩ : Addr) (fun x50 => st H48 (⟨b29, 0, none⟩ : Addr) (.int .i64 (IntKind.wrap .i64 (x50 + 1))) (fun H52 => Lp H52 (D44 + 1) (bsy r36) ∧ K41 true (putL H52 (D44 + 1) r36))))) (fun (J46 : Bool → Hp → Prop) => ldI .i64 H45 (⟨b29, 0, none⟩ : Addr) (fun x54 => ldP H45 (⟨b1, 0, none⟩ : Addr) (fun x56 => someA x56 (fun p58 => ldL H45 (p58.add 1) (fun x60 => if decide ((x60.n : Int) ≤ x54) = true then (J46 (true) H45) else (ldP H45 (⟨b1, 0, none⟩ : Addr) (fun x62 => someA x62 (fun p64 => ldL H45 (p64.add 0) (fun x66 => ldI .i64 H45 (⟨b29, 0, none⟩ : Addr) (fun x68 => 0 ≤ x68 ∧ x68 < (x66.n : Int) ∧ someA x66.a (fun p72 => ldI .u8 H45 (p72.add (Int.toNat x68 * 1)) (fun x74 => if (x40.1 != x74) = true then (J46 (true) H45) else (ldP H45 (⟨b1, 0, none⟩ : Addr) (fun x76 => someA x76 (fun p78 => ldL H45 (p78.add 1) (fun x80 => ldI .i64 H45 (⟨b29, 0, none⟩ : Addr) (fun x82 => 0 ≤ x82 ∧ x82 < (x80.n : Int) ∧ someA x80.a (fun p86 => ldS H45 (p86.add (Int.toNat x82 * 1)) (fun x88 => J46 ((!(x40.2.toList == x88.toList))) H45)))))))))))))))))))))) x26 H39 (fun _ H43 => (Lp H43 (D44 + 1) r36 ∧ Up (putL H43 (D44 + 1) (exh r36)) (fun H91 => ldI .i64 H91 (⟨b29, 0, none⟩ : Addr) (fun x93 => ldP H91 (⟨b1, 0, none⟩ : Addr) (fun x95 => someA x95 (fun p97 => ldL H91 (p97.add 1) (fun x99 => st H91 (⟨b5, 0, none⟩ : Addr) (.bool (x93 == (x99.n : Int))) (fun H101 => tkD (D44 :: s33) H101 (fun H102 => ldB H102 (⟨b5, 0, none⟩ : Addr) (fun x104 => Q x104 H102))))))))) ∨ (Lp H43 (D44 + 1) (dn r36 .ret) ∧ Up (putL H43 (D44 + 1) (exh (dn r36 .ret))) (fun H105 => tkD (D44 :: s33) H105 (fun H106 => ldB H106 (⟨b5, 0, none⟩ : Addr) (fun x108 => Q x108 H106)))))))) (fun (J32 : (List Nat) → Hp → Prop) => Rg H31 (fun r109 D117 H112 => huff_Table_All_1.s (fun (x113 : Int × ByteArray) (H115 : Hp) (K114 : Bool → Hp → Prop) => Lp H115 (D117 + 1) r109 ∧ (Lp H115 (D117 + 1) r109 ∧ Up (putL H115 (D117 + 1) (bsy r109)) (fun H118 => ldI .i64 H118 (⟨b29, 0, none⟩ : Addr) (fun x119 => ldI .i64 H118 (⟨b3, 0, none⟩ : Addr) (fun x121 => if (x119 == x121) = true then (Lp H118 (D117 + 1) (bsy r109) ∧ K114 false (putL H118 (D117 + 1) (dn r109 (.exit 2)))) else (Join (fun (s124 : Bool) (H125 : Hp) => if s124 = true then (st H125 (⟨b5, 0, none⟩ : Addr) (.bool false) (fun H126 => Lp H126 (D117 + 1) (bsy r109) ∧ K114 false (putL H126 (D117 + 1) (dn r109 .ret)))) else (ldI .i64 H125 (⟨b29, 0, none⟩ : Addr) (fun x127 => st H125 (⟨b29, 0, none⟩ : Addr) (.int .i64 (IntKind.wrap .i64 (x127 + 1))) (fun H129 => Lp H129 (D117 + 1) (bsy r109) ∧ K114 true (putL H129 (D117 + 1) r109))))) (fun (J123 : Bool → Hp → Prop) => ldI .i64 H118 (⟨b29, 0, none⟩ : Addr) (fun x131 => ldP H118 (⟨b1, 0, none⟩ : Addr) (fun x133 => someA x133 (fun p135 => ldL H118 (p135.add 1) (fun x137 => if decide ((x137.n : Int) ≤ x131) = true then (J123 (true) H118) else (ldP H118 (⟨b1, 0, none⟩ : Addr) (fun x139 => someA x139 (fun p141 => ldL H118 (p141.add 0) (fun x143 => ldI .i64 H118 (⟨b29, 0, none⟩ : Addr) (fun x145 => 0 ≤ x145 ∧ x145 < (x143.n : Int) ∧ someA x143.a (fun p149 => ldI .u8 H118 (p149.add (Int.toNat x145 * 1)) (fun x151 => if (x113.1 != x151) = true then (J123 (true) H118) else (ldP H118 (⟨b1, 0, none⟩ : Addr) (fun x153 => someA x153 (fun p155 => ldL H118 (p155.add 1) (fun x157 => ldI .i64 H118 (⟨b29, 0, none⟩ : Addr) (fun x159 => 0 ≤ x159 ∧ x159 < (x157.n : Int) ∧ someA x157.a (fun p163 => ldS H118 (p163.add (Int.toNat x159 * 1)) (fun x165 => J123 ((!(x113.2.toList == x165.toList))) H118))))))))))))))))))))))))) x26 H112 (fun _ H116 => (Lp H116 (D117 + 1) r109 ∧ Up (putL H116 (D117 + 1) (exh r109)) (fun H168 => J32 ((D117 :: [])) H168)) ∨ (Lp H116 (D117 + 1) (dn r109 (.exit 2)) ∧ Up (putL H116 (D117 + 1) (exh (dn r109 (.exit 2)))) (fun H169 => J32 ((D117 :: [])) H169)) ∨ (Lp H116 (D117 + 1) (dn r109 .ret) ∧ Up (putL H116 (D117 + 1) (exh (dn r109 .ret))) (fun H170 => tkD (D117 :: []) H170 (fun H171 => ldB H171 (⟨b5, 0, none⟩ : Addr) (fun x173 => Q x173 H171))))))))))))))) k7 (0) H6))))
set_option maxRecDepth 20000 in
set_option maxHeartbeats 4000000 in
theorem mosaiclaw04_codes.calls (a0 : Option Addr) (a1 : Option Addr) (a2 : Int) (w0 : World) (Q : Bool → Hp → Prop) (h : mosaiclaw04_codes.s a0 a1 a2 w0.heap Q) :
    Ca Try.prog 19 #[.pointer a0, .pointer a1, .int .i64 a2] w0 (Rt mosaiclaw04_codes.enc Q w0) := by
  refine ca_startM (c := _) Try.func19 rfl Try.ntmps19 rfl ?_
  have so : Sm w0 w0 := Sm.refl w0
  unfold mosaiclaw04_codes.s at h
  refine wc_prune [(0, .pointer a0), (1, .pointer a1), (2, .int .i64 a2)] ⟨rfl, rfl, rfl, trivial⟩ (fun f1 => ?_)
  refine wc_seq ?_
  refine wc_region ?_
  refine wl_newT (T := 35) (cs := [.pointer a1]) (ef_box rfl rfl) rfl so ?_; intro b1 w2 hb_b1 t_b1 k_b1 so
  have g_b1 := Nat.le_of_eq hb_b1.symm
  have hc := k_b1.ch (F := [])
  replace h := h b1 _ hc g_b1 t_b1.lt; clear hc
  refine wl_newT (T := 3) (cs := [.int .i64 a2]) (ef_box rfl rfl) rfl so ?_; intro b3 w4 hb_b3 t_b3 k_b3 so
  have g_b3 := Nat.le_of_eq hb_b3.symm
  have hc := k_b3.ch (F := [])
  have n_b1_b3 : b1 ≠ b3 := fun e => by have := t_b1.lt; omega
  replace t_b1 := t_b1.keep k_b3
  replace h := h b3 _ hc g_b3 t_b3.lt; clear hc
  refine wl_newT (T := 4) (cs := [.bool false]) (ef_alloc zero4 rfl) rfl so ?_; intro b5 w6 hb_b5 t_b5 k_b5 so
  have g_b5 := Nat.le_of_eq hb_b5.symm
  have hc := k_b5.ch (F := [])
  have n_b1_b5 : b1 ≠ b5 := fun e => by have := t_b1.lt; omega
  replace t_b1 := t_b1.keep k_b5
  have n_b3_b5 : b3 ≠ b5 := fun e => by have := t_b3.lt; omega
  replace t_b3 := t_b3.keep k_b5
  refine wl_nil ?_
  refine wk_prune [(0, .pointer a0), (4, .pointer (some (⟨b1, 0, none⟩ : Addr))), (5, .pointer (some (⟨b3, 0, none⟩ : Addr))), (6, .pointer (some (⟨b5, 0, none⟩ : Addr)))] ⟨rfl, rfl, rfl, rfl, trivial⟩ (fun f1 => ?_)
  refine wk_then ?_
  refine wc_seq ?_
  refine wc_seq ?_
  refine wc_region ?_
  refine wl_val (at_assign rfl) rfl ?_
  refine wl_nil ?_
  refine wk_prune [(0, .pointer a0), (4, .pointer (some (⟨b1, 0, none⟩ : Addr))), (5, .pointer (some (⟨b3, 0, none⟩ : Addr))), (6, .pointer (some (⟨b5, 0, none⟩ : Addr))), (7, .int .i64 0)] ⟨rfl, rfl, rfl, rfl, rfl, trivial⟩ (fun f1 => ?_)
  refine wk_then ?_
  refine wc_block ?_
  replace h := h b5 _ hc g_b5 t_b5.lt; clear hc
  replace h := h t_b5
  obtain ⟨k7, h⟩ := h
  refine wc_loop (fun k a w => ∃ (s9 : Int) (f1 : Nat → Value), a = ac 126 (en f1 [(0, .pointer a0), (4, .pointer (some (⟨b1, 0, none⟩ : Addr))), (5, .pointer (some (⟨b3, 0, none⟩ : Addr))), (6, .pointer (some (⟨b5, 0, none⟩ : Addr))), (7, .int .i64 s9)]) (mks []) ∧ Sm w0 w ∧ (Bk w.heap b1 35 [.pointer a1] ∧ Bk w.heap b3 3 [.int .i64 a2] ∧ True) ∧ Fix _ k s9 w.heap) k7 ⟨(0), _, ac_again ⟨rfl, rfl, rfl, rfl, rfl, trivial⟩, so, ⟨t_b1, t_b3, trivial⟩, h⟩ ?_
  rintro k8 a11 w10 ⟨s9, f1, rfl, so, ⟨t_b1, t_b3, _⟩, h⟩
  rcases k8 with _ | k8
  · exact h.elim
  replace h := Fix.un h; refine wc_in ?_
  refine wc_seq ?_
  refine wc_seq ?_
  refine wc_region ?_
  refine wl_val (at_move rfl) rfl ?_
  refine wl_val (at_lss rfl rfl) rfl ?_
  refine wl_nil ?_
  refine wk_prune [(0, .pointer a0), (4, .pointer (some (⟨b1, 0, none⟩ : Addr))), (5, .pointer (some (⟨b3, 0, none⟩ : Addr))), (6, .pointer (some (⟨b5, 0, none⟩ : Addr))), (7, .int .i64 s9), (19, .bool (decide (s9 < 256)))] ⟨rfl, rfl, rfl, rfl, rfl, rfl, trivial⟩ (fun f1 => ?_)
  refine wk_then ?_
  refine wc_cond rfl h (fun h => ?_) (fun h => ?_)
  · refine wc_skip ?_
    refine wk_prune [(0, .pointer a0), (4, .pointer (some (⟨b1, 0, none⟩ : Addr))), (5, .pointer (some (⟨b3, 0, none⟩ : Addr))), (6, .pointer (some (⟨b5, 0, none⟩ : Addr))), (7, .int .i64 s9)] ⟨rfl, rfl, rfl, rfl, rfl, trivial⟩ (fun f1 => ?_)
    refine wk_then ?_
    refine wc_seq ?_
    refine wc_block ?_
    refine wc_seq ?_
    refine wc_region ?_
    refine wl_val (at_move rfl) rfl ?_
    refine wl_val (at_move rfl) rfl ?_
    refine wl_val (at_conv Try.underlying3 Try.underlying5 rfl) rfl ?_
    refine wl_callF (huff_Table_Code.calls _ _ _ _ h) enter42 rfl trivial so ?_; intro x13 w14 h so
    obtain ⟨q15, h⟩ := h
    replace t_b1 := pv_bk q15 t_b1 (by simp)
    replace t_b3 := pv_bk q15 t_b3 (by simp)
    refine wl_val (at_move rfl) rfl ?_
    refine wl_val (at_extract rfl rfl) rfl ?_
    refine wl_val (at_extract rfl rfl) rfl ?_
    refine wl_val (at_assign rfl) rfl ?_
    refine wl_val (at_assign rfl) rfl ?_
    refine wl_nil ?_
    refine wk_prune [(0, .pointer a0), (4, .pointer (some (⟨b1, 0, none⟩ : Addr))), (5, .pointer (some (⟨b3, 0, none⟩ : Addr))), (6, .pointer (some (⟨b5, 0, none⟩ : Addr))), (7, .int .i64 s9), (8, .int .u16 x13.1), (9, .int .i64 x13.2)] ⟨rfl, rfl, rfl, rfl, rfl, rfl, rfl, trivial⟩ (fun f1 => ?_)
    refine wk_then ?_
    refine wc_seq ?_
    refine wc_region ?_
    refine wl_val (at_load (v := .pointer a1) Try.underlying35 rfl rfl ((t_b1.cell 0).trans (by first | rfl | simp [List.getElem?_append, ints_len, bools_len]))) rfl ?_
    refine wl_val (at_move rfl) rfl ?_
    refine wl_val (at_conv Try.underlying3 Try.underlying5 rfl) rfl ?_
    refine wl_callF (mosaicref04_Table_Code.calls _ _ _ _ h) enter50 rfl trivial so ?_; intro x16 w17 h so
    obtain ⟨q18, h⟩ := h
    replace t_b1 := pv_bk q18 t_b1 (by simp)
    replace t_b3 := pv_bk q18 t_b3 (by simp)
    refine wl_val (at_move rfl) rfl ?_
    refine wl_val (at_extract rfl rfl) rfl ?_
    refine wl_val (at_extract rfl rfl) rfl ?_
    refine wl_val (at_assign rfl) rfl ?_
    refine wl_val (at_assign rfl) rfl ?_
    refine wl_nil ?_
    refine wk_prune [(0, .pointer a0), (4, .pointer (some (⟨b1, 0, none⟩ : Addr))), (5, .pointer (some (⟨b3, 0, none⟩ : Addr))), (6, .pointer (some (⟨b5, 0, none⟩ : Addr))), (7, .int .i64 s9), (8, .int .u16 x13.1), (9, .int .i64 x13.2), (10, .int .u16 x16.1), (11, .int .i64 x16.2)] ⟨rfl, rfl, rfl, rfl, rfl, rfl, rfl, rfl, rfl, trivial⟩ (fun f1 => ?_)
    refine wk_then ?_
    refine wc_seq ?_
    refine wc_joinG (w0 := w0) (fun (H : Hp) => Bk H b1 35 [.pointer a1] ∧ Bk H b3 3 [.int .i64 a2] ∧ True) (fun (s20 : Bool) => [(0, .pointer a0), (4, .pointer (some (⟨b1, 0, none⟩ : Addr))), (5, .pointer (some (⟨b3, 0, none⟩ : Addr))), (6, .pointer (some (⟨b5, 0, none⟩ : Addr))), (7, .int .i64 s9), (43, .bool s20)]) (fun (s20 : Bool) => (mks [])) h ?_ ?_
    · rintro s20 w21 f1 h ⟨t_b1, t_b3, _⟩ so; refine wk_then ?_
      refine wc_cond rfl h (fun h => ?_) (fun h => ?_)
      · refine wc_seq ?_
        refine wc_region ?_
        refine wl_st (v := .bool false) h rfl so (fun q1 q2 => ef_store (sz := sz4) rfl rfl rfl q1 q2) ?_; intro w22 h so
        refine wl_nil ?_
        refine wk_prune [(6, .pointer (some (⟨b5, 0, none⟩ : Addr)))] ⟨rfl, trivial⟩ (fun f1 => ?_)
        refine wk_then ?_
        refine wc_ret ?_
        refine wk_blkR ?_
        refine wk_thenR ?_
        refine wk_thenR ?_
        refine wk_blkR ?_
        refine wk_thenR ?_
        refine wk_tk (K := fun H => H = w22.heap) (Ds := []) rfl so ?_; intro w23 hw so; rw [← hw] at h; clear hw
        obtain ⟨x25, q24, h⟩ := h
        exact wk_retR1 (x := x25) rfl ⟨by decide, _, rfl, loadVar_one Try.underlying4 rfl q24⟩ rfl so h
      · refine wc_skip ?_
        refine wk_blkN ?_
        refine wk_prune [(0, .pointer a0), (4, .pointer (some (⟨b1, 0, none⟩ : Addr))), (5, .pointer (some (⟨b3, 0, none⟩ : Addr))), (6, .pointer (some (⟨b5, 0, none⟩ : Addr))), (7, .int .i64 s9)] ⟨rfl, rfl, rfl, rfl, rfl, trivial⟩ (fun f1 => ?_)
        refine wk_then ?_
        refine wc_region ?_
        refine wl_val (at_move rfl) rfl ?_
        refine wl_val (at_add rfl rfl) rfl ?_
        refine wl_val (at_assign rfl) rfl ?_
        refine wl_nil ?_
        exact wk_again ⟨((IntKind.wrap .i64 (s9 + 1))), _, ac_again ⟨rfl, rfl, rfl, rfl, rfl, trivial⟩, so, ⟨t_b1, t_b3, trivial⟩, h⟩
    · intro J19 h hJ19
      refine wc_region ?_
      refine wl_val (at_move rfl) rfl ?_
      refine wl_val (at_move rfl) rfl ?_
      refine wl_val (at_neq rfl rfl) rfl ?_
      refine wl_val (at_move rfl) rfl ?_
      refine bif_ h (fun hb h => ?_) (fun hb h => ?_)
      · refine wl_set (t := 39) (v := .bool true) (congrArg Value.bool hb) ?_; clear hb
        refine wl_off (t := 39) rfl (by decide) rfl ?_
        refine wl_off (t := 39) rfl (by decide) rfl ?_
        refine wl_off (t := 39) rfl (by decide) rfl ?_
        refine wl_val (at_pick_t rfl rfl) rfl ?_
        refine wl_nil ?_
        exact wk_prune [(0, .pointer a0), (4, .pointer (some (⟨b1, 0, none⟩ : Addr))), (5, .pointer (some (⟨b3, 0, none⟩ : Addr))), (6, .pointer (some (⟨b5, 0, none⟩ : Addr))), (7, .int .i64 s9), (43, .bool true)] ⟨rfl, rfl, rfl, rfl, rfl, rfl, trivial⟩ (fun f1 => hJ19 (true) _ f1 h ⟨t_b1, t_b3, trivial⟩ so)
      · refine wl_set (t := 39) (v := .bool false) (congrArg Value.bool hb) ?_; clear hb
        refine wl_on (t := 39) rfl (by decide) rfl ?_
        refine wl_val (at_move rfl) rfl ?_
        refine wl_on (t := 39) rfl (by decide) rfl ?_
        refine wl_val (at_move rfl) rfl ?_
        refine wl_on (t := 39) rfl (by decide) rfl ?_
        refine wl_val (at_neq rfl rfl) rfl ?_
        refine wl_val (at_pick_f rfl rfl) rfl ?_
        refine wl_nil ?_
        exact wk_prune [(0, .pointer a0), (4, .pointer (some (⟨b1, 0, none⟩ : Addr))), (5, .pointer (some (⟨b3, 0, none⟩ : Addr))), (6, .pointer (some (⟨b5, 0, none⟩ : Addr))), (7, .int .i64 s9), (43, .bool (x13.2 != x16.2))] ⟨rfl, rfl, rfl, rfl, rfl, rfl, trivial⟩ (fun f1 => hJ19 ((x13.2 != x16.2)) _ f1 h ⟨t_b1, t_b3, trivial⟩ so)
  · refine wc_exit ?_
    refine wk_thenE ?_
    refine wk_thenE ?_
    refine wk_blkE ?_
    refine wk_prune [(0, .pointer a0), (4, .pointer (some (⟨b1, 0, none⟩ : Addr))), (5, .pointer (some (⟨b3, 0, none⟩ : Addr))), (6, .pointer (some (⟨b5, 0, none⟩ : Addr)))] ⟨rfl, rfl, rfl, rfl, trivial⟩ (fun f1 => ?_)
    refine wk_then ?_
    refine wc_seq ?_
    refine wc_region ?_
    refine wl_val (at_move rfl) rfl ?_
    refine wl_callF (huff_Table_All.calls _ _ _ h) enter41 rfl trivial so ?_; intro x26 w27 h so
    obtain ⟨q28, h⟩ := h
    replace t_b1 := pv_bk q28 t_b1 (by simp)
    replace t_b3 := pv_bk q28 t_b3 (by simp)
    refine wl_val (at_assign rfl) rfl ?_
    refine wl_nil ?_
    refine wk_prune [(4, .pointer (some (⟨b1, 0, none⟩ : Addr))), (5, .pointer (some (⟨b3, 0, none⟩ : Addr))), (6, .pointer (some (⟨b5, 0, none⟩ : Addr))), (12, .func (.func 63) #[] #[.pointer (some x26)])] ⟨rfl, rfl, rfl, rfl, trivial⟩ (fun f1 => ?_)
    refine wk_then ?_
    refine wc_seq ?_
    refine wc_seq ?_
    refine wc_region ?_
    refine wl_val (at_move rfl) rfl ?_
    refine wl_val (at_eqlNF (v := .func (.func 63) #[] #[.pointer (some x26)]) Try.underlying61 rfl rfl rfl) rfl ?_
    refine wl_nil ?_
    refine wk_prune [(4, .pointer (some (⟨b1, 0, none⟩ : Addr))), (5, .pointer (some (⟨b3, 0, none⟩ : Addr))), (6, .pointer (some (⟨b5, 0, none⟩ : Addr))), (12, .func (.func 63) #[] #[.pointer (some x26)]), (47, .bool false)] ⟨rfl, rfl, rfl, rfl, rfl, trivial⟩ (fun f1 => ?_)
    refine wk_then ?_
    refine wc_cond_f rfl ?_
    refine wc_skip ?_
    refine wk_prune [(4, .pointer (some (⟨b1, 0, none⟩ : Addr))), (5, .pointer (some (⟨b3, 0, none⟩ : Addr))), (6, .pointer (some (⟨b5, 0, none⟩ : Addr))), (12, .func (.func 63) #[] #[.pointer (some x26)])] ⟨rfl, rfl, rfl, rfl, trivial⟩ (fun f1 => ?_)
    refine wk_then ?_
    refine wc_seq ?_
    refine wc_region ?_
    refine wl_newT (T := 3) (cs := [.int .i64 0]) (ef_alloc zero3 rfl) rfl so ?_; intro b29 w30 hb_b29 t_b29 k_b29 so
    have g_b29 := Nat.le_of_eq hb_b29.symm
    have hc := k_b29.ch (F := [])
    have n_b1_b29 : b1 ≠ b29 := fun e => by have := t_b1.lt; omega
    replace t_b1 := t_b1.keep k_b29
    have n_b3_b29 : b3 ≠ b29 := fun e => by have := t_b3.lt; omega
    replace t_b3 := t_b3.keep k_b29
    refine wl_stT (v := .int .i64 0) (cs' := [.int .i64 0]) t_b29 (by first | decide | simp [ints_len, bools_len]) (by first | rfl | simp [List.set_append, ints_len, bools_len]) rfl so (fun q1 q2 => ef_store (sz := sz3) rfl rfl rfl q1 q2) ?_; intro w31 t_b29 s_w31 so
    replace t_b1 := t_b1.same s_w31 (n_b1_b29)
    replace t_b3 := t_b3.same s_w31 (n_b3_b29)
    replace hc := ch_same hc s_w31 (.inr g_b29)
    refine wl_nil ?_
    refine wk_prune [(4, .pointer (some (⟨b1, 0, none⟩ : Addr))), (5, .pointer (some (⟨b3, 0, none⟩ : Addr))), (6, .pointer (some (⟨b5, 0, none⟩ : Addr))), (12, .func (.func 63) #[] #[.pointer (some x26)]), (13, .pointer (some (⟨b29, 0, none⟩ : Addr)))] ⟨rfl, rfl, rfl, rfl, rfl, trivial⟩ (fun f1 => ?_)
    refine wk_then ?_
    replace h := h b29 _ hc g_b29 t_b29.lt; clear hc
    replace h := h t_b1
    replace h := h t_b3
    replace h := h t_b29
    refine wc_seq ?_
    refine wc_joinM (w0 := w0) (fun (s33 : (List Nat)) => [(4, .pointer (some (⟨b1, 0, none⟩ : Addr))), (6, .pointer (some (⟨b5, 0, none⟩ : Addr))), (12, .func (.func 63) #[] #[.pointer (some x26)]), (13, .pointer (some (⟨b29, 0, none⟩ : Addr)))]) (fun (s33 : (List Nat)) => (mks s33)) h ?_ ?_
    · rintro s33 w34 f1 h so; refine wk_then ?_
      refine wc_seq ?_
      refine wc_region ?_
      refine wl_st (v := .int .i64 0) h rfl so (fun q1 q2 => ef_store (sz := sz3) rfl rfl rfl q1 q2) ?_; intro w35 h so
      refine wl_nil ?_
      refine wk_prune [(4, .pointer (some (⟨b1, 0, none⟩ : Addr))), (6, .pointer (some (⟨b5, 0, none⟩ : Addr))), (12, .func (.func 63) #[] #[.pointer (some x26)]), (13, .pointer (some (⟨b29, 0, none⟩ : Addr)))] ⟨rfl, rfl, rfl, rfl, trivial⟩ (fun f1 => ?_)
      refine wk_then ?_
      refine wc_seq ?_
      refine wc_seq ?_
      refine wc_region ?_
      refine wl_val (at_move rfl) rfl ?_
      refine wl_nil ?_
      refine wk_prune [(4, .pointer (some (⟨b1, 0, none⟩ : Addr))), (6, .pointer (some (⟨b5, 0, none⟩ : Addr))), (13, .pointer (some (⟨b29, 0, none⟩ : Addr))), (85, .func (.func 63) #[] #[.pointer (some x26)])] ⟨rfl, rfl, rfl, rfl, trivial⟩ (fun f1 => ?_)
      refine wk_then ?_
      refine wc_block ?_
      refine wc_prune [(4, .pointer (some (⟨b1, 0, none⟩ : Addr))), (6, .pointer (some (⟨b5, 0, none⟩ : Addr))), (13, .pointer (some (⟨b29, 0, none⟩ : Addr))), (85, .func (.func 63) #[] #[.pointer (some x26)])] ⟨rfl, rfl, rfl, rfl, trivial⟩ (fun f1 => ?_)
      refine wc_rng (caps := [.pointer (some x26)]) rfl enter63 so h ?_; intro r36 D44 w39 q37 q38 h so
      refine Ca.mono (huff_Table_All_1.calls _ _ (yok (ps := [86, 87]) q38 (fun _ => rfl) fun x40 w42 K41 h => ?_) _ w39 _ h) ?_
      · refine ⟨h.1, ?_⟩; replace h := h.2; have so := Sm.refl w42; refine wc_prune [(4, .pointer (some (⟨b1, 0, none⟩ : Addr))), (6, .pointer (some (⟨b5, 0, none⟩ : Addr))), (13, .pointer (some (⟨b29, 0, none⟩ : Addr))), (86, .int .u8 x40.1), (87, .string x40.2)] ⟨rfl, rfl, rfl, rfl, rfl, trivial⟩ (fun f1 => ?_)
        refine wc_seq ?_
        refine wc_region ?_
        refine wl_val (at_assign rfl) rfl ?_
        refine wl_nil ?_
        refine wk_prune [(4, .pointer (some (⟨b1, 0, none⟩ : Addr))), (6, .pointer (some (⟨b5, 0, none⟩ : Addr))), (13, .pointer (some (⟨b29, 0, none⟩ : Addr))), (16, .int .u8 x40.1), (87, .string x40.2)] ⟨rfl, rfl, rfl, rfl, rfl, trivial⟩ (fun f1 => ?_)
        refine wk_then ?_
        refine wc_region ?_
        refine wl_val (at_assign rfl) rfl ?_
        refine wl_nil ?_
        refine wk_prune [(4, .pointer (some (⟨b1, 0, none⟩ : Addr))), (6, .pointer (some (⟨b5, 0, none⟩ : Addr))), (13, .pointer (some (⟨b29, 0, none⟩ : Addr))), (16, .int .u8 x40.1), (17, .string x40.2)] ⟨rfl, rfl, rfl, rfl, rfl, trivial⟩ (fun f1 => ?_)
        refine wk_asg q37 h so ?_; intro w45 h so
        refine wc_block ?_
        refine wc_seq ?_
        refine wc_seq ?_
        refine wc_join (w0 := w42) (fun (s47 : Bool) => [(6, .pointer (some (⟨b5, 0, none⟩ : Addr))), (13, .pointer (some (⟨b29, 0, none⟩ : Addr))), (116, .bool s47)]) h ?_ ?_
        · rintro s47 w48 f1 h so; refine wk_then ?_
          refine wc_cond rfl h (fun h => ?_) (fun h => ?_)
          · refine wc_seq ?_
            refine wc_region ?_
            refine wl_st (v := .bool false) h rfl so (fun q1 q2 => ef_store (sz := sz4) rfl rfl rfl q1 q2) ?_; intro w49 h so
            refine wl_nil ?_
            refine wk_prune [(6, .pointer (some (⟨b5, 0, none⟩ : Addr)))] ⟨rfl, trivial⟩ (fun f1 => ?_)
            refine wk_then ?_
            refine wc_ret ?_
            refine wk_thenR ?_
            refine wk_blkR ?_
            exact wk_rdR h so
          · refine wc_skip ?_
            refine wk_prune [(13, .pointer (some (⟨b29, 0, none⟩ : Addr)))] ⟨rfl, trivial⟩ (fun f1 => ?_)
            refine wk_then ?_
            refine wc_region ?_
            obtain ⟨x50, q51, h⟩ := h
            refine wl_val (at_load Try.underlying3 rfl rfl q51) rfl ?_
            refine wl_val (at_add rfl rfl) rfl ?_
            refine wl_st (v := .int .i64 (IntKind.wrap .i64 (x50 + 1))) h rfl so (fun q1 q2 => ef_store (sz := sz3) rfl rfl rfl q1 q2) ?_; intro w52 h so
            refine wl_nil ?_
            refine wk_blkN ?_
            exact wk_rdN q37 h so
        · intro J46 h hJ46
          refine wc_wo [0, 0, 2, 6, 14, 30, 63, 127, 255, 255, 767, 1791, 3839, 255, 16127, 32511, 65535, 131071, 262143, 524287, 524287, 1572863, 3670015, 7864319, 524287, 33030143, 66584575, 134217727, 268435455] mixed (by kernel_rfl) so ?_; intro w53 hw so; rw [← hw] at h; clear hw
          obtain ⟨x54, q55, h⟩ := h
          refine wo_load (m' := 1) 0 (fun H => cellAt H (⟨b29, 0, none⟩ : Addr) = some (.int .i64 x54)) rfl (by kernel_rfl) rfl rfl (fun H q55 => at_load Try.underlying3 rfl rfl q55) q55 ?_
          obtain ⟨x56, q57, h⟩ := h
          refine wo_load (m' := 3) 1 (fun H => cellAt H (⟨b1, 0, none⟩ : Addr) = some (.pointer x56)) rfl (by kernel_rfl) rfl rfl (fun H q57 => at_load Try.underlying35 rfl rfl q57) q57 ?_
          obtain ⟨p58, q59, h⟩ := h
          refine wo_pure (m' := 7) 2 rfl (by kernel_rfl) rfl rfl (fun H => at_nilCheck (congrArg Value.pointer q59)) ?_
          refine wo_pure (m' := 15) 3 rfl (by kernel_rfl) rfl rfl (fun H => at_fieldAddr Try.underlying82 rfl rfl sz59 (by decide) rfl) ?_
          obtain ⟨x60, q61, h⟩ := h
          refine wo_load (m' := 31) 4 (fun H => cellAt H (p58.add 1) = some (.slice x60.a x60.n x60.c)) rfl (by kernel_rfl) rfl rfl (fun H q61 => at_load Try.underlying59 rfl rfl q61) q61 ?_
          refine wo_pure (m' := 63) 5 rfl (by kernel_rfl) rfl rfl (fun H => at_lenL Try.underlying59 rfl) ?_
          refine wo_pure (m' := 127) 6 rfl (by kernel_rfl) rfl rfl (fun H => at_geq rfl rfl) ?_
          refine wo_pure (m' := 255) 7 rfl (by kernel_rfl) rfl rfl (fun H => at_move rfl) ?_
          refine bif_ h (fun hb h => ?_) (fun hb h => ?_)
          · refine wo_set (t := 95) (v := .bool true) (congrArg Value.bool hb) ?_; clear hb
            refine wo_off (m' := 511) 8 rfl (by kernel_rfl) rfl (t := 95) rfl (by decide) rfl ?_
            refine wo_off (m' := 1023) 9 rfl (by kernel_rfl) rfl (t := 95) rfl (by decide) rfl ?_
            refine wo_off (m' := 2047) 10 rfl (by kernel_rfl) rfl (t := 95) rfl (by decide) rfl ?_
            refine wo_off (m' := 4095) 11 rfl (by kernel_rfl) rfl (t := 95) rfl (by decide) rfl ?_
            refine wo_off (m' := 8191) 12 rfl (by kernel_rfl) rfl (t := 95) rfl (by decide) rfl ?_
            refine wo_off (m' := 16383) 13 rfl (by kernel_rfl) rfl (t := 95) rfl (by decide) rfl ?_
            refine wo_off (m' := 32767) 14 rfl (by kernel_rfl) rfl (t := 95) rfl (by decide) rfl ?_
            refine wo_off (m' := 65535) 15 rfl (by kernel_rfl) rfl (t := 95) rfl (by decide) rfl ?_
            refine wo_off (m' := 131071) 16 rfl (by kernel_rfl) rfl (t := 95) rfl (by decide) rfl ?_
            refine wo_pure (m' := 262143) 17 rfl (by kernel_rfl) rfl rfl (fun H => at_pick_t rfl rfl) ?_
            refine wo_pure (m' := 524287) 18 rfl (by kernel_rfl) rfl rfl (fun H => at_move rfl) ?_
            refine wo_off (m' := 1048575) 19 rfl (by kernel_rfl) rfl (t := 106) rfl (by decide) rfl ?_
            refine wo_off (m' := 2097151) 20 rfl (by kernel_rfl) rfl (t := 106) rfl (by decide) rfl ?_
            refine wo_off (m' := 4194303) 21 rfl (by kernel_rfl) rfl (t := 106) rfl (by decide) rfl ?_
            refine wo_off (m' := 8388607) 22 rfl (by kernel_rfl) rfl (t := 106) rfl (by decide) rfl ?_
            refine wo_off (m' := 16777215) 23 rfl (by kernel_rfl) rfl (t := 106) rfl (by decide) rfl ?_
            refine wo_off (m' := 33554431) 24 rfl (by kernel_rfl) rfl (t := 106) rfl (by decide) rfl ?_
            refine wo_off (m' := 67108863) 25 rfl (by kernel_rfl) rfl (t := 106) rfl (by decide) rfl ?_
            refine wo_off (m' := 134217727) 26 rfl (by kernel_rfl) rfl (t := 106) rfl (by decide) rfl ?_
            refine wo_off (m' := 268435455) 27 rfl (by kernel_rfl) rfl (t := 106) rfl (by decide) rfl ?_
            refine wo_pure (m' := 536870911) 28 rfl (by kernel_rfl) rfl rfl (fun H => at_pick_t rfl rfl) ?_
            refine wo_done (by kernel_rfl) ?_
            exact wk_prune [(6, .pointer (some (⟨b5, 0, none⟩ : Addr))), (13, .pointer (some (⟨b29, 0, none⟩ : Addr))), (116, .bool true)] ⟨rfl, rfl, rfl, trivial⟩ (fun f1 => hJ46 (true) _ f1 h so)
          · refine wo_set (t := 95) (v := .bool false) (congrArg Value.bool hb) ?_; clear hb
            refine wo_pureG (m' := 511) 8 rfl (by kernel_rfl) rfl (t := 95) rfl (by decide) rfl (fun H => at_move rfl) ?_
            obtain ⟨x62, q63, h⟩ := h
            refine wo_loadG (m' := 1023) 9 (fun H => cellAt H (⟨b1, 0, none⟩ : Addr) = some (.pointer x62)) rfl (by kernel_rfl) rfl (t := 95) rfl (by decide) rfl (fun H q63 => at_load Try.underlying35 rfl rfl q63) q63 ?_
            obtain ⟨p64, q65, h⟩ := h
            refine wo_pureG (m' := 2047) 10 rfl (by kernel_rfl) rfl (t := 95) rfl (by decide) rfl (fun H => at_nilCheck (congrArg Value.pointer q65)) ?_
            refine wo_pureG (m' := 4095) 11 rfl (by kernel_rfl) rfl (t := 95) rfl (by decide) rfl (fun H => at_fieldAddr Try.underlying82 rfl rfl sz23 (by decide) rfl) ?_
            obtain ⟨x66, q67, h⟩ := h
            refine wo_loadG (m' := 8191) 12 (fun H => cellAt H (p64.add 0) = some (.slice x66.a x66.n x66.c)) rfl (by kernel_rfl) rfl (t := 95) rfl (by decide) rfl (fun H q67 => at_load Try.underlying23 rfl rfl q67) q67 ?_
            obtain ⟨x68, q69, h⟩ := h
            refine wo_loadG (m' := 16383) 13 (fun H => cellAt H (⟨b29, 0, none⟩ : Addr) = some (.int .i64 x68)) rfl (by kernel_rfl) rfl (t := 95) rfl (by decide) rfl (fun H q69 => at_load Try.underlying3 rfl rfl q69) q69 ?_
            obtain ⟨q70, q71, p72, q73, h⟩ := h
            refine wo_pureG (m' := 32767) 14 rfl (by kernel_rfl) rfl (t := 95) rfl (by decide) rfl (fun H => at_ixAddrL Try.underlying23 sz5 (sl_some q73) rfl q70 q71) ?_
            obtain ⟨x74, q75, h⟩ := h
            refine wo_loadG (m' := 65535) 15 (fun H => cellAt H (p72.add (Int.toNat x68 * 1)) = some (.int .u8 x74)) rfl (by kernel_rfl) rfl (t := 95) rfl (by decide) rfl (fun H q75 => at_load Try.underlying5 rfl rfl q75) q75 ?_
            refine wo_pureG (m' := 131071) 16 rfl (by kernel_rfl) rfl (t := 95) rfl (by decide) rfl (fun H => at_neq rfl rfl) ?_
            refine wo_pure (m' := 262143) 17 rfl (by kernel_rfl) rfl rfl (fun H => at_pick_f rfl rfl) ?_
            refine wo_pure (m' := 524287) 18 rfl (by kernel_rfl) rfl rfl (fun H => at_move rfl) ?_
            refine bif_ h (fun hb h => ?_) (fun hb h => ?_)
            · refine wo_set (t := 106) (v := .bool true) (congrArg Value.bool hb) ?_; clear hb
              refine wo_off (m' := 1048575) 19 rfl (by kernel_rfl) rfl (t := 106) rfl (by decide) rfl ?_
              refine wo_off (m' := 2097151) 20 rfl (by kernel_rfl) rfl (t := 106) rfl (by decide) rfl ?_
              refine wo_off (m' := 4194303) 21 rfl (by kernel_rfl) rfl (t := 106) rfl (by decide) rfl ?_
              refine wo_off (m' := 8388607) 22 rfl (by kernel_rfl) rfl (t := 106) rfl (by decide) rfl ?_
              refine wo_off (m' := 16777215) 23 rfl (by kernel_rfl) rfl (t := 106) rfl (by decide) rfl ?_
              refine wo_off (m' := 33554431) 24 rfl (by kernel_rfl) rfl (t := 106) rfl (by decide) rfl ?_
              refine wo_off (m' := 67108863) 25 rfl (by kernel_rfl) rfl (t := 106) rfl (by decide) rfl ?_
              refine wo_off (m' := 134217727) 26 rfl (by kernel_rfl) rfl (t := 106) rfl (by decide) rfl ?_
              refine wo_off (m' := 268435455) 27 rfl (by kernel_rfl) rfl (t := 106) rfl (by decide) rfl ?_
              refine wo_pure (m' := 536870911) 28 rfl (by kernel_rfl) rfl rfl (fun H => at_pick_t rfl rfl) ?_
              refine wo_done (by kernel_rfl) ?_
              exact wk_prune [(6, .pointer (some (⟨b5, 0, none⟩ : Addr))), (13, .pointer (some (⟨b29, 0, none⟩ : Addr))), (116, .bool true)] ⟨rfl, rfl, rfl, trivial⟩ (fun f1 => hJ46 (true) _ f1 h so)
            · refine wo_set (t := 106) (v := .bool false) (congrArg Value.bool hb) ?_; clear hb
              refine wo_pureG (m' := 1048575) 19 rfl (by kernel_rfl) rfl (t := 106) rfl (by decide) rfl (fun H => at_move rfl) ?_
              obtain ⟨x76, q77, h⟩ := h
              refine wo_loadG (m' := 2097151) 20 (fun H => cellAt H (⟨b1, 0, none⟩ : Addr) = some (.pointer x76)) rfl (by kernel_rfl) rfl (t := 106) rfl (by decide) rfl (fun H q77 => at_load Try.underlying35 rfl rfl q77) q77 ?_
              obtain ⟨p78, q79, h⟩ := h
              refine wo_pureG (m' := 4194303) 21 rfl (by kernel_rfl) rfl (t := 106) rfl (by decide) rfl (fun H => at_nilCheck (congrArg Value.pointer q79)) ?_
              refine wo_pureG (m' := 8388607) 22 rfl (by kernel_rfl) rfl (t := 106) rfl (by decide) rfl (fun H => at_fieldAddr Try.underlying82 rfl rfl sz59 (by decide) rfl) ?_
              obtain ⟨x80, q81, h⟩ := h
              refine wo_loadG (m' := 16777215) 23 (fun H => cellAt H (p78.add 1) = some (.slice x80.a x80.n x80.c)) rfl (by kernel_rfl) rfl (t := 106) rfl (by decide) rfl (fun H q81 => at_load Try.underlying59 rfl rfl q81) q81 ?_
              obtain ⟨x82, q83, h⟩ := h
              refine wo_loadG (m' := 33554431) 24 (fun H => cellAt H (⟨b29, 0, none⟩ : Addr) = some (.int .i64 x82)) rfl (by kernel_rfl) rfl (t := 106) rfl (by decide) rfl (fun H q83 => at_load Try.underlying3 rfl rfl q83) q83 ?_
              obtain ⟨q84, q85, p86, q87, h⟩ := h
              refine wo_pureG (m' := 67108863) 25 rfl (by kernel_rfl) rfl (t := 106) rfl (by decide) rfl (fun H => at_ixAddrL Try.underlying59 sz9 (sl_some q87) rfl q84 q85) ?_
              obtain ⟨x88, q89, h⟩ := h
              refine wo_loadG (m' := 134217727) 26 (fun H => cellAt H (p86.add (Int.toNat x82 * 1)) = some (.string x88)) rfl (by kernel_rfl) rfl (t := 106) rfl (by decide) rfl (fun H q89 => at_load Try.underlying9 rfl rfl q89) q89 ?_
              refine wo_pureG (m' := 268435455) 27 rfl (by kernel_rfl) rfl (t := 106) rfl (by decide) rfl (fun H => at_neqS rfl rfl) ?_
              refine wo_pure (m' := 536870911) 28 rfl (by kernel_rfl) rfl rfl (fun H => at_pick_f rfl rfl) ?_
              refine wo_done (by kernel_rfl) ?_
              exact wk_prune [(6, .pointer (some (⟨b5, 0, none⟩ : Addr))), (13, .pointer (some (⟨b29, 0, none⟩ : Addr))), (116, .bool (!(x40.2.toList == x88.toList)))] ⟨rfl, rfl, rfl, trivial⟩ (fun f1 => hJ46 ((!(x40.2.toList == x88.toList))) _ f1 h so)
      · rintro _ w43 ⟨_, rfl, h, q90⟩; replace so := so.trans q90
        rcases h with h | h
        · refine rp_none q37 h so ?_; intro w91 h so
          refine wk_blkN ?_
          refine wk_prune [(4, .pointer (some (⟨b1, 0, none⟩ : Addr))), (6, .pointer (some (⟨b5, 0, none⟩ : Addr))), (13, .pointer (some (⟨b29, 0, none⟩ : Addr)))] ⟨rfl, rfl, rfl, trivial⟩ (fun f1 => ?_)
          refine wk_then ?_
          refine wc_seq ?_
          refine wc_wo [0, 0, 2, 6, 14, 30, 63, 127] mixed (by kernel_rfl) so ?_; intro w92 hw so; rw [← hw] at h; clear hw
          obtain ⟨x93, q94, h⟩ := h
          refine wo_load (m' := 1) 0 (fun H => cellAt H (⟨b29, 0, none⟩ : Addr) = some (.int .i64 x93)) rfl (by kernel_rfl) rfl rfl (fun H q94 => at_load Try.underlying3 rfl rfl q94) q94 ?_
          obtain ⟨x95, q96, h⟩ := h
          refine wo_load (m' := 3) 1 (fun H => cellAt H (⟨b1, 0, none⟩ : Addr) = some (.pointer x95)) rfl (by kernel_rfl) rfl rfl (fun H q96 => at_load Try.underlying35 rfl rfl q96) q96 ?_
          obtain ⟨p97, q98, h⟩ := h
          refine wo_pure (m' := 7) 2 rfl (by kernel_rfl) rfl rfl (fun H => at_nilCheck (congrArg Value.pointer q98)) ?_
          refine wo_pure (m' := 15) 3 rfl (by kernel_rfl) rfl rfl (fun H => at_fieldAddr Try.underlying82 rfl rfl sz59 (by decide) rfl) ?_
          obtain ⟨x99, q100, h⟩ := h
          refine wo_load (m' := 31) 4 (fun H => cellAt H (p97.add 1) = some (.slice x99.a x99.n x99.c)) rfl (by kernel_rfl) rfl rfl (fun H q100 => at_load Try.underlying59 rfl rfl q100) q100 ?_
          refine wo_pure (m' := 63) 5 rfl (by kernel_rfl) rfl rfl (fun H => at_lenL Try.underlying59 rfl) ?_
          refine wo_pure (m' := 127) 6 rfl (by kernel_rfl) rfl rfl (fun H => at_eql rfl rfl) ?_
          refine wo_take (m' := 255) 7 [true, true, true] rfl (by kernel_rfl) rfl (by kernel_rfl) ?_
          refine wl_st (v := .bool (x93 == (x99.n : Int))) h rfl so (fun q1 q2 => ef_store (sz := sz4) rfl rfl rfl q1 q2) ?_; intro w101 h so
          refine wl_nil ?_
          refine wk_tq trivial ?_
          refine wo_done (by kernel_rfl) ?_
          refine wk_prune [(6, .pointer (some (⟨b5, 0, none⟩ : Addr)))] ⟨rfl, trivial⟩ (fun f1 => ?_)
          refine wk_then ?_
          refine wc_ret ?_
          refine wk_tk h so ?_; intro w102 h so
          obtain ⟨x104, q103, h⟩ := h
          exact wk_retR1 (x := x104) rfl ⟨by decide, _, rfl, loadVar_one Try.underlying4 rfl q103⟩ rfl so h
        · refine rp_jump h so ?_; intro w105 h so; refine wc_ret ?_
          refine wk_blkR ?_
          refine wk_thenR ?_
          refine wk_tk h so ?_; intro w106 h so
          obtain ⟨x108, q107, h⟩ := h
          exact wk_retR1 (x := x108) rfl ⟨by decide, _, rfl, loadVar_one Try.underlying4 rfl q107⟩ rfl so h
    · intro J32 h hJ32
      refine wc_seq ?_
      refine wc_region ?_
      refine wl_val (at_move rfl) rfl ?_
      refine wl_nil ?_
      refine wk_prune [(4, .pointer (some (⟨b1, 0, none⟩ : Addr))), (5, .pointer (some (⟨b3, 0, none⟩ : Addr))), (6, .pointer (some (⟨b5, 0, none⟩ : Addr))), (12, .func (.func 63) #[] #[.pointer (some x26)]), (13, .pointer (some (⟨b29, 0, none⟩ : Addr))), (48, .func (.func 63) #[] #[.pointer (some x26)])] ⟨rfl, rfl, rfl, rfl, rfl, rfl, trivial⟩ (fun f1 => ?_)
      refine wk_then ?_
      refine wc_block ?_
      refine wc_prune [(4, .pointer (some (⟨b1, 0, none⟩ : Addr))), (5, .pointer (some (⟨b3, 0, none⟩ : Addr))), (6, .pointer (some (⟨b5, 0, none⟩ : Addr))), (12, .func (.func 63) #[] #[.pointer (some x26)]), (13, .pointer (some (⟨b29, 0, none⟩ : Addr))), (48, .func (.func 63) #[] #[.pointer (some x26)])] ⟨rfl, rfl, rfl, rfl, rfl, rfl, trivial⟩ (fun f1 => ?_)
      refine wc_rng (caps := [.pointer (some x26)]) rfl enter63 so h ?_; intro r109 D117 w112 q110 q111 h so
      refine Ca.mono (huff_Table_All_1.calls _ _ (yok (ps := [49, 50]) q111 (fun _ => rfl) fun x113 w115 K114 h => ?_) _ w112 _ h) ?_
      · refine ⟨h.1, ?_⟩; replace h := h.2; have so := Sm.refl w115; refine wc_prune [(4, .pointer (some (⟨b1, 0, none⟩ : Addr))), (5, .pointer (some (⟨b3, 0, none⟩ : Addr))), (6, .pointer (some (⟨b5, 0, none⟩ : Addr))), (12, .func (.func 63) #[] #[.pointer (some x26)]), (13, .pointer (some (⟨b29, 0, none⟩ : Addr))), (49, .int .u8 x113.1), (50, .string x113.2)] ⟨rfl, rfl, rfl, rfl, rfl, rfl, rfl, trivial⟩ (fun f1 => ?_)
        refine wc_seq ?_
        refine wc_region ?_
        refine wl_val (at_assign rfl) rfl ?_
        refine wl_nil ?_
        refine wk_prune [(4, .pointer (some (⟨b1, 0, none⟩ : Addr))), (5, .pointer (some (⟨b3, 0, none⟩ : Addr))), (6, .pointer (some (⟨b5, 0, none⟩ : Addr))), (12, .func (.func 63) #[] #[.pointer (some x26)]), (13, .pointer (some (⟨b29, 0, none⟩ : Addr))), (14, .int .u8 x113.1), (50, .string x113.2)] ⟨rfl, rfl, rfl, rfl, rfl, rfl, rfl, trivial⟩ (fun f1 => ?_)
        refine wk_then ?_
        refine wc_region ?_
        refine wl_val (at_assign rfl) rfl ?_
        refine wl_nil ?_
        refine wk_prune [(4, .pointer (some (⟨b1, 0, none⟩ : Addr))), (5, .pointer (some (⟨b3, 0, none⟩ : Addr))), (6, .pointer (some (⟨b5, 0, none⟩ : Addr))), (12, .func (.func 63) #[] #[.pointer (some x26)]), (13, .pointer (some (⟨b29, 0, none⟩ : Addr))), (14, .int .u8 x113.1), (15, .string x113.2)] ⟨rfl, rfl, rfl, rfl, rfl, rfl, rfl, trivial⟩ (fun f1 => ?_)
        refine wk_asg q110 h so ?_; intro w118 h so
        refine wc_block ?_
        refine wc_seq ?_
        refine wc_seq ?_
        refine wc_region ?_
        obtain ⟨x119, q120, h⟩ := h
        refine wl_val (at_load Try.underlying3 rfl rfl q120) rfl ?_
        obtain ⟨x121, q122, h⟩ := h
        refine wl_val (at_load Try.underlying3 rfl rfl q122) rfl ?_
        refine wl_val (at_eql rfl rfl) rfl ?_
        refine wl_nil ?_
        refine wk_prune [(4, .pointer (some (⟨b1, 0, none⟩ : Addr))), (6, .pointer (some (⟨b5, 0, none⟩ : Addr))), (12, .func (.func 63) #[] #[.pointer (some x26)]), (13, .pointer (some (⟨b29, 0, none⟩ : Addr))), (14, .int .u8 x113.1), (15, .string x113.2), (53, .bool (x119 == x121))] ⟨rfl, rfl, rfl, rfl, rfl, rfl, rfl, trivial⟩ (fun f1 => ?_)
        refine wk_then ?_
        refine wc_cond rfl h (fun h => ?_) (fun h => ?_)
        · refine wc_exit ?_
          refine wk_thenE ?_
          refine wk_blkO (by decide) ?_
          exact wk_rdE h so
        · refine wc_skip ?_
          refine wk_prune [(4, .pointer (some (⟨b1, 0, none⟩ : Addr))), (6, .pointer (some (⟨b5, 0, none⟩ : Addr))), (13, .pointer (some (⟨b29, 0, none⟩ : Addr))), (14, .int .u8 x113.1), (15, .string x113.2)] ⟨rfl, rfl, rfl, rfl, rfl, trivial⟩ (fun f1 => ?_)
          refine wk_then ?_
          refine wc_seq ?_
          refine wc_seq ?_
          refine wc_join (w0 := w115) (fun (s124 : Bool) => [(6, .pointer (some (⟨b5, 0, none⟩ : Addr))), (13, .pointer (some (⟨b29, 0, none⟩ : Addr))), (82, .bool s124)]) h ?_ ?_
          · rintro s124 w125 f1 h so; refine wk_then ?_
            refine wc_cond rfl h (fun h => ?_) (fun h => ?_)
            · refine wc_seq ?_
              refine wc_region ?_
              refine wl_st (v := .bool false) h rfl so (fun q1 q2 => ef_store (sz := sz4) rfl rfl rfl q1 q2) ?_; intro w126 h so
              refine wl_nil ?_
              refine wk_prune [(6, .pointer (some (⟨b5, 0, none⟩ : Addr)))] ⟨rfl, trivial⟩ (fun f1 => ?_)
              refine wk_then ?_
              refine wc_ret ?_
              refine wk_thenR ?_
              refine wk_blkR ?_
              exact wk_rdR h so
            · refine wc_skip ?_
              refine wk_prune [(13, .pointer (some (⟨b29, 0, none⟩ : Addr)))] ⟨rfl, trivial⟩ (fun f1 => ?_)
              refine wk_then ?_
              refine wc_region ?_
              obtain ⟨x127, q128, h⟩ := h
              refine wl_val (at_load Try.underlying3 rfl rfl q128) rfl ?_
              refine wl_val (at_add rfl rfl) rfl ?_
              refine wl_st (v := .int .i64 (IntKind.wrap .i64 (x127 + 1))) h rfl so (fun q1 q2 => ef_store (sz := sz3) rfl rfl rfl q1 q2) ?_; intro w129 h so
              refine wl_nil ?_
              refine wk_blkN ?_
              exact wk_rdN q110 h so
          · intro J123 h hJ123
            refine wc_wo [0, 0, 2, 6, 14, 30, 63, 127, 255, 255, 767, 1791, 3839, 255, 16127, 32511, 65535, 131071, 262143, 524287, 524287, 1572863, 3670015, 7864319, 524287, 33030143, 66584575, 134217727, 268435455] mixed (by kernel_rfl) so ?_; intro w130 hw so; rw [← hw] at h; clear hw
            obtain ⟨x131, q132, h⟩ := h
            refine wo_load (m' := 1) 0 (fun H => cellAt H (⟨b29, 0, none⟩ : Addr) = some (.int .i64 x131)) rfl (by kernel_rfl) rfl rfl (fun H q132 => at_load Try.underlying3 rfl rfl q132) q132 ?_
            obtain ⟨x133, q134, h⟩ := h
            refine wo_load (m' := 3) 1 (fun H => cellAt H (⟨b1, 0, none⟩ : Addr) = some (.pointer x133)) rfl (by kernel_rfl) rfl rfl (fun H q134 => at_load Try.underlying35 rfl rfl q134) q134 ?_
            obtain ⟨p135, q136, h⟩ := h
            refine wo_pure (m' := 7) 2 rfl (by kernel_rfl) rfl rfl (fun H => at_nilCheck (congrArg Value.pointer q136)) ?_
            refine wo_pure (m' := 15) 3 rfl (by kernel_rfl) rfl rfl (fun H => at_fieldAddr Try.underlying82 rfl rfl sz59 (by decide) rfl) ?_
            obtain ⟨x137, q138, h⟩ := h
            refine wo_load (m' := 31) 4 (fun H => cellAt H (p135.add 1) = some (.slice x137.a x137.n x137.c)) rfl (by kernel_rfl) rfl rfl (fun H q138 => at_load Try.underlying59 rfl rfl q138) q138 ?_
            refine wo_pure (m' := 63) 5 rfl (by kernel_rfl) rfl rfl (fun H => at_lenL Try.underlying59 rfl) ?_
            refine wo_pure (m' := 127) 6 rfl (by kernel_rfl) rfl rfl (fun H => at_geq rfl rfl) ?_
            refine wo_pure (m' := 255) 7 rfl (by kernel_rfl) rfl rfl (fun H => at_move rfl) ?_
            refine bif_ h (fun hb h => ?_) (fun hb h => ?_)
            · refine wo_set (t := 61) (v := .bool true) (congrArg Value.bool hb) ?_; clear hb
              refine wo_off (m' := 511) 8 rfl (by kernel_rfl) rfl (t := 61) rfl (by decide) rfl ?_
              refine wo_off (m' := 1023) 9 rfl (by kernel_rfl) rfl (t := 61) rfl (by decide) rfl ?_
              refine wo_off (m' := 2047) 10 rfl (by kernel_rfl) rfl (t := 61) rfl (by decide) rfl ?_
              refine wo_off (m' := 4095) 11 rfl (by kernel_rfl) rfl (t := 61) rfl (by decide) rfl ?_
              refine wo_off (m' := 8191) 12 rfl (by kernel_rfl) rfl (t := 61) rfl (by decide) rfl ?_
              refine wo_off (m' := 16383) 13 rfl (by kernel_rfl) rfl (t := 61) rfl (by decide) rfl ?_
              refine wo_off (m' := 32767) 14 rfl (by kernel_rfl) rfl (t := 61) rfl (by decide) rfl ?_
              refine wo_off (m' := 65535) 15 rfl (by kernel_rfl) rfl (t := 61) rfl (by decide) rfl ?_
              refine wo_off (m' := 131071) 16 rfl (by kernel_rfl) rfl (t := 61) rfl (by decide) rfl ?_
              refine wo_pure (m' := 262143) 17 rfl (by kernel_rfl) rfl rfl (fun H => at_pick_t rfl rfl) ?_
              refine wo_pure (m' := 524287) 18 rfl (by kernel_rfl) rfl rfl (fun H => at_move rfl) ?_
              refine wo_off (m' := 1048575) 19 rfl (by kernel_rfl) rfl (t := 72) rfl (by decide) rfl ?_
              refine wo_off (m' := 2097151) 20 rfl (by kernel_rfl) rfl (t := 72) rfl (by decide) rfl ?_
              refine wo_off (m' := 4194303) 21 rfl (by kernel_rfl) rfl (t := 72) rfl (by decide) rfl ?_
              refine wo_off (m' := 8388607) 22 rfl (by kernel_rfl) rfl (t := 72) rfl (by decide) rfl ?_
              refine wo_off (m' := 16777215) 23 rfl (by kernel_rfl) rfl (t := 72) rfl (by decide) rfl ?_
              refine wo_off (m' := 33554431) 24 rfl (by kernel_rfl) rfl (t := 72) rfl (by decide) rfl ?_
              refine wo_off (m' := 67108863) 25 rfl (by kernel_rfl) rfl (t := 72) rfl (by decide) rfl ?_
              refine wo_off (m' := 134217727) 26 rfl (by kernel_rfl) rfl (t := 72) rfl (by decide) rfl ?_
              refine wo_off (m' := 268435455) 27 rfl (by kernel_rfl) rfl (t := 72) rfl (by decide) rfl ?_
              refine wo_pure (m' := 536870911) 28 rfl (by kernel_rfl) rfl rfl (fun H => at_pick_t rfl rfl) ?_
              refine wo_done (by kernel_rfl) ?_
              exact wk_prune [(6, .pointer (some (⟨b5, 0, none⟩ : Addr))), (13, .pointer (some (⟨b29, 0, none⟩ : Addr))), (82, .bool true)] ⟨rfl, rfl, rfl, trivial⟩ (fun f1 => hJ123 (true) _ f1 h so)
            · refine wo_set (t := 61) (v := .bool false) (congrArg Value.bool hb) ?_; clear hb
              refine wo_pureG (m' := 511) 8 rfl (by kernel_rfl) rfl (t := 61) rfl (by decide) rfl (fun H => at_move rfl) ?_
              obtain ⟨x139, q140, h⟩ := h
              refine wo_loadG (m' := 1023) 9 (fun H => cellAt H (⟨b1, 0, none⟩ : Addr) = some (.pointer x139)) rfl (by kernel_rfl) rfl (t := 61) rfl (by decide) rfl (fun H q140 => at_load Try.underlying35 rfl rfl q140) q140 ?_
              obtain ⟨p141, q142, h⟩ := h
              refine wo_pureG (m' := 2047) 10 rfl (by kernel_rfl) rfl (t := 61) rfl (by decide) rfl (fun H => at_nilCheck (congrArg Value.pointer q142)) ?_
              refine wo_pureG (m' := 4095) 11 rfl (by kernel_rfl) rfl (t := 61) rfl (by decide) rfl (fun H => at_fieldAddr Try.underlying82 rfl rfl sz23 (by decide) rfl) ?_
              obtain ⟨x143, q144, h⟩ := h
              refine wo_loadG (m' := 8191) 12 (fun H => cellAt H (p141.add 0) = some (.slice x143.a x143.n x143.c)) rfl (by kernel_rfl) rfl (t := 61) rfl (by decide) rfl (fun H q144 => at_load Try.underlying23 rfl rfl q144) q144 ?_
              obtain ⟨x145, q146, h⟩ := h
              refine wo_loadG (m' := 16383) 13 (fun H => cellAt H (⟨b29, 0, none⟩ : Addr) = some (.int .i64 x145)) rfl (by kernel_rfl) rfl (t := 61) rfl (by decide) rfl (fun H q146 => at_load Try.underlying3 rfl rfl q146) q146 ?_
              obtain ⟨q147, q148, p149, q150, h⟩ := h
              refine wo_pureG (m' := 32767) 14 rfl (by kernel_rfl) rfl (t := 61) rfl (by decide) rfl (fun H => at_ixAddrL Try.underlying23 sz5 (sl_some q150) rfl q147 q148) ?_
              obtain ⟨x151, q152, h⟩ := h
              refine wo_loadG (m' := 65535) 15 (fun H => cellAt H (p149.add (Int.toNat x145 * 1)) = some (.int .u8 x151)) rfl (by kernel_rfl) rfl (t := 61) rfl (by decide) rfl (fun H q152 => at_load Try.underlying5 rfl rfl q152) q152 ?_
              refine wo_pureG (m' := 131071) 16 rfl (by kernel_rfl) rfl (t := 61) rfl (by decide) rfl (fun H => at_neq rfl rfl) ?_
              refine wo_pure (m' := 262143) 17 rfl (by kernel_rfl) rfl rfl (fun H => at_pick_f rfl rfl) ?_
              refine wo_pure (m' := 524287) 18 rfl (by kernel_rfl) rfl rfl (fun H => at_move rfl) ?_
              refine bif_ h (fun hb h => ?_) (fun hb h => ?_)
              · refine wo_set (t := 72) (v := .bool true) (congrArg Value.bool hb) ?_; clear hb
                refine wo_off (m' := 1048575) 19 rfl (by kernel_rfl) rfl (t := 72) rfl (by decide) rfl ?_
                refine wo_off (m' := 2097151) 20 rfl (by kernel_rfl) rfl (t := 72) rfl (by decide) rfl ?_
                refine wo_off (m' := 4194303) 21 rfl (by kernel_rfl) rfl (t := 72) rfl (by decide) rfl ?_
                refine wo_off (m' := 8388607) 22 rfl (by kernel_rfl) rfl (t := 72) rfl (by decide) rfl ?_
                refine wo_off (m' := 16777215) 23 rfl (by kernel_rfl) rfl (t := 72) rfl (by decide) rfl ?_
                refine wo_off (m' := 33554431) 24 rfl (by kernel_rfl) rfl (t := 72) rfl (by decide) rfl ?_
                refine wo_off (m' := 67108863) 25 rfl (by kernel_rfl) rfl (t := 72) rfl (by decide) rfl ?_
                refine wo_off (m' := 134217727) 26 rfl (by kernel_rfl) rfl (t := 72) rfl (by decide) rfl ?_
                refine wo_off (m' := 268435455) 27 rfl (by kernel_rfl) rfl (t := 72) rfl (by decide) rfl ?_
                refine wo_pure (m' := 536870911) 28 rfl (by kernel_rfl) rfl rfl (fun H => at_pick_t rfl rfl) ?_
                refine wo_done (by kernel_rfl) ?_
                exact wk_prune [(6, .pointer (some (⟨b5, 0, none⟩ : Addr))), (13, .pointer (some (⟨b29, 0, none⟩ : Addr))), (82, .bool true)] ⟨rfl, rfl, rfl, trivial⟩ (fun f1 => hJ123 (true) _ f1 h so)
              · refine wo_set (t := 72) (v := .bool false) (congrArg Value.bool hb) ?_; clear hb
                refine wo_pureG (m' := 1048575) 19 rfl (by kernel_rfl) rfl (t := 72) rfl (by decide) rfl (fun H => at_move rfl) ?_
                obtain ⟨x153, q154, h⟩ := h
                refine wo_loadG (m' := 2097151) 20 (fun H => cellAt H (⟨b1, 0, none⟩ : Addr) = some (.pointer x153)) rfl (by kernel_rfl) rfl (t := 72) rfl (by decide) rfl (fun H q154 => at_load Try.underlying35 rfl rfl q154) q154 ?_
                obtain ⟨p155, q156, h⟩ := h
                refine wo_pureG (m' := 4194303) 21 rfl (by kernel_rfl) rfl (t := 72) rfl (by decide) rfl (fun H => at_nilCheck (congrArg Value.pointer q156)) ?_
                refine wo_pureG (m' := 8388607) 22 rfl (by kernel_rfl) rfl (t := 72) rfl (by decide) rfl (fun H => at_fieldAddr Try.underlying82 rfl rfl sz59 (by decide) rfl) ?_
                obtain ⟨x157, q158, h⟩ := h
                refine wo_loadG (m' := 16777215) 23 (fun H => cellAt H (p155.add 1) = some (.slice x157.a x157.n x157.c)) rfl (by kernel_rfl) rfl (t := 72) rfl (by decide) rfl (fun H q158 => at_load Try.underlying59 rfl rfl q158) q158 ?_
                obtain ⟨x159, q160, h⟩ := h
                refine wo_loadG (m' := 33554431) 24 (fun H => cellAt H (⟨b29, 0, none⟩ : Addr) = some (.int .i64 x159)) rfl (by kernel_rfl) rfl (t := 72) rfl (by decide) rfl (fun H q160 => at_load Try.underlying3 rfl rfl q160) q160 ?_
                obtain ⟨q161, q162, p163, q164, h⟩ := h
                refine wo_pureG (m' := 67108863) 25 rfl (by kernel_rfl) rfl (t := 72) rfl (by decide) rfl (fun H => at_ixAddrL Try.underlying59 sz9 (sl_some q164) rfl q161 q162) ?_
                obtain ⟨x165, q166, h⟩ := h
                refine wo_loadG (m' := 134217727) 26 (fun H => cellAt H (p163.add (Int.toNat x159 * 1)) = some (.string x165)) rfl (by kernel_rfl) rfl (t := 72) rfl (by decide) rfl (fun H q166 => at_load Try.underlying9 rfl rfl q166) q166 ?_
                refine wo_pureG (m' := 268435455) 27 rfl (by kernel_rfl) rfl (t := 72) rfl (by decide) rfl (fun H => at_neqS rfl rfl) ?_
                refine wo_pure (m' := 536870911) 28 rfl (by kernel_rfl) rfl rfl (fun H => at_pick_f rfl rfl) ?_
                refine wo_done (by kernel_rfl) ?_
                exact wk_prune [(6, .pointer (some (⟨b5, 0, none⟩ : Addr))), (13, .pointer (some (⟨b29, 0, none⟩ : Addr))), (82, .bool (!(x113.2.toList == x165.toList)))] ⟨rfl, rfl, rfl, trivial⟩ (fun f1 => hJ123 ((!(x113.2.toList == x165.toList))) _ f1 h so)
      · rintro _ w116 ⟨_, rfl, h, q167⟩; replace so := so.trans q167
        rcases h with h | h | h
        · refine rp_none q110 h so ?_; intro w168 h so
          refine wk_blkN ?_
          exact wk_prune [(4, .pointer (some (⟨b1, 0, none⟩ : Addr))), (6, .pointer (some (⟨b5, 0, none⟩ : Addr))), (12, .func (.func 63) #[] #[.pointer (some x26)]), (13, .pointer (some (⟨b29, 0, none⟩ : Addr)))] ⟨rfl, rfl, rfl, rfl, trivial⟩ (fun f1 => hJ32 ((D117 :: [])) _ f1 h so)
        · refine rp_jump h so ?_; intro w169 h so; refine wc_exit ?_
          refine wk_blkE ?_
          exact wk_prune [(4, .pointer (some (⟨b1, 0, none⟩ : Addr))), (6, .pointer (some (⟨b5, 0, none⟩ : Addr))), (12, .func (.func 63) #[] #[.pointer (some x26)]), (13, .pointer (some (⟨b29, 0, none⟩ : Addr)))] ⟨rfl, rfl, rfl, rfl, trivial⟩ (fun f1 => hJ32 ((D117 :: [])) _ f1 h so)
        · refine rp_jump h so ?_; intro w170 h so; refine wc_ret ?_
          refine wk_blkR ?_
          refine wk_thenR ?_
          refine wk_tk h so ?_; intro w171 h so
          obtain ⟨x173, q172, h⟩ := h
          exact wk_retR1 (x := x173) rfl ⟨by decide, _, rfl, loadVar_one Try.underlying4 rfl q172⟩ rfl so h

/-- mosaic/mosaiclaw04.small -/
def mosaiclaw04_small.enc : (Ints 16) × Sl → Value := fun r => .agg (c25 r.1 r.2).toArray
def mosaiclaw04_small.s (H0 : Hp) (Q : ((Ints 16) × Sl) → Hp → Prop) : Prop :=
  Gn [] H0 (fun (b1 : Nat) (H2 : Hp) => nw H2 5 [.int .u8 5, .int .u8 7, .int .u8 9] (fun p3 H4 => Pv [b1] H2 H4 ∧ (Gr [b1] H4 (fun (H8 : Hp) => Q ((mkI (n := 16) [0, 1, 2, 0, 0, 0, 0, 0, 0, 0, 0, 0, 0, 0, 0, 0] (by rfl)), ⟨(some p3), 3, 3⟩) H8))))
set_option maxRecDepth 20000 in
set_option maxHeartbeats 4000000 in
theorem mosaiclaw04_small.calls (w0 : World) (Q : ((Ints 16) × Sl) → Hp → Prop) (h : mosaiclaw04_small.s w0.heap Q) :
    Ca Try.prog 62 #[] w0 (Rt mosaiclaw04_small.enc Q w0) := by
  refine ca_start (c := _) Try.func62 rfl Try.ntmps62 rfl ?_
  have so : Sm w0 w0 := Sm.refl w0
  unfold mosaiclaw04_small.s at h
  refine wc_prune [] trivial (fun f1 => ?_)
  refine wc_seq ?_
  refine wc_region ?_
  refine wl_newT (T := 25) (cs := (c25 (zInts 16) ⟨none, 0, 0⟩)) (ef_alloc zero25 rfl) rfl so ?_; intro b1 w2 hb_b1 t_b1 k_b1 so
  have g_b1 := Nat.le_of_eq hb_b1.symm
  have hc := k_b1.ch (F := [])
  refine wl_nil ?_
  refine wk_prune [(0, .pointer (some (⟨b1, 0, none⟩ : Addr)))] ⟨rfl, trivial⟩ (fun f1 => ?_)
  refine wk_then ?_
  refine wc_seq ?_
  refine wc_region ?_
  refine wl_val (at_build (cs := (c22 (mkI (n := 16) [0, 1, 2, 0, 0, 0, 0, 0, 0, 0, 0, 0, 0, 0, 0, 0] (by rfl)))) (ps := [(0, .int .u8 0), (1, .int .u8 1), (2, .int .u8 2)]) rfl (build_array (vs := [.int .u8 0, .int .u8 0, .int .u8 0, .int .u8 0, .int .u8 0, .int .u8 0, .int .u8 0, .int .u8 0, .int .u8 0, .int .u8 0, .int .u8 0, .int .u8 0, .int .u8 0, .int .u8 0, .int .u8 0, .int .u8 0]) (cs := (c22 (mkI (n := 16) [0, 1, 2, 0, 0, 0, 0, 0, 0, 0, 0, 0, 0, 0, 0, 0] (by rfl)))) zero22 (by first | rfl | simp [z22, c22, Value.cells, ints_len, bools_len, List.flatMap]) Try.underlying22 sz5 (by first | rfl | simp [z22, c22, Value.cells, ints_len, bools_len]) (by simp [z22, c22, Value.cells, ints_len, bools_len]) (by first | rfl | simp [z22, c22, Value.cells, ints_len, bools_len, List.set, List.flatMap, mkI, mkB, ints, bools]))) rfl ?_
  obtain ⟨i6, i6a, i6b, i6c, i6d⟩ := info5
  replace h := h b1 _ hc g_b1 t_b1.lt; clear hc
  refine wl_newS (ef_buildSlice (cs := [.int .u8 5, .int .u8 7, .int .u8 9]) (ps := [(0, .int .u8 5), (1, .int .u8 7), (2, .int .u8 9)]) Try.underlying23 i6a i6b rfl (by rw [i6c]; decide) (by rw [i6c]; exact fill_full (vs := [.int .u8 5, .int .u8 7, .int .u8 9]) rfl (by simp [Value.cells]) (by simp [Value.cells]) rfl (by simp))) rfl so (ones_cons rfl (ones_cons rfl (ones_cons rfl ones_nil))) h ?_; intro p3 w4 h r5 so
  obtain ⟨q7, h⟩ := h
  replace t_b1 := pv_bk q7 t_b1 (by simp)
  refine wl_val (at_build (cs := (c25 (mkI (n := 16) [0, 1, 2, 0, 0, 0, 0, 0, 0, 0, 0, 0, 0, 0, 0, 0] (by rfl)) ⟨(some p3), 3, 3⟩)) (ps := [(0, .agg (c22 (mkI (n := 16) [0, 1, 2, 0, 0, 0, 0, 0, 0, 0, 0, 0, 0, 0, 0, 0] (by rfl))).toArray), (1, .slice (some p3) 3 3)]) rfl (build_struct (szs := [16, 1]) (vs := [.agg (c22 (zInts 16)).toArray, .slice none 0 0]) (cs := (c25 (mkI (n := 16) [0, 1, 2, 0, 0, 0, 0, 0, 0, 0, 0, 0, 0, 0, 0, 0] (by rfl)) ⟨(some p3), 3, 3⟩)) zero25 (by first | rfl | simp [z25, c25, c22, len22, Value.cells, ints_len, bools_len, List.flatMap]) Try.underlying25 (by kernel_rfl) (by simp [z25, c25, c22, len22, Value.cells, ints_len, bools_len]) (by simp [z25, c25, c22, len22, Value.cells, ints_len, bools_len]) (by first | rfl | simp [z25, c25, c22, len22, Value.cells, ints_len, bools_len, List.set, List.flatMap, mkI, mkB, ints, bools]))) rfl ?_
  refine wl_stWT (vs := (c25 (mkI (n := 16) [0, 1, 2, 0, 0, 0, 0, 0, 0, 0, 0, 0, 0, 0, 0, 0] (by rfl)) ⟨(some p3), 3, 3⟩)) t_b1 (by first | (rw [len25, len25]) | (rw [len25]) | rfl) rfl so (fun q => ef_storeA (p := (⟨b1, 0, none⟩ : Addr)) (cs := (c25 (mkI (n := 16) [0, 1, 2, 0, 0, 0, 0, 0, 0, 0, 0, 0, 0, 0, 0, 0] (by rfl)) ⟨(some p3), 3, 3⟩)) (by rw [len25]; exact sz25) rfl rfl (one25 _ _) q) ?_; intro w8 t_b1 s_w8 so
  have hc := s_w8.ch
  refine wl_nil ?_
  refine wk_prune [(0, .pointer (some (⟨b1, 0, none⟩ : Addr)))] ⟨rfl, trivial⟩ (fun f1 => ?_)
  refine wk_then ?_
  refine wc_ret ?_
  replace h := h _ hc; clear hc
  exact wk_retR1 (x := ((mkI (n := 16) [0, 1, 2, 0, 0, 0, 0, 0, 0, 0, 0, 0, 0, 0, 0, 0] (by rfl)), ⟨(some p3), 3, 3⟩)) rfl ⟨by decide, _, rfl, loadVar_agg (cs := (c25 (mkI (n := 16) [0, 1, 2, 0, 0, 0, 0, 0, 0, 0, 0, 0, 0, 0, 0, 0] (by rfl)) ⟨(some p3), 3, 3⟩)) Try.underlying25 rfl (by rw [len25]; exact sz25) (ldA_full t_b1)⟩ rfl so h

/-- mosaic/mosaiclaw04.alive -/
def mosaiclaw04_alive.enc : Bool → Value := fun r => .bool r
def mosaiclaw04_alive.s (H0 : Hp) (Q : Bool → Hp → Prop) : Prop :=
  mosaiclaw04_small.s H0 (fun x1 H2 => huff_New.s x1.1 x1.2 H2 (fun x3 H4 => Join (fun (s6 : Bool) (H7 : Hp) => if s6 = true then (Q false H7) else (huff_Table_Code.s x3.1 9 H7 (fun x8 H9 => bits_Open.s (⟨#[96]⟩ : ByteArray) 0 1 H9 (fun x10 H11 => if x10.isNone = true then (Q false H11) else (huff_Table_Read.s x3.1 x10 H11 (fun x12 H13 => if (x8.1 == 3) = true then (if (x8.2 == 3) = true then (if (x12.1 == 9) = true then (if (x12.2 == 0) = true then (mosaiclaw04_small.s H13 (fun x14 H15 => huff_Room.s x14.1 x14.2 H15 (fun x16 H17 => if (x16 == 32768) = true then (huff_Check.s (zInts 16) ⟨none, 0, 0⟩ H17 (fun x18 H19 => Q (x18 == 40) H19)) else (Q false H17)))) else (Q false H13)) else (Q false H13)) else (Q false H13)) else (Q false H13))))))) (fun (J5 : Bool → Hp → Prop) => if (x3.2 != 0) = true then (J5 (true) H4) else (J5 (x3.1.isNone) H4))))
set_option maxRecDepth 20000 in
set_option maxHeartbeats 4000000 in
theorem mosaiclaw04_alive.calls (w0 : World) (Q : Bool → Hp → Prop) (h : mosaiclaw04_alive.s w0.heap Q) :
    Ca Try.prog 40 #[] w0 (Rt mosaiclaw04_alive.enc Q w0) := by
  refine ca_start (c := _) Try.func40 rfl Try.ntmps40 rfl ?_
  have so : Sm w0 w0 := Sm.refl w0
  unfold mosaiclaw04_alive.s at h
  refine wc_prune [] trivial (fun f1 => ?_)
  refine wc_seq ?_
  refine wc_region ?_
  refine wl_val (at_assign rfl) rfl ?_
  refine wl_nil ?_
  refine wk_prune [] trivial (fun f1 => ?_)
  refine wk_then ?_
  refine wc_seq ?_
  refine wc_region ?_
  refine wl_callF (mosaiclaw04_small.calls _ _ h) enter62 rfl trivial so ?_; intro x1 w2 h so
  refine wl_callF (huff_New.calls _ _ _ _ h) enter17 rfl trivial so ?_; intro x3 w4 h so
  refine wl_val (at_move rfl) rfl ?_
  refine wl_val (at_extract rfl rfl) rfl ?_
  refine wl_val (at_extract rfl rfl) rfl ?_
  refine wl_val (at_assign rfl) rfl ?_
  refine wl_val (at_assign rfl) rfl ?_
  refine wl_nil ?_
  refine wk_prune [(1, .pointer x3.1), (2, .int .i64 x3.2)] ⟨rfl, rfl, trivial⟩ (fun f1 => ?_)
  refine wk_then ?_
  refine wc_seq ?_
  refine wc_seq ?_
  refine wc_join (w0 := w0) (fun (s6 : Bool) => [(1, .pointer x3.1), (18, .bool s6)]) h ?_ ?_
  · rintro s6 w7 f1 h so; refine wk_then ?_
    refine wc_cond rfl h (fun h => ?_) (fun h => ?_)
    · refine wc_seq ?_
      refine wc_region ?_
      refine wl_val (at_assign rfl) rfl ?_
      refine wl_nil ?_
      refine wk_prune [(0, .bool false)] ⟨rfl, trivial⟩ (fun f1 => ?_)
      refine wk_then ?_
      refine wc_ret ?_
      refine wk_thenR ?_
      exact wk_ret1 (x := false) rfl (by decide) rfl so h
    · refine wc_skip ?_
      refine wk_prune [(1, .pointer x3.1)] ⟨rfl, trivial⟩ (fun f1 => ?_)
      refine wk_then ?_
      refine wc_seq ?_
      refine wc_region ?_
      refine wl_val (at_move rfl) rfl ?_
      refine wl_callF (huff_Table_Code.calls _ _ _ _ h) enter42 rfl trivial so ?_; intro x8 w9 h so
      refine wl_val (at_move rfl) rfl ?_
      refine wl_val (at_extract rfl rfl) rfl ?_
      refine wl_val (at_extract rfl rfl) rfl ?_
      refine wl_val (at_assign rfl) rfl ?_
      refine wl_val (at_assign rfl) rfl ?_
      refine wl_nil ?_
      refine wk_prune [(1, .pointer x3.1), (3, .int .u16 x8.1), (4, .int .i64 x8.2)] ⟨rfl, rfl, rfl, trivial⟩ (fun f1 => ?_)
      refine wk_then ?_
      refine wc_seq ?_
      refine wc_region ?_
      refine wl_callF (bits_Open.calls _ _ _ _ _ h) enter31 rfl trivial so ?_; intro x10 w11 h so
      refine wl_val (at_assign rfl) rfl ?_
      refine wl_nil ?_
      refine wk_prune [(1, .pointer x3.1), (3, .int .u16 x8.1), (4, .int .i64 x8.2), (5, .pointer x10)] ⟨rfl, rfl, rfl, rfl, trivial⟩ (fun f1 => ?_)
      refine wk_then ?_
      refine wc_seq ?_
      refine wc_seq ?_
      refine wc_region ?_
      refine wl_val (at_move rfl) rfl ?_
      refine wl_val (at_eqlP Try.underlying51 rfl rfl) rfl ?_
      refine wl_nil ?_
      refine wk_prune [(1, .pointer x3.1), (3, .int .u16 x8.1), (4, .int .i64 x8.2), (5, .pointer x10), (26, .bool x10.isNone)] ⟨rfl, rfl, rfl, rfl, rfl, trivial⟩ (fun f1 => ?_)
      refine wk_then ?_
      refine wc_cond rfl h (fun h => ?_) (fun h => ?_)
      · refine wc_seq ?_
        refine wc_region ?_
        refine wl_val (at_assign rfl) rfl ?_
        refine wl_nil ?_
        refine wk_prune [(0, .bool false)] ⟨rfl, trivial⟩ (fun f1 => ?_)
        refine wk_then ?_
        refine wc_ret ?_
        refine wk_thenR ?_
        exact wk_ret1 (x := false) rfl (by decide) rfl so h
      · refine wc_skip ?_
        refine wk_prune [(1, .pointer x3.1), (3, .int .u16 x8.1), (4, .int .i64 x8.2), (5, .pointer x10)] ⟨rfl, rfl, rfl, rfl, trivial⟩ (fun f1 => ?_)
        refine wk_then ?_
        refine wc_seq ?_
        refine wc_region ?_
        refine wl_val (at_move rfl) rfl ?_
        refine wl_val (at_move rfl) rfl ?_
        refine wl_callF (huff_Table_Read.calls _ _ _ _ h) enter30 rfl trivial so ?_; intro x12 w13 h so
        refine wl_val (at_move rfl) rfl ?_
        refine wl_val (at_extract rfl rfl) rfl ?_
        refine wl_val (at_extract rfl rfl) rfl ?_
        refine wl_val (at_assign rfl) rfl ?_
        refine wl_val (at_assign rfl) rfl ?_
        refine wl_nil ?_
        refine wk_prune [(3, .int .u16 x8.1), (4, .int .i64 x8.2), (6, .int .u8 x12.1), (7, .int .i64 x12.2)] ⟨rfl, rfl, rfl, rfl, trivial⟩ (fun f1 => ?_)
        refine wk_then ?_
        refine wc_seq ?_
        refine wc_region ?_
        refine wl_val (at_move rfl) rfl ?_
        refine wl_val (at_eql rfl rfl) rfl ?_
        refine wl_val (at_move rfl) rfl ?_
        refine bif_ h (fun hb h => ?_) (fun hb h => ?_)
        · refine wl_set (t := 35) (v := .bool true) (congrArg Value.bool hb) ?_; clear hb
          refine wl_on (t := 35) rfl (by decide) rfl ?_
          refine wl_val (at_move rfl) rfl ?_
          refine wl_on (t := 35) rfl (by decide) rfl ?_
          refine wl_val (at_eql rfl rfl) rfl ?_
          refine wl_val (at_pick_t rfl rfl) rfl ?_
          refine wl_val (at_move rfl) rfl ?_
          refine bif_ h (fun hb h => ?_) (fun hb h => ?_)
          · refine wl_set (t := 39) (v := .bool true) (congrArg Value.bool hb) ?_; clear hb
            refine wl_on (t := 39) rfl (by decide) rfl ?_
            refine wl_val (at_move rfl) rfl ?_
            refine wl_on (t := 39) rfl (by decide) rfl ?_
            refine wl_val (at_eql rfl rfl) rfl ?_
            refine wl_val (at_pick_t rfl rfl) rfl ?_
            refine wl_val (at_move rfl) rfl ?_
            refine bif_ h (fun hb h => ?_) (fun hb h => ?_)
            · refine wl_set (t := 43) (v := .bool true) (congrArg Value.bool hb) ?_; clear hb
              refine wl_on (t := 43) rfl (by decide) rfl ?_
              refine wl_val (at_move rfl) rfl ?_
              refine wl_on (t := 43) rfl (by decide) rfl ?_
              refine wl_val (at_eql rfl rfl) rfl ?_
              refine wl_val (at_pick_t rfl rfl) rfl ?_
              refine wl_val (at_move rfl) rfl ?_
              refine bif_ h (fun hb h => ?_) (fun hb h => ?_)
              · refine wl_set (t := 47) (v := .bool true) (congrArg Value.bool hb) ?_; clear hb
                refine wl_on (t := 47) rfl (by decide) rfl ?_
                refine wl_callF (mosaiclaw04_small.calls _ _ h) enter62 rfl trivial so ?_; intro x14 w15 h so
                refine wl_on (t := 47) rfl (by decide) rfl ?_
                refine wl_callF (huff_Room.calls _ _ _ _ h) enter14 rfl trivial so ?_; intro x16 w17 h so
                refine wl_on (t := 47) rfl (by decide) rfl ?_
                refine wl_val (at_eql rfl rfl) rfl ?_
                refine wl_val (at_pick_t rfl rfl) rfl ?_
                refine wl_val (at_move rfl) rfl ?_
                refine bif_ h (fun hb h => ?_) (fun hb h => ?_)
                · refine wl_set (t := 52) (v := .bool true) (congrArg Value.bool hb) ?_; clear hb
                  refine wl_on (t := 52) rfl (by decide) rfl ?_
                  refine wl_val (at_build (cs := (c25 (zInts 16) ⟨none, 0, 0⟩)) (ps := []) rfl (build_struct (szs := [16, 1]) (vs := [.agg (c22 (zInts 16)).toArray, .slice none 0 0]) (cs := (c25 (zInts 16) ⟨none, 0, 0⟩)) zero25 (by first | rfl | simp [z25, c25, c22, len22, Value.cells, ints_len, bools_len, List.flatMap]) Try.underlying25 (by kernel_rfl) (by simp [z25, c25, c22, len22, Value.cells, ints_len, bools_len]) (by simp [z25, c25, c22, len22, Value.cells, ints_len, bools_len]) (by first | rfl | simp [z25, c25, c22, len22, Value.cells, ints_len, bools_len, List.set, List.flatMap, mkI, mkB, ints, bools]))) rfl ?_
                  refine wl_on (t := 52) rfl (by decide) rfl ?_
                  refine wl_callF (huff_Check.calls _ _ _ _ h) enter13 rfl trivial so ?_; intro x18 w19 h so
                  refine wl_on (t := 52) rfl (by decide) rfl ?_
                  refine wl_val (at_eql rfl rfl) rfl ?_
                  refine wl_val (at_pick_t rfl rfl) rfl ?_
                  refine wl_val (at_assign rfl) rfl ?_
                  refine wl_nil ?_
                  refine wk_prune [(0, .bool (x18 == 40))] ⟨rfl, trivial⟩ (fun f1 => ?_)
                  refine wk_then ?_
                  refine wc_ret ?_
                  exact wk_ret1 (x := (x18 == 40)) rfl (by decide) rfl so h
                · refine wl_set (t := 52) (v := .bool false) (congrArg Value.bool hb) ?_; clear hb
                  refine wl_off (t := 52) rfl (by decide) rfl ?_
                  refine wl_off (t := 52) rfl (by decide) rfl ?_
                  refine wl_off (t := 52) rfl (by decide) rfl ?_
                  refine wl_val (at_pick_f rfl rfl) rfl ?_
                  refine wl_val (at_assign rfl) rfl ?_
                  refine wl_nil ?_
                  refine wk_prune [(0, .bool false)] ⟨rfl, trivial⟩ (fun f1 => ?_)
                  refine wk_then ?_
                  refine wc_ret ?_
                  exact wk_ret1 (x := false) rfl (by decide) rfl so h
              · refine wl_set (t := 47) (v := .bool false) (congrArg Value.bool hb) ?_; clear hb
                refine wl_off (t := 47) rfl (by decide) rfl ?_
                refine wl_off (t := 47) rfl (by decide) rfl ?_
                refine wl_off (t := 47) rfl (by decide) rfl ?_
                refine wl_val (at_pick_f rfl rfl) rfl ?_
                refine wl_val (at_move rfl) rfl ?_
                refine wl_off (t := 52) rfl (by decide) rfl ?_
                refine wl_off (t := 52) rfl (by decide) rfl ?_
                refine wl_off (t := 52) rfl (by decide) rfl ?_
                refine wl_val (at_pick_f rfl rfl) rfl ?_
                refine wl_val (at_assign rfl) rfl ?_
                refine wl_nil ?_
                refine wk_prune [(0, .bool false)] ⟨rfl, trivial⟩ (fun f1 => ?_)
                refine wk_then ?_
                refine wc_ret ?_
                exact wk_ret1 (x := false) rfl (by decide) rfl so h
            · refine wl_set (t := 43) (v := .bool false) (congrArg Value.bool hb) ?_; clear hb
              refine wl_off (t := 43) rfl (by decide) rfl ?_
              refine wl_off (t := 43) rfl (by decide) rfl ?_
              refine wl_val (at_pick_f rfl rfl) rfl ?_
              refine wl_val (at_move rfl) rfl ?_
              refine wl_off (t := 47) rfl (by decide) rfl ?_
              refine wl_off (t := 47) rfl (by decide) rfl ?_
              refine wl_off (t := 47) rfl (by decide) rfl ?_
              refine wl_val (at_pick_f rfl rfl) rfl ?_
              refine wl_val (at_move rfl) rfl ?_
              refine wl_off (t := 52) rfl (by decide) rfl ?_
              refine wl_off (t := 52) rfl (by decide) rfl ?_
              refine wl_off (t := 52) rfl (by decide) rfl ?_
              refine wl_val (at_pick_f rfl rfl) rfl ?_
              refine wl_val (at_assign rfl) rfl ?_
              refine wl_nil ?_
              refine wk_prune [(0, .bool false)] ⟨rfl, trivial⟩ (fun f1 => ?_)
              refine wk_then ?_
              refine wc_ret ?_
              exact wk_ret1 (x := false) rfl (by decide) rfl so h
          · refine wl_set (t := 39) (v := .bool false) (congrArg Value.bool hb) ?_; clear hb
            refine wl_off (t := 39) rfl (by decide) rfl ?_
            refine wl_off (t := 39) rfl (by decide) rfl ?_
            refine wl_val (at_pick_f rfl rfl) rfl ?_
            refine wl_val (at_move rfl) rfl ?_
            refine wl_off (t := 43) rfl (by decide) rfl ?_
            refine wl_off (t := 43) rfl (by decide) rfl ?_
            refine wl_val (at_pick_f rfl rfl) rfl ?_
            refine wl_val (at_move rfl) rfl ?_
            refine wl_off (t := 47) rfl (by decide) rfl ?_
            refine wl_off (t := 47) rfl (by decide) rfl ?_
            refine wl_off (t := 47) rfl (by decide) rfl ?_
            refine wl_val (at_pick_f rfl rfl) rfl ?_
            refine wl_val (at_move rfl) rfl ?_
            refine wl_off (t := 52) rfl (by decide) rfl ?_
            refine wl_off (t := 52) rfl (by decide) rfl ?_
            refine wl_off (t := 52) rfl (by decide) rfl ?_
            refine wl_val (at_pick_f rfl rfl) rfl ?_
            refine wl_val (at_assign rfl) rfl ?_
            refine wl_nil ?_
            refine wk_prune [(0, .bool false)] ⟨rfl, trivial⟩ (fun f1 => ?_)
            refine wk_then ?_
            refine wc_ret ?_
            exact wk_ret1 (x := false) rfl (by decide) rfl so h
        · refine wl_set (t := 35) (v := .bool false) (congrArg Value.bool hb) ?_; clear hb
          refine wl_off (t := 35) rfl (by decide) rfl ?_
          refine wl_off (t := 35) rfl (by decide) rfl ?_
          refine wl_val (at_pick_f rfl rfl) rfl ?_
          refine wl_val (at_move rfl) rfl ?_
          refine wl_off (t := 39) rfl (by decide) rfl ?_
          refine wl_off (t := 39) rfl (by decide) rfl ?_
          refine wl_val (at_pick_f rfl rfl) rfl ?_
          refine wl_val (at_move rfl) rfl ?_
          refine wl_off (t := 43) rfl (by decide) rfl ?_
          refine wl_off (t := 43) rfl (by decide) rfl ?_
          refine wl_val (at_pick_f rfl rfl) rfl ?_
          refine wl_val (at_move rfl) rfl ?_
          refine wl_off (t := 47) rfl (by decide) rfl ?_
          refine wl_off (t := 47) rfl (by decide) rfl ?_
          refine wl_off (t := 47) rfl (by decide) rfl ?_
          refine wl_val (at_pick_f rfl rfl) rfl ?_
          refine wl_val (at_move rfl) rfl ?_
          refine wl_off (t := 52) rfl (by decide) rfl ?_
          refine wl_off (t := 52) rfl (by decide) rfl ?_
          refine wl_off (t := 52) rfl (by decide) rfl ?_
          refine wl_val (at_pick_f rfl rfl) rfl ?_
          refine wl_val (at_assign rfl) rfl ?_
          refine wl_nil ?_
          refine wk_prune [(0, .bool false)] ⟨rfl, trivial⟩ (fun f1 => ?_)
          refine wk_then ?_
          refine wc_ret ?_
          exact wk_ret1 (x := false) rfl (by decide) rfl so h
  · intro J5 h hJ5
    refine wc_region ?_
    refine wl_val (at_move rfl) rfl ?_
    refine wl_val (at_neq rfl rfl) rfl ?_
    refine wl_val (at_move rfl) rfl ?_
    refine bif_ h (fun hb h => ?_) (fun hb h => ?_)
    · refine wl_set (t := 15) (v := .bool true) (congrArg Value.bool hb) ?_; clear hb
      refine wl_off (t := 15) rfl (by decide) rfl ?_
      refine wl_off (t := 15) rfl (by decide) rfl ?_
      refine wl_val (at_pick_t rfl rfl) rfl ?_
      refine wl_nil ?_
      exact wk_prune [(1, .pointer x3.1), (18, .bool true)] ⟨rfl, rfl, trivial⟩ (fun f1 => hJ5 (true) _ f1 h so)
    · refine wl_set (t := 15) (v := .bool false) (congrArg Value.bool hb) ?_; clear hb
      refine wl_on (t := 15) rfl (by decide) rfl ?_
      refine wl_val (at_move rfl) rfl ?_
      refine wl_on (t := 15) rfl (by decide) rfl ?_
      refine wl_val (at_eqlP Try.underlying32 rfl rfl) rfl ?_
      refine wl_val (at_pick_f rfl rfl) rfl ?_
      refine wl_nil ?_
      exact wk_prune [(1, .pointer x3.1), (18, .bool x3.1.isNone)] ⟨rfl, rfl, trivial⟩ (fun f1 => hJ5 (x3.1.isNone) _ f1 h so)

/-- mosaic/mosaiclaw04.begins -/
def mosaiclaw04_begins.enc : Bool → Value := fun r => .bool r
def mosaiclaw04_begins.s (a0 : ByteArray) (a1 : ByteArray) (H0 : Hp) (Q : Bool → Hp → Prop) : Prop :=
  if decide ((a0.size : Int) ≤ (a1.size : Int)) = true then (0 ≤ (a0.size : Int) ∧ (a0.size : Int) ≤ (a1.size : Int) ∧ (Q ((a1.extract 0 (Int.toNat (a0.size : Int))).toList == a0.toList) H0)) else (Q false H0)
set_option maxRecDepth 20000 in
set_option maxHeartbeats 4000000 in
theorem mosaiclaw04_begins.calls (a0 : ByteArray) (a1 : ByteArray) (w0 : World) (Q : Bool → Hp → Prop) (h : mosaiclaw04_begins.s a0 a1 w0.heap Q) :
    Ca Try.prog 43 #[.string a0, .string a1] w0 (Rt mosaiclaw04_begins.enc Q w0) := by
  refine ca_start (c := _) Try.func43 rfl Try.ntmps43 rfl ?_
  have so : Sm w0 w0 := Sm.refl w0
  unfold mosaiclaw04_begins.s at h
  refine wc_prune [(0, .string a0), (1, .string a1)] ⟨rfl, rfl, trivial⟩ (fun f1 => ?_)
  refine wc_seq ?_
  refine wc_region ?_
  refine wl_val (at_assign rfl) rfl ?_
  refine wl_nil ?_
  refine wk_prune [(0, .string a0), (1, .string a1)] ⟨rfl, rfl, trivial⟩ (fun f1 => ?_)
  refine wk_then ?_
  refine wc_seq ?_
  refine wc_region ?_
  refine wl_val (at_move rfl) rfl ?_
  refine wl_val (at_lenS Try.underlying9 rfl) rfl ?_
  refine wl_val (at_move rfl) rfl ?_
  refine wl_val (at_lenS Try.underlying9 rfl) rfl ?_
  refine wl_val (at_leq rfl rfl) rfl ?_
  refine wl_val (at_move rfl) rfl ?_
  refine bif_ h (fun hb h => ?_) (fun hb h => ?_)
  · refine wl_set (t := 10) (v := .bool true) (congrArg Value.bool hb) ?_; clear hb
    refine wl_on (t := 10) rfl (by decide) rfl ?_
    refine wl_val (at_move rfl) rfl ?_
    refine wl_on (t := 10) rfl (by decide) rfl ?_
    refine wl_val (at_move rfl) rfl ?_
    refine wl_on (t := 10) rfl (by decide) rfl ?_
    refine wl_val (at_lenS Try.underlying9 rfl) rfl ?_
    refine wl_on (t := 10) rfl (by decide) rfl ?_
    obtain ⟨q1, q2, h⟩ := h
    refine wl_val (at_subSh Try.underlying9 rfl rfl q1 q2) rfl ?_
    refine wl_on (t := 10) rfl (by decide) rfl ?_
    refine wl_val (at_move rfl) rfl ?_
    refine wl_on (t := 10) rfl (by decide) rfl ?_
    refine wl_val (at_eqlS rfl rfl) rfl ?_
    refine wl_val (at_pick_t rfl rfl) rfl ?_
    refine wl_val (at_assign rfl) rfl ?_
    refine wl_nil ?_
    refine wk_prune [(4, .bool ((a1.extract 0 (Int.toNat (a0.size : Int))).toList == a0.toList))] ⟨rfl, trivial⟩ (fun f1 => ?_)
    refine wk_then ?_
    refine wc_ret ?_
    exact wk_ret1 (x := ((a1.extract 0 (Int.toNat (a0.size : Int))).toList == a0.toList)) rfl (by decide) rfl so h
  · refine wl_set (t := 10) (v := .bool false) (congrArg Value.bool hb) ?_; clear hb
    refine wl_off (t := 10) rfl (by decide) rfl ?_
    refine wl_off (t := 10) rfl (by decide) rfl ?_
    refine wl_off (t := 10) rfl (by decide) rfl ?_
    refine wl_off (t := 10) rfl (by decide) rfl ?_
    refine wl_off (t := 10) rfl (by decide) rfl ?_
    refine wl_off (t := 10) rfl (by decide) rfl ?_
    refine wl_val (at_pick_f rfl rfl) rfl ?_
    refine wl_val (at_assign rfl) rfl ?_
    refine wl_nil ?_
    refine wk_prune [(4, .bool false)] ⟨rfl, trivial⟩ (fun f1 => ?_)
    refine wk_then ?_
    refine wc_ret ?_
    exact wk_ret1 (x := false) rfl (by decide) rfl so h
end Go.Proofs.Ytbefacccdaafeaa.G
