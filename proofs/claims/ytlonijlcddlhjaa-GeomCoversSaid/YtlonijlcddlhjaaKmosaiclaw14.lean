import Derived.Test.YtlonijlcddlhjaaGF
import Derived.Test.YtlonijlcddlhjaaKgeom
import Derived.Test.YtlonijlcddlhjaaKmosaicref14
namespace Go.Proofs.Ytlonijlcddlhjaa.G
open Go.RowKit
set_option linter.unusedVariables false
set_option linter.unusedSimpArgs false
/-- mosaic/mosaiclaw14.lent -/
def mosaiclaw14_lent.enc : Int × Int × Int × Sl × Sl × Sl → Value := fun r => .tuple #[.agg (c26 r.1 r.2.1 r.2.2.1 r.2.2.2.1).toArray, .slice r.2.2.2.2.1.a r.2.2.2.2.1.n r.2.2.2.2.1.c, .slice r.2.2.2.2.2.a r.2.2.2.2.2.n r.2.2.2.2.2.c]
def mosaiclaw14_lent.s (a0_0 : Int) (a0_1 : Int) (a0_2 : Int) (a0_3 : Sl) (a1 : Sl) (H0 : Hp) (Q : (Int × Int × Int × Sl × Sl × Sl) → Hp → Prop) : Prop :=
  Gn [] H0 (fun (b1 : Nat) (H2 : Hp) => Gn [] H2 (fun (b3 : Nat) (H4 : Hp) => ∃ y8 : List Value, y8.length = a0_3.n * 4 ∧ rdS H4 a0_3.a y8 ∧ apS H4 ⟨none, 0, 0⟩ 23 4 4 z23.cells a0_3.n y8 (fun l6 H7 => Pv [b1, b3] H4 H7 ∧ (nw H7 23 (c23 77 9 0 0) (fun p12 H13 => Pv [b1, b3] H7 H13 ∧ (apS H13 l6 23 4 4 z23.cells 1 (c23 77 9 0 0) (fun l18 H19 => Pv [b1, b3] H13 H19 ∧ (∃ y24 : List Value, y24.length = a1.n * 3 ∧ rdS H19 a1.a y24 ∧ apS H19 ⟨none, 0, 0⟩ 52 3 16 z52.cells a1.n y24 (fun l22 H23 => Pv [b1, b3] H19 H23 ∧ (nw H23 52 (c52 (-7) 0 0) (fun p28 H29 => Pv [b1, b3] H23 H29 ∧ (apS H29 l22 52 3 16 z52.cells 1 (c52 (-7) 0 0) (fun l34 H35 => Pv [b1, b3] H29 H35 ∧ (0 ≤ (a0_3.n : Int) ∧ (a0_3.n : Int) ≤ (l18.c : Int) ∧ (Gr [b3, b1] H35 (fun (H40 : Hp) => Q (a0_0, a0_1, a0_2, (slS l18 4 0 (a0_3.n : Int)), l18, l34) H40))))))))))))))))
set_option maxRecDepth 20000 in
set_option maxHeartbeats 4000000 in
theorem mosaiclaw14_lent.calls (a0_0 : Int) (a0_1 : Int) (a0_2 : Int) (a0_3 : Sl) (a1 : Sl) (w0 : World) (Q : (Int × Int × Int × Sl × Sl × Sl) → Hp → Prop) (h : mosaiclaw14_lent.s a0_0 a0_1 a0_2 a0_3 a1 w0.heap Q) :
    Ca Try.prog 11 #[.agg (c26 a0_0 a0_1 a0_2 a0_3).toArray, .slice a1.a a1.n a1.c] w0 (Rt mosaiclaw14_lent.enc Q w0) := by
  refine ca_start (c := _) Try.func11 rfl Try.ntmps11 rfl ?_
  have so : Sm w0 w0 := Sm.refl w0
  unfold mosaiclaw14_lent.s at h
  refine wc_prune [(0, .agg (c26 a0_0 a0_1 a0_2 a0_3).toArray), (1, .slice a1.a a1.n a1.c)] ⟨rfl, rfl, trivial⟩ (fun f1 => ?_)
  refine wc_seq ?_
  refine wc_region ?_
  refine wl_newT (T := 26) (cs := (c26 a0_0 a0_1 a0_2 a0_3)) (ef_box rfl rfl) rfl so ?_; intro b1 w2 hb_b1 t_b1 k_b1 so
  have g_b1 := Nat.le_of_eq hb_b1.symm
  have hc := k_b1.ch (F := [])
  replace h := h b1 _ hc g_b1 t_b1.lt; clear hc
  refine wl_newT (T := 26) (cs := (c26 0 0 0 ⟨none, 0, 0⟩)) (ef_alloc zero26 rfl) rfl so ?_; intro b3 w4 hb_b3 t_b3 k_b3 so
  have g_b3 := Nat.le_of_eq hb_b3.symm
  have hc := k_b3.ch (F := [])
  have n_b1_b3 : b1 ≠ b3 := fun e => by have := t_b1.lt; omega
  replace t_b1 := t_b1.keep k_b3
  refine wl_val (at_assign rfl) rfl ?_
  refine wl_val (at_assign rfl) rfl ?_
  refine wl_nil ?_
  refine wk_prune [(1, .slice a1.a a1.n a1.c), (2, .pointer (some (⟨b1, 0, none⟩ : Addr))), (4, .pointer (some (⟨b3, 0, none⟩ : Addr)))] ⟨rfl, rfl, rfl, trivial⟩ (fun f1 => ?_)
  refine wk_then ?_
  refine wc_seq ?_
  refine wc_region ?_
  refine wl_val (at_assign rfl) rfl ?_
  refine wl_nil ?_
  refine wk_prune [(1, .slice a1.a a1.n a1.c), (2, .pointer (some (⟨b1, 0, none⟩ : Addr))), (4, .pointer (some (⟨b3, 0, none⟩ : Addr))), (7, .slice none 0 0)] ⟨rfl, rfl, rfl, rfl, trivial⟩ (fun f1 => ?_)
  refine wk_then ?_
  refine wc_seq ?_
  refine wc_region ?_
  refine wl_val (at_move rfl) rfl ?_
  refine wl_val (at_fieldAddr Try.underlying26 rfl rfl sz24 (by decide) rfl) rfl ?_
  refine wl_val (at_load (v := .slice a0_3.a a0_3.n a0_3.c) Try.underlying24 rfl rfl ((t_b1.cell 3).trans (by first | rfl | simp [List.getElem?_append, ints_len, bools_len]))) rfl ?_
  obtain ⟨i5, i5a, i5b, i5c, i5d⟩ := info23
  replace h := h b3 _ hc g_b3 t_b3.lt; clear hc
  obtain ⟨y8, q9, q10, h⟩ := h
  refine wl_ap (fx_append (s := ⟨none, 0, 0⟩) (t := a0_3) (m := a0_3.n) (xs := y8) Try.underlying24 Try.underlying24 i5a i5b i5c i5d rfl rfl rfl q9 q10 h) rfl so ?_; intro l6 w7 h so
  obtain ⟨q11, h⟩ := h
  replace t_b1 := pv_bk q11 t_b1 (by simp)
  replace t_b3 := pv_bk q11 t_b3 (by simp)
  refine wl_val (at_assign rfl) rfl ?_
  refine wl_nil ?_
  refine wk_prune [(1, .slice a1.a a1.n a1.c), (2, .pointer (some (⟨b1, 0, none⟩ : Addr))), (4, .pointer (some (⟨b3, 0, none⟩ : Addr))), (7, .slice l6.a l6.n l6.c)] ⟨rfl, rfl, rfl, rfl, trivial⟩ (fun f1 => ?_)
  refine wk_then ?_
  refine wc_seq ?_
  refine wc_region ?_
  refine wl_val (at_move rfl) rfl ?_
  refine wl_val (at_build (cs := (c23 77 9 0 0)) (ps := [(0, .int .u8 77), (1, .int .u8 9)]) rfl (fun w => by simp [Instr.build, Instr.fill, go_sem, Try.underlying23, z23])) rfl ?_
  obtain ⟨i15, i15a, i15b, i15c, i15d⟩ := info23
  refine wl_newS (ef_buildSlice (cs := (c23 77 9 0 0)) (ps := [(0, .agg (c23 77 9 0 0).toArray)]) Try.underlying24 i15a i15b rfl (by rw [i15c]; decide) (by rw [i15c]; exact fill_full (vs := [.agg (c23 77 9 0 0).toArray]) rfl (by simp [Value.cells]) (by simp [Value.cells, len23]) rfl (by simp))) rfl so (one23 _ _ _ _) h ?_; intro p12 w13 h r14 so
  obtain ⟨q16, h⟩ := h
  replace t_b1 := pv_bk q16 t_b1 (by simp)
  replace t_b3 := pv_bk q16 t_b3 (by simp)
  obtain ⟨i17, i17a, i17b, i17c, i17d⟩ := info23
  refine wl_ap (fx_append (s := l6) (t := ⟨(some p12), 1, 1⟩) (m := 1) (xs := (c23 77 9 0 0)) Try.underlying24 Try.underlying24 i17a i17b i17c i17d rfl rfl rfl (by first | rfl | simp [len23]) r14 h) rfl so ?_; intro l18 w19 h so
  obtain ⟨q20, h⟩ := h
  replace t_b1 := pv_bk q20 t_b1 (by simp)
  replace t_b3 := pv_bk q20 t_b3 (by simp)
  refine wl_val (at_assign rfl) rfl ?_
  refine wl_nil ?_
  refine wk_prune [(1, .slice a1.a a1.n a1.c), (2, .pointer (some (⟨b1, 0, none⟩ : Addr))), (4, .pointer (some (⟨b3, 0, none⟩ : Addr))), (7, .slice l18.a l18.n l18.c)] ⟨rfl, rfl, rfl, rfl, trivial⟩ (fun f1 => ?_)
  refine wk_then ?_
  refine wc_seq ?_
  refine wc_region ?_
  refine wl_val (at_assign rfl) rfl ?_
  refine wl_nil ?_
  refine wk_prune [(1, .slice a1.a a1.n a1.c), (2, .pointer (some (⟨b1, 0, none⟩ : Addr))), (4, .pointer (some (⟨b3, 0, none⟩ : Addr))), (7, .slice l18.a l18.n l18.c), (8, .slice none 0 0)] ⟨rfl, rfl, rfl, rfl, rfl, trivial⟩ (fun f1 => ?_)
  refine wk_then ?_
  refine wc_seq ?_
  refine wc_region ?_
  refine wl_val (at_move rfl) rfl ?_
  refine wl_val (at_move rfl) rfl ?_
  obtain ⟨i21, i21a, i21b, i21c, i21d⟩ := info52
  obtain ⟨y24, q25, q26, h⟩ := h
  refine wl_ap (fx_append (s := ⟨none, 0, 0⟩) (t := a1) (m := a1.n) (xs := y24) Try.underlying32 Try.underlying32 i21a i21b i21c i21d rfl rfl rfl q25 q26 h) rfl so ?_; intro l22 w23 h so
  obtain ⟨q27, h⟩ := h
  replace t_b1 := pv_bk q27 t_b1 (by simp)
  replace t_b3 := pv_bk q27 t_b3 (by simp)
  refine wl_val (at_assign rfl) rfl ?_
  refine wl_nil ?_
  refine wk_prune [(2, .pointer (some (⟨b1, 0, none⟩ : Addr))), (4, .pointer (some (⟨b3, 0, none⟩ : Addr))), (7, .slice l18.a l18.n l18.c), (8, .slice l22.a l22.n l22.c)] ⟨rfl, rfl, rfl, rfl, trivial⟩ (fun f1 => ?_)
  refine wk_then ?_
  refine wc_seq ?_
  refine wc_region ?_
  refine wl_val (at_move rfl) rfl ?_
  refine wl_val (at_build (cs := (c52 (-7) 0 0)) (ps := [(0, .int .i64 (-7))]) rfl (fun w => by simp [Instr.build, Instr.fill, go_sem, Try.underlying52, z52])) rfl ?_
  obtain ⟨i31, i31a, i31b, i31c, i31d⟩ := info52
  refine wl_newS (ef_buildSlice (cs := (c52 (-7) 0 0)) (ps := [(0, .agg (c52 (-7) 0 0).toArray)]) Try.underlying32 i31a i31b rfl (by rw [i31c]; decide) (by rw [i31c]; exact fill_full (vs := [.agg (c52 (-7) 0 0).toArray]) rfl (by simp [Value.cells]) (by simp [Value.cells, len52]) rfl (by simp))) rfl so (one52 _ _ _) h ?_; intro p28 w29 h r30 so
  obtain ⟨q32, h⟩ := h
  replace t_b1 := pv_bk q32 t_b1 (by simp)
  replace t_b3 := pv_bk q32 t_b3 (by simp)
  obtain ⟨i33, i33a, i33b, i33c, i33d⟩ := info52
  refine wl_ap (fx_append (s := l22) (t := ⟨(some p28), 1, 1⟩) (m := 1) (xs := (c52 (-7) 0 0)) Try.underlying32 Try.underlying32 i33a i33b i33c i33d rfl rfl rfl (by first | rfl | simp [len52]) r30 h) rfl so ?_; intro l34 w35 h so
  obtain ⟨q36, h⟩ := h
  replace t_b1 := pv_bk q36 t_b1 (by simp)
  replace t_b3 := pv_bk q36 t_b3 (by simp)
  refine wl_val (at_assign rfl) rfl ?_
  refine wl_nil ?_
  refine wk_prune [(2, .pointer (some (⟨b1, 0, none⟩ : Addr))), (4, .pointer (some (⟨b3, 0, none⟩ : Addr))), (7, .slice l18.a l18.n l18.c), (8, .slice l34.a l34.n l34.c)] ⟨rfl, rfl, rfl, rfl, trivial⟩ (fun f1 => ?_)
  refine wk_then ?_
  refine wc_seq ?_
  refine wc_region ?_
  refine wl_val (at_move rfl) rfl ?_
  refine wl_val (at_fieldAddr Try.underlying26 rfl rfl sz24 (by decide) rfl) rfl ?_
  refine wl_val (at_load (v := .slice a0_3.a a0_3.n a0_3.c) Try.underlying24 rfl rfl ((t_b1.cell 3).trans (by first | rfl | simp [List.getElem?_append, ints_len, bools_len]))) rfl ?_
  refine wl_val (at_lenL Try.underlying24 rfl) rfl ?_
  obtain ⟨q37, q38, h⟩ := h
  refine wl_val (at_subLh (s := l18) Try.underlying24 sz23 rfl rfl q37 q38) rfl ?_
  refine wl_val (at_fieldAddr Try.underlying26 rfl rfl sz24 (by decide) rfl) rfl ?_
  refine wl_stT (v := .slice ((slS l18 4 0 (a0_3.n : Int)).a) ((slS l18 4 0 (a0_3.n : Int)).n) ((slS l18 4 0 (a0_3.n : Int)).c)) (cs' := (c26 a0_0 a0_1 a0_2 (slS l18 4 0 (a0_3.n : Int)))) t_b1 (by first | decide | simp [ints_len, bools_len]) (by first | rfl | simp [List.set_append, ints_len, bools_len]) rfl so (fun q1 q2 => ef_store (sz := sz24) rfl rfl rfl q1 q2) ?_; intro w39 t_b1 s_w39 so
  replace t_b3 := t_b3.same s_w39 (Ne.symm n_b1_b3)
  have hc := s_w39.ch
  refine wl_nil ?_
  refine wk_prune [(2, .pointer (some (⟨b1, 0, none⟩ : Addr))), (4, .pointer (some (⟨b3, 0, none⟩ : Addr))), (7, .slice l18.a l18.n l18.c), (8, .slice l34.a l34.n l34.c)] ⟨rfl, rfl, rfl, rfl, trivial⟩ (fun f1 => ?_)
  refine wk_then ?_
  refine wc_seq ?_
  refine wc_region ?_
  refine wl_val (at_loadA (cs := (c26 a0_0 a0_1 a0_2 (slS l18 4 0 (a0_3.n : Int)))) Try.underlying26 rfl (by rw [len26]; exact sz26) rfl (ldA_full t_b1)) rfl ?_
  refine wl_val (at_move rfl) rfl ?_
  refine wl_val (at_move rfl) rfl ?_
  refine wl_stWT (vs := (c26 a0_0 a0_1 a0_2 (slS l18 4 0 (a0_3.n : Int)))) t_b3 (by first | (rw [len26, len26]) | (rw [len26]) | rfl) rfl so (fun q => ef_storeA (p := (⟨b3, 0, none⟩ : Addr)) (cs := (c26 a0_0 a0_1 a0_2 (slS l18 4 0 (a0_3.n : Int)))) (by rw [len26]; exact sz26) rfl rfl (one26 _ _ _ _) q) ?_; intro w40 t_b3 s_w40 so
  replace t_b1 := t_b1.same s_w40 (n_b1_b3)
  replace hc := ch_more hc s_w40
  refine wl_val (at_assign rfl) rfl ?_
  refine wl_val (at_assign rfl) rfl ?_
  refine wl_nil ?_
  refine wk_prune [(4, .pointer (some (⟨b3, 0, none⟩ : Addr))), (5, .slice l18.a l18.n l18.c), (6, .slice l34.a l34.n l34.c)] ⟨rfl, rfl, rfl, trivial⟩ (fun f1 => ?_)
  refine wk_then ?_
  refine wc_ret ?_
  replace h := h _ hc; clear hc
  exact wk_retR3 (x := (a0_0, a0_1, a0_2, (slS l18 4 0 (a0_3.n : Int)), l18, l34)) rfl ⟨by decide, _, rfl, loadVar_agg (cs := (c26 a0_0 a0_1 a0_2 (slS l18 4 0 (a0_3.n : Int)))) Try.underlying26 rfl (by rw [len26]; exact sz26) (ldA_full t_b3)⟩ ⟨by decide, rfl⟩ ⟨by decide, rfl⟩ rfl so h

/-- mosaic/mosaiclaw14.stays -/
def mosaiclaw14_stays.enc : Bool → Value := fun r => .bool r
def mosaiclaw14_stays.s (a0 : Sl) (a1 : Sl) (a2_0 : Int) (a2_1 : Int) (a2_2 : Int) (a2_3 : Sl) (a3 : Sl) (H0 : Hp) (Q : Bool → Hp → Prop) : Prop :=
  Gn [] H0 (fun (b1 : Nat) (H2 : Hp) => ∃ k3, Fix (fun (rec8 : Int → Hp → Prop) (s5 : Int) (H6 : Hp) => if decide (s5 < (a2_3.n : Int)) = true then (0 ≤ s5 ∧ s5 < (a0.n : Int) ∧ someA a0.a (fun p11 => ∃ x13 : Int, ∃ x14 : Int, ∃ x15 : Int, ∃ x16 : Int, ldA H6 (p11.add (Int.toNat s5 * 4)) (c23 x13 x14 x15 x16) ∧ (0 ≤ s5 ∧ s5 < (a2_3.n : Int) ∧ someA a2_3.a (fun p20 => ∃ x22 : Int, ∃ x23 : Int, ∃ x24 : Int, ∃ x25 : Int, ldA H6 (p20.add (Int.toNat s5 * 4)) (c23 x22 x23 x24 x25) ∧ (if (!((x13 == x22) && ((x14 == x23) && ((x15 == x24) && (x16 == x25))))) = true then (Q false H6) else (rec8 ((IntKind.wrap .i64 (s5 + 1))) H6)))))) else (∃ k28, Fix (fun (rec33 : Int → Hp → Prop) (s30 : Int) (H31 : Hp) => if decide (s30 < (a3.n : Int)) = true then (0 ≤ s30 ∧ s30 < (a1.n : Int) ∧ someA a1.a (fun p36 => ∃ x38 : Int, ∃ x39 : Int, ∃ x40 : Int, ldA H31 (p36.add (Int.toNat s30 * 3)) (c52 x38 x39 x40) ∧ (0 ≤ s30 ∧ s30 < (a3.n : Int) ∧ someA a3.a (fun p44 => ∃ x46 : Int, ∃ x47 : Int, ∃ x48 : Int, ldA H31 (p44.add (Int.toNat s30 * 3)) (c52 x46 x47 x48) ∧ (if (!((x38 == x46) && ((x39 == x47) && (x40 == x48)))) = true then (Q false H31) else (rec33 ((IntKind.wrap .i64 (s30 + 1))) H31)))))) else (0 ≤ (a2_3.n : Int) ∧ (a2_3.n : Int) < (a0.n : Int) ∧ someA a0.a (fun p53 => ∃ x55 : Int, ∃ x56 : Int, ∃ x57 : Int, ∃ x58 : Int, ldA H31 (p53.add (Int.toNat (a2_3.n : Int) * 4)) (c23 x55 x56 x57 x58) ∧ (if ((x55 == 77) && ((x56 == 9) && ((x57 == 0) && (x58 == 0)))) = true then (0 ≤ (a3.n : Int) ∧ (a3.n : Int) < (a1.n : Int) ∧ someA a1.a (fun p62 => ∃ x64 : Int, ∃ x65 : Int, ∃ x66 : Int, ldA H31 (p62.add (Int.toNat (a3.n : Int) * 3)) (c52 x64 x65 x66) ∧ (Q ((x64 == (-7)) && ((x65 == 0) && (x66 == 0))) H31))) else (Q false H31))))) k28 (0) H6)) k3 (0) H2)
set_option maxRecDepth 20000 in
set_option maxHeartbeats 4000000 in
theorem mosaiclaw14_stays.calls (a0 : Sl) (a1 : Sl) (a2_0 : Int) (a2_1 : Int) (a2_2 : Int) (a2_3 : Sl) (a3 : Sl) (w0 : World) (Q : Bool → Hp → Prop) (h : mosaiclaw14_stays.s a0 a1 a2_0 a2_1 a2_2 a2_3 a3 w0.heap Q) :
    Ca Try.prog 24 #[.slice a0.a a0.n a0.c, .slice a1.a a1.n a1.c, .agg (c26 a2_0 a2_1 a2_2 a2_3).toArray, .slice a3.a a3.n a3.c] w0 (Rt mosaiclaw14_stays.enc Q w0) := by
  refine ca_start (c := _) Try.func24 rfl Try.ntmps24 rfl ?_
  have so : Sm w0 w0 := Sm.refl w0
  unfold mosaiclaw14_stays.s at h
  refine wc_prune [(0, .slice a0.a a0.n a0.c), (1, .slice a1.a a1.n a1.c), (2, .agg (c26 a2_0 a2_1 a2_2 a2_3).toArray), (3, .slice a3.a a3.n a3.c)] ⟨rfl, rfl, rfl, rfl, trivial⟩ (fun f1 => ?_)
  refine wc_seq ?_
  refine wc_region ?_
  refine wl_newT (T := 26) (cs := (c26 a2_0 a2_1 a2_2 a2_3)) (ef_box rfl rfl) rfl so ?_; intro b1 w2 hb_b1 t_b1 k_b1 so
  have g_b1 := Nat.le_of_eq hb_b1.symm
  have hc := k_b1.ch (F := [])
  refine wl_val (at_assign rfl) rfl ?_
  refine wl_nil ?_
  refine wk_prune [(0, .slice a0.a a0.n a0.c), (1, .slice a1.a a1.n a1.c), (3, .slice a3.a a3.n a3.c), (6, .pointer (some (⟨b1, 0, none⟩ : Addr)))] ⟨rfl, rfl, rfl, rfl, trivial⟩ (fun f1 => ?_)
  refine wk_then ?_
  refine wc_seq ?_
  refine wc_seq ?_
  refine wc_region ?_
  refine wl_val (at_assign rfl) rfl ?_
  refine wl_nil ?_
  refine wk_prune [(0, .slice a0.a a0.n a0.c), (1, .slice a1.a a1.n a1.c), (3, .slice a3.a a3.n a3.c), (6, .pointer (some (⟨b1, 0, none⟩ : Addr))), (9, .int .i64 0)] ⟨rfl, rfl, rfl, rfl, rfl, trivial⟩ (fun f1 => ?_)
  refine wk_then ?_
  refine wc_block ?_
  replace h := h b1 _ hc g_b1 t_b1.lt; clear hc
  obtain ⟨k3, h⟩ := h
  refine wc_loop (fun k a w => ∃ (s5 : Int) (f1 : Nat → Value), a = ac 60 (en f1 [(0, .slice a0.a a0.n a0.c), (1, .slice a1.a a1.n a1.c), (3, .slice a3.a a3.n a3.c), (6, .pointer (some (⟨b1, 0, none⟩ : Addr))), (9, .int .i64 s5)]) [] ∧ Sm w0 w ∧ (Bk w.heap b1 26 (c26 a2_0 a2_1 a2_2 a2_3) ∧ True) ∧ Fix _ k s5 w.heap) k3 ⟨(0), _, ac_again ⟨rfl, rfl, rfl, rfl, rfl, trivial⟩, so, ⟨t_b1, trivial⟩, h⟩ ?_
  rintro k4 a7 w6 ⟨s5, f1, rfl, so, ⟨t_b1, _⟩, h⟩
  rcases k4 with _ | k4
  · exact h.elim
  replace h := Fix.un h; refine wc_in ?_
  refine wc_seq ?_
  refine wc_seq ?_
  refine wc_region ?_
  refine wl_val (at_move rfl) rfl ?_
  refine wl_val (at_fieldAddr Try.underlying26 rfl rfl sz24 (by decide) rfl) rfl ?_
  refine wl_val (at_load (v := .slice a2_3.a a2_3.n a2_3.c) Try.underlying24 rfl rfl ((t_b1.cell 3).trans (by first | rfl | simp [List.getElem?_append, ints_len, bools_len]))) rfl ?_
  refine wl_val (at_lenL Try.underlying24 rfl) rfl ?_
  refine wl_val (at_lss rfl rfl) rfl ?_
  refine wl_nil ?_
  refine wk_prune [(0, .slice a0.a a0.n a0.c), (1, .slice a1.a a1.n a1.c), (3, .slice a3.a a3.n a3.c), (6, .pointer (some (⟨b1, 0, none⟩ : Addr))), (9, .int .i64 s5), (15, .bool (decide (s5 < (a2_3.n : Int))))] ⟨rfl, rfl, rfl, rfl, rfl, rfl, trivial⟩ (fun f1 => ?_)
  refine wk_then ?_
  refine wc_cond rfl h (fun h => ?_) (fun h => ?_)
  · refine wc_skip ?_
    refine wk_prune [(0, .slice a0.a a0.n a0.c), (1, .slice a1.a a1.n a1.c), (3, .slice a3.a a3.n a3.c), (6, .pointer (some (⟨b1, 0, none⟩ : Addr))), (9, .int .i64 s5)] ⟨rfl, rfl, rfl, rfl, rfl, trivial⟩ (fun f1 => ?_)
    refine wk_then ?_
    refine wc_seq ?_
    refine wc_block ?_
    refine wc_seq ?_
    refine wc_draw mixed (by kernel_rfl) so ?_
    refine wq_val (at_move rfl) rfl ?_
    refine wq_val (at_move rfl) rfl ?_
    obtain ⟨q9, q10, p11, q12, h⟩ := h
    refine wq_val (at_ixAddrL Try.underlying24 sz23 (sl_some q12) rfl q9 q10) rfl ?_
    obtain ⟨x13, x14, x15, x16, q17, h⟩ := h
    refine wq_val (at_loadA (cs := (c23 x13 x14 x15 x16)) Try.underlying23 rfl (by rw [len23]; exact sz23) rfl q17) rfl ?_
    refine wq_val (at_fieldAddr Try.underlying26 rfl rfl sz24 (by decide) rfl) rfl ?_
    refine wq_val (at_load (v := .slice a2_3.a a2_3.n a2_3.c) Try.underlying24 rfl rfl ((t_b1.cell 3).trans (by first | rfl | simp [List.getElem?_append, ints_len, bools_len]))) rfl ?_
    refine wq_val (at_move rfl) rfl ?_
    obtain ⟨q18, q19, p20, q21, h⟩ := h
    refine wq_val (at_ixAddrL Try.underlying24 sz23 (sl_some q21) rfl q18 q19) rfl ?_
    obtain ⟨x22, x23, x24, x25, q26, h⟩ := h
    refine wq_val (at_loadA (cs := (c23 x22 x23 x24 x25)) Try.underlying23 rfl (by rw [len23]; exact sz23) rfl q26) rfl ?_
    refine wq_val (at_neqA (xs := (c23 x13 x14 x15 x16)) (ys := (c23 x22 x23 x24 x25)) rfl rfl (by kernel_rfl) (eqv_struct Try.underlying23 (by kernel_rfl) (eqf_cons rfl (pt_one (v := .int .u8 x13) Try.underlying5 rfl rfl) (pt_one (v := .int .u8 x22) Try.underlying5 rfl rfl) (eqv_int Try.underlying5) (eqf_cons rfl (pt_one (v := .int .u8 x14) Try.underlying5 rfl rfl) (pt_one (v := .int .u8 x23) Try.underlying5 rfl rfl) (eqv_int Try.underlying5) (eqf_cons rfl (pt_one (v := .int .u8 x15) Try.underlying5 rfl rfl) (pt_one (v := .int .u8 x24) Try.underlying5 rfl rfl) (eqv_int Try.underlying5) (eqf_last rfl (pt_one (v := .int .u8 x16) Try.underlying5 rfl rfl) (pt_one (v := .int .u8 x25) Try.underlying5 rfl rfl) (eqv_int Try.underlying5))))))) rfl ?_
    refine wq_nil ?_; intro w27 hw so; rw [← hw] at h t_b1; clear hw
    refine wk_prune [(0, .slice a0.a a0.n a0.c), (1, .slice a1.a a1.n a1.c), (3, .slice a3.a a3.n a3.c), (6, .pointer (some (⟨b1, 0, none⟩ : Addr))), (9, .int .i64 s5), (27, .bool (!((x13 == x22) && ((x14 == x23) && ((x15 == x24) && (x16 == x25))))))] ⟨rfl, rfl, rfl, rfl, rfl, rfl, trivial⟩ (fun f1 => ?_)
    refine wk_then ?_
    refine wc_cond rfl h (fun h => ?_) (fun h => ?_)
    · refine wc_seq ?_
      refine wc_region ?_
      refine wl_val (at_assign rfl) rfl ?_
      refine wl_nil ?_
      refine wk_prune [(8, .bool false)] ⟨rfl, trivial⟩ (fun f1 => ?_)
      refine wk_then ?_
      refine wc_ret ?_
      refine wk_blkR ?_
      refine wk_thenR ?_
      refine wk_thenR ?_
      refine wk_blkR ?_
      refine wk_thenR ?_
      exact wk_ret1 (x := false) rfl (by decide) rfl so h
    · refine wc_skip ?_
      refine wk_blkN ?_
      refine wk_prune [(0, .slice a0.a a0.n a0.c), (1, .slice a1.a a1.n a1.c), (3, .slice a3.a a3.n a3.c), (6, .pointer (some (⟨b1, 0, none⟩ : Addr))), (9, .int .i64 s5)] ⟨rfl, rfl, rfl, rfl, rfl, trivial⟩ (fun f1 => ?_)
      refine wk_then ?_
      refine wc_region ?_
      refine wl_val (at_move rfl) rfl ?_
      refine wl_val (at_add rfl rfl) rfl ?_
      refine wl_val (at_assign rfl) rfl ?_
      refine wl_nil ?_
      exact wk_again ⟨((IntKind.wrap .i64 (s5 + 1))), _, ac_again ⟨rfl, rfl, rfl, rfl, rfl, trivial⟩, so, ⟨t_b1, trivial⟩, h⟩
  · refine wc_exit ?_
    refine wk_thenE ?_
    refine wk_thenE ?_
    refine wk_blkE ?_
    refine wk_prune [(0, .slice a0.a a0.n a0.c), (1, .slice a1.a a1.n a1.c), (3, .slice a3.a a3.n a3.c), (6, .pointer (some (⟨b1, 0, none⟩ : Addr)))] ⟨rfl, rfl, rfl, rfl, trivial⟩ (fun f1 => ?_)
    refine wk_then ?_
    refine wc_seq ?_
    refine wc_seq ?_
    refine wc_region ?_
    refine wl_val (at_assign rfl) rfl ?_
    refine wl_nil ?_
    refine wk_prune [(0, .slice a0.a a0.n a0.c), (1, .slice a1.a a1.n a1.c), (3, .slice a3.a a3.n a3.c), (6, .pointer (some (⟨b1, 0, none⟩ : Addr))), (10, .int .i64 0)] ⟨rfl, rfl, rfl, rfl, rfl, trivial⟩ (fun f1 => ?_)
    refine wk_then ?_
    refine wc_block ?_
    obtain ⟨k28, h⟩ := h
    refine wc_loop (fun k a w => ∃ (s30 : Int) (f1 : Nat → Value), a = ac 60 (en f1 [(0, .slice a0.a a0.n a0.c), (1, .slice a1.a a1.n a1.c), (3, .slice a3.a a3.n a3.c), (6, .pointer (some (⟨b1, 0, none⟩ : Addr))), (10, .int .i64 s30)]) [] ∧ Sm w0 w ∧ (Bk w.heap b1 26 (c26 a2_0 a2_1 a2_2 a2_3) ∧ True) ∧ Fix _ k s30 w.heap) k28 ⟨(0), _, ac_again ⟨rfl, rfl, rfl, rfl, rfl, trivial⟩, so, ⟨t_b1, trivial⟩, h⟩ ?_
    rintro k29 a32 w31 ⟨s30, f1, rfl, so, ⟨t_b1, _⟩, h⟩
    rcases k29 with _ | k29
    · exact h.elim
    replace h := Fix.un h; refine wc_in ?_
    refine wc_seq ?_
    refine wc_seq ?_
    refine wc_region ?_
    refine wl_val (at_move rfl) rfl ?_
    refine wl_val (at_move rfl) rfl ?_
    refine wl_val (at_lenL Try.underlying32 rfl) rfl ?_
    refine wl_val (at_lss rfl rfl) rfl ?_
    refine wl_nil ?_
    refine wk_prune [(0, .slice a0.a a0.n a0.c), (1, .slice a1.a a1.n a1.c), (3, .slice a3.a a3.n a3.c), (6, .pointer (some (⟨b1, 0, none⟩ : Addr))), (10, .int .i64 s30), (31, .bool (decide (s30 < (a3.n : Int))))] ⟨rfl, rfl, rfl, rfl, rfl, rfl, trivial⟩ (fun f1 => ?_)
    refine wk_then ?_
    refine wc_cond rfl h (fun h => ?_) (fun h => ?_)
    · refine wc_skip ?_
      refine wk_prune [(0, .slice a0.a a0.n a0.c), (1, .slice a1.a a1.n a1.c), (3, .slice a3.a a3.n a3.c), (6, .pointer (some (⟨b1, 0, none⟩ : Addr))), (10, .int .i64 s30)] ⟨rfl, rfl, rfl, rfl, rfl, trivial⟩ (fun f1 => ?_)
      refine wk_then ?_
      refine wc_seq ?_
      refine wc_block ?_
      refine wc_seq ?_
      refine wc_draw mixed (by kernel_rfl) so ?_
      refine wq_val (at_move rfl) rfl ?_
      refine wq_val (at_move rfl) rfl ?_
      obtain ⟨q34, q35, p36, q37, h⟩ := h
      refine wq_val (at_ixAddrL Try.underlying32 sz52 (sl_some q37) rfl q34 q35) rfl ?_
      obtain ⟨x38, x39, x40, q41, h⟩ := h
      refine wq_val (at_loadA (cs := (c52 x38 x39 x40)) Try.underlying52 rfl (by rw [len52]; exact sz52) rfl q41) rfl ?_
      refine wq_val (at_move rfl) rfl ?_
      refine wq_val (at_move rfl) rfl ?_
      obtain ⟨q42, q43, p44, q45, h⟩ := h
      refine wq_val (at_ixAddrL Try.underlying32 sz52 (sl_some q45) rfl q42 q43) rfl ?_
      obtain ⟨x46, x47, x48, q49, h⟩ := h
      refine wq_val (at_loadA (cs := (c52 x46 x47 x48)) Try.underlying52 rfl (by rw [len52]; exact sz52) rfl q49) rfl ?_
      refine wq_val (at_neqA (xs := (c52 x38 x39 x40)) (ys := (c52 x46 x47 x48)) rfl rfl (by kernel_rfl) (eqv_struct Try.underlying52 (by kernel_rfl) (eqf_cons rfl (pt_one (v := .int .i64 x38) Try.underlying3 rfl rfl) (pt_one (v := .int .i64 x46) Try.underlying3 rfl rfl) (eqv_int Try.underlying3) (eqf_cons rfl (pt_one (v := .int .u8 x39) Try.underlying5 rfl rfl) (pt_one (v := .int .u8 x47) Try.underlying5 rfl rfl) (eqv_int Try.underlying5) (eqf_last rfl (pt_one (v := .int .u8 x40) Try.underlying5 rfl rfl) (pt_one (v := .int .u8 x48) Try.underlying5 rfl rfl) (eqv_int Try.underlying5)))))) rfl ?_
      refine wq_nil ?_; intro w50 hw so; rw [← hw] at h t_b1; clear hw
      refine wk_prune [(0, .slice a0.a a0.n a0.c), (1, .slice a1.a a1.n a1.c), (3, .slice a3.a a3.n a3.c), (6, .pointer (some (⟨b1, 0, none⟩ : Addr))), (10, .int .i64 s30), (42, .bool (!((x38 == x46) && ((x39 == x47) && (x40 == x48)))))] ⟨rfl, rfl, rfl, rfl, rfl, rfl, trivial⟩ (fun f1 => ?_)
      refine wk_then ?_
      refine wc_cond rfl h (fun h => ?_) (fun h => ?_)
      · refine wc_seq ?_
        refine wc_region ?_
        refine wl_val (at_assign rfl) rfl ?_
        refine wl_nil ?_
        refine wk_prune [(8, .bool false)] ⟨rfl, trivial⟩ (fun f1 => ?_)
        refine wk_then ?_
        refine wc_ret ?_
        refine wk_blkR ?_
        refine wk_thenR ?_
        refine wk_thenR ?_
        refine wk_blkR ?_
        refine wk_thenR ?_
        exact wk_ret1 (x := false) rfl (by decide) rfl so h
      · refine wc_skip ?_
        refine wk_blkN ?_
        refine wk_prune [(0, .slice a0.a a0.n a0.c), (1, .slice a1.a a1.n a1.c), (3, .slice a3.a a3.n a3.c), (6, .pointer (some (⟨b1, 0, none⟩ : Addr))), (10, .int .i64 s30)] ⟨rfl, rfl, rfl, rfl, rfl, trivial⟩ (fun f1 => ?_)
        refine wk_then ?_
        refine wc_region ?_
        refine wl_val (at_move rfl) rfl ?_
        refine wl_val (at_add rfl rfl) rfl ?_
        refine wl_val (at_assign rfl) rfl ?_
        refine wl_nil ?_
        exact wk_again ⟨((IntKind.wrap .i64 (s30 + 1))), _, ac_again ⟨rfl, rfl, rfl, rfl, rfl, trivial⟩, so, ⟨t_b1, trivial⟩, h⟩
    · refine wc_exit ?_
      refine wk_thenE ?_
      refine wk_thenE ?_
      refine wk_blkE ?_
      refine wk_prune [(0, .slice a0.a a0.n a0.c), (1, .slice a1.a a1.n a1.c), (3, .slice a3.a a3.n a3.c), (6, .pointer (some (⟨b1, 0, none⟩ : Addr)))] ⟨rfl, rfl, rfl, rfl, trivial⟩ (fun f1 => ?_)
      refine wk_then ?_
      refine wc_seq ?_
      refine wc_region ?_
      refine wl_val (at_move rfl) rfl ?_
      refine wl_val (at_fieldAddr Try.underlying26 rfl rfl sz24 (by decide) rfl) rfl ?_
      refine wl_val (at_load (v := .slice a2_3.a a2_3.n a2_3.c) Try.underlying24 rfl rfl ((t_b1.cell 3).trans (by first | rfl | simp [List.getElem?_append, ints_len, bools_len]))) rfl ?_
      refine wl_val (at_lenL Try.underlying24 rfl) rfl ?_
      obtain ⟨q51, q52, p53, q54, h⟩ := h
      refine wl_val (at_ixAddrL Try.underlying24 sz23 (sl_some q54) rfl q51 q52) rfl ?_
      obtain ⟨x55, x56, x57, x58, q59, h⟩ := h
      refine wl_val (at_loadA (cs := (c23 x55 x56 x57 x58)) Try.underlying23 rfl (by rw [len23]; exact sz23) rfl q59) rfl ?_
      refine wl_val (at_build (cs := (c23 77 9 0 0)) (ps := [(0, .int .u8 77), (1, .int .u8 9)]) rfl (fun w => by simp [Instr.build, Instr.fill, go_sem, Try.underlying23, z23])) rfl ?_
      refine wl_val (at_eqlA (xs := (c23 x55 x56 x57 x58)) (ys := (c23 77 9 0 0)) rfl rfl (by kernel_rfl) (eqv_struct Try.underlying23 (by kernel_rfl) (eqf_cons rfl (pt_one (v := .int .u8 x55) Try.underlying5 rfl rfl) (pt_one (v := .int .u8 77) Try.underlying5 rfl rfl) (eqv_int Try.underlying5) (eqf_cons rfl (pt_one (v := .int .u8 x56) Try.underlying5 rfl rfl) (pt_one (v := .int .u8 9) Try.underlying5 rfl rfl) (eqv_int Try.underlying5) (eqf_cons rfl (pt_one (v := .int .u8 x57) Try.underlying5 rfl rfl) (pt_one (v := .int .u8 0) Try.underlying5 rfl rfl) (eqv_int Try.underlying5) (eqf_last rfl (pt_one (v := .int .u8 x58) Try.underlying5 rfl rfl) (pt_one (v := .int .u8 0) Try.underlying5 rfl rfl) (eqv_int Try.underlying5))))))) rfl ?_
      refine wl_val (at_move rfl) rfl ?_
      refine bif_ h (fun hb h => ?_) (fun hb h => ?_)
      · refine wl_set (t := 51) (v := .bool true) (congrArg Value.bool hb) ?_; clear hb
        refine wl_on (t := 51) rfl (by decide) rfl ?_
        refine wl_val (at_move rfl) rfl ?_
        refine wl_on (t := 51) rfl (by decide) rfl ?_
        refine wl_val (at_move rfl) rfl ?_
        refine wl_on (t := 51) rfl (by decide) rfl ?_
        refine wl_val (at_lenL Try.underlying32 rfl) rfl ?_
        refine wl_on (t := 51) rfl (by decide) rfl ?_
        obtain ⟨q60, q61, p62, q63, h⟩ := h
        refine wl_val (at_ixAddrL Try.underlying32 sz52 (sl_some q63) rfl q60 q61) rfl ?_
        refine wl_on (t := 51) rfl (by decide) rfl ?_
        obtain ⟨x64, x65, x66, q67, h⟩ := h
        refine wl_val (at_loadA (cs := (c52 x64 x65 x66)) Try.underlying52 rfl (by rw [len52]; exact sz52) rfl q67) rfl ?_
        refine wl_on (t := 51) rfl (by decide) rfl ?_
        refine wl_val (at_build (cs := (c52 (-7) 0 0)) (ps := [(0, .int .i64 (-7))]) rfl (fun w => by simp [Instr.build, Instr.fill, go_sem, Try.underlying52, z52])) rfl ?_
        refine wl_on (t := 51) rfl (by decide) rfl ?_
        refine wl_val (at_eqlA (xs := (c52 x64 x65 x66)) (ys := (c52 (-7) 0 0)) rfl rfl (by kernel_rfl) (eqv_struct Try.underlying52 (by kernel_rfl) (eqf_cons rfl (pt_one (v := .int .i64 x64) Try.underlying3 rfl rfl) (pt_one (v := .int .i64 (-7)) Try.underlying3 rfl rfl) (eqv_int Try.underlying3) (eqf_cons rfl (pt_one (v := .int .u8 x65) Try.underlying5 rfl rfl) (pt_one (v := .int .u8 0) Try.underlying5 rfl rfl) (eqv_int Try.underlying5) (eqf_last rfl (pt_one (v := .int .u8 x66) Try.underlying5 rfl rfl) (pt_one (v := .int .u8 0) Try.underlying5 rfl rfl) (eqv_int Try.underlying5)))))) rfl ?_
        refine wl_val (at_pick_t rfl rfl) rfl ?_
        refine wl_val (at_assign rfl) rfl ?_
        refine wl_nil ?_
        refine wk_prune [(8, .bool ((x64 == (-7)) && ((x65 == 0) && (x66 == 0))))] ⟨rfl, trivial⟩ (fun f1 => ?_)
        refine wk_then ?_
        refine wc_ret ?_
        exact wk_ret1 (x := ((x64 == (-7)) && ((x65 == 0) && (x66 == 0)))) rfl (by decide) rfl so h
      · refine wl_set (t := 51) (v := .bool false) (congrArg Value.bool hb) ?_; clear hb
        refine wl_off (t := 51) rfl (by decide) rfl ?_
        refine wl_off (t := 51) rfl (by decide) rfl ?_
        refine wl_off (t := 51) rfl (by decide) rfl ?_
        refine wl_off (t := 51) rfl (by decide) rfl ?_
        refine wl_off (t := 51) rfl (by decide) rfl ?_
        refine wl_off (t := 51) rfl (by decide) rfl ?_
        refine wl_off (t := 51) rfl (by decide) rfl ?_
        refine wl_val (at_pick_f rfl rfl) rfl ?_
        refine wl_val (at_assign rfl) rfl ?_
        refine wl_nil ?_
        refine wk_prune [(8, .bool false)] ⟨rfl, trivial⟩ (fun f1 => ?_)
        refine wk_then ?_
        refine wc_ret ?_
        exact wk_ret1 (x := false) rfl (by decide) rfl so h

/-- mosaic/mosaiclaw14.large -/
def mosaiclaw14_large.enc : Bool → Value := fun r => .bool r
def mosaiclaw14_large.s (a0_0 : Int) (a0_1 : Int) (a0_2 : Int) (a0_3 : Sl) (a1 : Sl) (H0 : Hp) (Q : Bool → Hp → Prop) : Prop :=
  Gn [] H0 (fun (b1 : Nat) (H2 : Hp) => mosaicref14_Units.s a0_0 a0_1 a0_2 a0_3 a1 H2 (fun x3 H4 => Q (decide ((3000 : Int) < (IntKind.wrap .i64 (x3.1 * x3.2)))) H4))
set_option maxRecDepth 20000 in
set_option maxHeartbeats 4000000 in
theorem mosaiclaw14_large.calls (a0_0 : Int) (a0_1 : Int) (a0_2 : Int) (a0_3 : Sl) (a1 : Sl) (w0 : World) (Q : Bool → Hp → Prop) (h : mosaiclaw14_large.s a0_0 a0_1 a0_2 a0_3 a1 w0.heap Q) :
    Ca Try.prog 25 #[.agg (c26 a0_0 a0_1 a0_2 a0_3).toArray, .slice a1.a a1.n a1.c] w0 (Rt mosaiclaw14_large.enc Q w0) := by
  refine ca_start (c := _) Try.func25 rfl Try.ntmps25 rfl ?_
  have so : Sm w0 w0 := Sm.refl w0
  unfold mosaiclaw14_large.s at h
  refine wc_prune [(0, .agg (c26 a0_0 a0_1 a0_2 a0_3).toArray), (1, .slice a1.a a1.n a1.c)] ⟨rfl, rfl, trivial⟩ (fun f1 => ?_)
  refine wc_seq ?_
  refine wc_region ?_
  refine wl_newT (T := 26) (cs := (c26 a0_0 a0_1 a0_2 a0_3)) (ef_box rfl rfl) rfl so ?_; intro b1 w2 hb_b1 t_b1 k_b1 so
  have g_b1 := Nat.le_of_eq hb_b1.symm
  have hc := k_b1.ch (F := [])
  refine wl_val (at_assign rfl) rfl ?_
  refine wl_nil ?_
  refine wk_prune [(1, .slice a1.a a1.n a1.c), (2, .pointer (some (⟨b1, 0, none⟩ : Addr)))] ⟨rfl, rfl, trivial⟩ (fun f1 => ?_)
  refine wk_then ?_
  refine wc_seq ?_
  refine wc_region ?_
  refine wl_val (at_loadA (cs := (c26 a0_0 a0_1 a0_2 a0_3)) Try.underlying26 rfl (by rw [len26]; exact sz26) rfl (ldA_full t_b1)) rfl ?_
  refine wl_val (at_move rfl) rfl ?_
  replace h := h b1 _ hc g_b1 t_b1.lt; clear hc
  refine wl_callF (mosaicref14_Units.calls _ _ _ _ _ _ _ h) enter21 rfl trivial so ?_; intro x3 w4 h so
  refine wl_val (at_move rfl) rfl ?_
  refine wl_val (at_extract rfl rfl) rfl ?_
  refine wl_val (at_extract rfl rfl) rfl ?_
  refine wl_val (at_assign rfl) rfl ?_
  refine wl_val (at_assign rfl) rfl ?_
  refine wl_nil ?_
  refine wk_prune [(5, .int .i64 x3.1), (6, .int .i64 x3.2)] ⟨rfl, rfl, trivial⟩ (fun f1 => ?_)
  refine wk_then ?_
  refine wc_seq ?_
  refine wc_region ?_
  refine wl_val (at_move rfl) rfl ?_
  refine wl_val (at_move rfl) rfl ?_
  refine wl_val (at_mul rfl rfl) rfl ?_
  refine wl_val (at_gtr rfl rfl) rfl ?_
  refine wl_val (at_assign rfl) rfl ?_
  refine wl_nil ?_
  refine wk_prune [(4, .bool (decide ((3000 : Int) < (IntKind.wrap .i64 (x3.1 * x3.2)))))] ⟨rfl, trivial⟩ (fun f1 => ?_)
  refine wk_then ?_
  refine wc_ret ?_
  exact wk_ret1 (x := (decide ((3000 : Int) < (IntKind.wrap .i64 (x3.1 * x3.2))))) rfl (by decide) rfl so h

/-- mosaic/mosaiclaw14.shared -/
def mosaiclaw14_shared.enc : Int × Int × Int × Sl → Value := fun r => .agg (c26 r.1 r.2.1 r.2.2.1 r.2.2.2).toArray
def mosaiclaw14_shared.s (H0 : Hp) (Q : (Int × Int × Int × Sl) → Hp → Prop) : Prop :=
  Gn [] H0 (fun (b1 : Nat) (H2 : Hp) => nw H2 23 ((c23 1 2 2 0) ++ (c23 2 1 1 0) ++ (c23 3 1 1 0)) (fun p3 H4 => Pv [b1] H2 H4 ∧ (Gr [b1] H4 (fun (H8 : Hp) => Q (0, 17, 9, ⟨(some p3), 3, 3⟩) H8))))
set_option maxRecDepth 20000 in
set_option maxHeartbeats 4000000 in
theorem mosaiclaw14_shared.calls (w0 : World) (Q : (Int × Int × Int × Sl) → Hp → Prop) (h : mosaiclaw14_shared.s w0.heap Q) :
    Ca Try.prog 38 #[] w0 (Rt mosaiclaw14_shared.enc Q w0) := by
  refine ca_start (c := _) Try.func38 rfl Try.ntmps38 rfl ?_
  have so : Sm w0 w0 := Sm.refl w0
  unfold mosaiclaw14_shared.s at h
  refine wc_prune [] trivial (fun f1 => ?_)
  refine wc_seq ?_
  refine wc_region ?_
  refine wl_newT (T := 26) (cs := (c26 0 0 0 ⟨none, 0, 0⟩)) (ef_alloc zero26 rfl) rfl so ?_; intro b1 w2 hb_b1 t_b1 k_b1 so
  have g_b1 := Nat.le_of_eq hb_b1.symm
  have hc := k_b1.ch (F := [])
  refine wl_nil ?_
  refine wk_prune [(0, .pointer (some (⟨b1, 0, none⟩ : Addr)))] ⟨rfl, trivial⟩ (fun f1 => ?_)
  refine wk_then ?_
  refine wc_seq ?_
  refine wc_region ?_
  refine wl_val (at_build (cs := (c23 1 2 2 0)) (ps := [(0, .int .u8 1), (1, .int .u8 2), (2, .int .u8 2)]) rfl (fun w => by simp [Instr.build, Instr.fill, go_sem, Try.underlying23, z23])) rfl ?_
  refine wl_val (at_build (cs := (c23 2 1 1 0)) (ps := [(0, .int .u8 2), (1, .int .u8 1), (2, .int .u8 1)]) rfl (fun w => by simp [Instr.build, Instr.fill, go_sem, Try.underlying23, z23])) rfl ?_
  refine wl_val (at_build (cs := (c23 3 1 1 0)) (ps := [(0, .int .u8 3), (1, .int .u8 1), (2, .int .u8 1)]) rfl (fun w => by simp [Instr.build, Instr.fill, go_sem, Try.underlying23, z23])) rfl ?_
  obtain ⟨i6, i6a, i6b, i6c, i6d⟩ := info23
  replace h := h b1 _ hc g_b1 t_b1.lt; clear hc
  refine wl_newS (ef_buildSlice (cs := ((c23 1 2 2 0) ++ (c23 2 1 1 0) ++ (c23 3 1 1 0))) (ps := [(0, .agg (c23 1 2 2 0).toArray), (1, .agg (c23 2 1 1 0).toArray), (2, .agg (c23 3 1 1 0).toArray)]) Try.underlying24 i6a i6b rfl (by rw [i6c]; decide) (by rw [i6c]; exact fill_full (vs := [.agg (c23 1 2 2 0).toArray, .agg (c23 2 1 1 0).toArray, .agg (c23 3 1 1 0).toArray]) rfl (by simp [Value.cells]) (by simp [Value.cells, len23]) rfl (by simp))) rfl so (ones_app (ones_app (one23 _ _ _ _) (one23 _ _ _ _)) (one23 _ _ _ _)) h ?_; intro p3 w4 h r5 so
  obtain ⟨q7, h⟩ := h
  replace t_b1 := pv_bk q7 t_b1 (by simp)
  refine wl_val (at_build (cs := (c26 0 17 9 ⟨(some p3), 3, 3⟩)) (ps := [(1, .int .i64 17), (2, .int .i64 9), (3, .slice (some p3) 3 3)]) rfl (fun w => by simp [Instr.build, Instr.fill, go_sem, Try.underlying26, z26])) rfl ?_
  refine wl_stWT (vs := (c26 0 17 9 ⟨(some p3), 3, 3⟩)) t_b1 (by first | (rw [len26, len26]) | (rw [len26]) | rfl) rfl so (fun q => ef_storeA (p := (⟨b1, 0, none⟩ : Addr)) (cs := (c26 0 17 9 ⟨(some p3), 3, 3⟩)) (by rw [len26]; exact sz26) rfl rfl (one26 _ _ _ _) q) ?_; intro w8 t_b1 s_w8 so
  have hc := s_w8.ch
  refine wl_nil ?_
  refine wk_prune [(0, .pointer (some (⟨b1, 0, none⟩ : Addr)))] ⟨rfl, trivial⟩ (fun f1 => ?_)
  refine wk_then ?_
  refine wc_ret ?_
  replace h := h _ hc; clear hc
  exact wk_retR1 (x := (0, 17, 9, ⟨(some p3), 3, 3⟩)) rfl ⟨by decide, _, rfl, loadVar_agg (cs := (c26 0 17 9 ⟨(some p3), 3, 3⟩)) Try.underlying26 rfl (by rw [len26]; exact sz26) (ldA_full t_b1)⟩ rfl so h

/-- mosaic/mosaiclaw14.alive -/
def mosaiclaw14_alive.enc : Bool → Value := fun r => .bool r
def mosaiclaw14_alive.s (H0 : Hp) (Q : Bool → Hp → Prop) : Prop :=
  mosaiclaw14_shared.s H0 (fun x1 H2 => Gn [] H2 (fun (b3 : Nat) (H5 : Hp) => nw H5 52 ((c52 0 0 0) ++ (c52 1 0 0) ++ (c52 2 0 0)) (fun p6 H7 => Pv [b3] H5 H7 ∧ (Gn [] H7 (fun (b11 : Nat) (H13 : Hp) => Gn [] H13 (fun (b14 : Nat) (H16 : Hp) => geom_Walk.s x1.1 x1.2.1 x1.2.2.1 x1.2.2.2 ⟨(some p6), 3, 3⟩ 1 1 H16 (fun x17 H18 => Pv [b3, b11, b14] H16 H18 ∧ (Bk H18 b3 26 (c26 x1.1 x1.2.1 x1.2.2.1 x1.2.2.2) → (Bk H18 b11 3 [.int .i64 0] → (Bk H18 b14 3 [.int .i64 0] → (Rg H18 (fun r20 D28 H23 => geom_Walk_1.s (.func (.yield (D28 + 1)) #[] #[]) (fun (x24 : Int × Int × Int × Int × Bool) (H26 : Hp) (K25 : Bool → Hp → Prop) => Lp H26 (D28 + 1) r20 ∧ (Gn [] H26 (fun (b29 : Nat) (H31 : Hp) => Lp H31 (D28 + 1) r20 ∧ Up (putL H31 (D28 + 1) (bsy r20)) (fun H32 => Pv [b29] H31 H32 ∧ (ldI .i64 H32 (⟨b11, 0, none⟩ : Addr) (fun x34 => st H32 (⟨b11, 0, none⟩ : Addr) (.int .i64 (IntKind.wrap .i64 (x34 + 1))) (fun H36 => Pv [b29] H32 H36 ∧ (if x24.2.2.2.2 = true then (ldI .i64 H36 (⟨b14, 0, none⟩ : Addr) (fun x38 => st H36 (⟨b14, 0, none⟩ : Addr) (.int .i64 (IntKind.wrap .i64 (x38 + 1))) (fun H40 => Lp H40 (D28 + 1) (bsy r20) ∧ K25 true (putL H40 (D28 + 1) r20)))) else (Lp H36 (D28 + 1) (bsy r20) ∧ K25 true (putL H36 (D28 + 1) r20)))))))))) x17.1 x17.2.1 x17.2.2.1 x17.2.2.2.1 x17.2.2.2.2 H23 (fun _ H27 => Lp H27 (D28 + 1) r20 ∧ Up (putL H27 (D28 + 1) (exh r20)) (fun H42 => ∃ x43 : Int, ∃ x44 : Int, ∃ x45 : Int, ∃ x46 : Sl, ldA H42 (⟨b3, 0, none⟩ : Addr) (c26 x43 x44 x45 x46) ∧ (geom_Units.s x43 x44 x45 x46 ⟨(some p6), 3, 3⟩ H42 (fun x48 H49 => ldI .i64 H49 (⟨b11, 0, none⟩ : Addr) (fun x50 => if (x50 == 6) = true then (ldI .i64 H49 (⟨b14, 0, none⟩ : Addr) (fun x52 => if (x52 == 4) = true then (if (x48.1 == 2) = true then (if (x48.2 == 1) = true then (∃ x54 : Int, ∃ x55 : Int, ∃ x56 : Int, ∃ x57 : Sl, ldA H49 (⟨b3, 0, none⟩ : Addr) (c26 x54 x55 x56 x57) ∧ (geom_Check.s x54 x55 x56 x57 H49 (fun x59 H60 => tkD (D28 :: []) H60 (fun H61 => Q (x59 == 0) H61)))) else (tkD (D28 :: []) H49 (fun H62 => Q false H62))) else (tkD (D28 :: []) H49 (fun H63 => Q false H63))) else (tkD (D28 :: []) H49 (fun H64 => Q false H64)))) else (tkD (D28 :: []) H49 (fun H65 => Q false H65)))))))))))))))))))
set_option maxRecDepth 20000 in
set_option maxHeartbeats 4000000 in
theorem mosaiclaw14_alive.calls (w0 : World) (Q : Bool → Hp → Prop) (h : mosaiclaw14_alive.s w0.heap Q) :
    Ca Try.prog 28 #[] w0 (Rt mosaiclaw14_alive.enc Q w0) := by
  refine ca_startM (c := _) Try.func28 rfl Try.ntmps28 rfl ?_
  have so : Sm w0 w0 := Sm.refl w0
  unfold mosaiclaw14_alive.s at h
  refine wc_prune [] trivial (fun f1 => ?_)
  refine wc_seq ?_
  refine wc_region ?_
  refine wl_val (at_assign rfl) rfl ?_
  refine wl_nil ?_
  refine wk_prune [] trivial (fun f1 => ?_)
  refine wk_then ?_
  refine wc_seq ?_
  refine wc_region ?_
  refine wl_callF (mosaiclaw14_shared.calls _ _ h) enter38 rfl trivial so ?_; intro x1 w2 h so
  refine wl_newT (T := 26) (cs := (c26 0 0 0 ⟨none, 0, 0⟩)) (ef_alloc zero26 rfl) rfl so ?_; intro b3 w4 hb_b3 t_b3 k_b3 so
  have g_b3 := Nat.le_of_eq hb_b3.symm
  have hc := k_b3.ch (F := [])
  refine wl_stWT (vs := (c26 x1.1 x1.2.1 x1.2.2.1 x1.2.2.2)) t_b3 (by first | (rw [len26, len26]) | (rw [len26]) | rfl) rfl so (fun q => ef_storeA (p := (⟨b3, 0, none⟩ : Addr)) (cs := (c26 x1.1 x1.2.1 x1.2.2.1 x1.2.2.2)) (by rw [len26]; exact sz26) rfl rfl (one26 _ _ _ _) q) ?_; intro w5 t_b3 s_w5 so
  replace hc := ch_same hc s_w5 (.inr g_b3)
  refine wl_nil ?_
  refine wk_prune [(1, .pointer (some (⟨b3, 0, none⟩ : Addr)))] ⟨rfl, trivial⟩ (fun f1 => ?_)
  refine wk_then ?_
  refine wc_seq ?_
  refine wc_region ?_
  refine wl_val (at_build (cs := (c52 0 0 0)) (ps := [(0, .int .i64 0)]) rfl (fun w => by simp [Instr.build, Instr.fill, go_sem, Try.underlying52, z52])) rfl ?_
  refine wl_val (at_build (cs := (c52 1 0 0)) (ps := [(0, .int .i64 1)]) rfl (fun w => by simp [Instr.build, Instr.fill, go_sem, Try.underlying52, z52])) rfl ?_
  refine wl_val (at_build (cs := (c52 2 0 0)) (ps := [(0, .int .i64 2)]) rfl (fun w => by simp [Instr.build, Instr.fill, go_sem, Try.underlying52, z52])) rfl ?_
  obtain ⟨i9, i9a, i9b, i9c, i9d⟩ := info52
  replace h := h b3 _ hc g_b3 t_b3.lt; clear hc
  refine wl_newS (ef_buildSlice (cs := ((c52 0 0 0) ++ (c52 1 0 0) ++ (c52 2 0 0))) (ps := [(0, .agg (c52 0 0 0).toArray), (1, .agg (c52 1 0 0).toArray), (2, .agg (c52 2 0 0).toArray)]) Try.underlying32 i9a i9b rfl (by rw [i9c]; decide) (by rw [i9c]; exact fill_full (vs := [.agg (c52 0 0 0).toArray, .agg (c52 1 0 0).toArray, .agg (c52 2 0 0).toArray]) rfl (by simp [Value.cells]) (by simp [Value.cells, len52]) rfl (by simp))) rfl so (ones_app (ones_app (one52 _ _ _) (one52 _ _ _)) (one52 _ _ _)) h ?_; intro p6 w7 h r8 so
  obtain ⟨q10, h⟩ := h
  replace t_b3 := pv_bk q10 t_b3 (by simp)
  refine wl_val (at_assign rfl) rfl ?_
  refine wl_nil ?_
  refine wk_prune [(1, .pointer (some (⟨b3, 0, none⟩ : Addr))), (2, .slice (some p6) 3 3)] ⟨rfl, rfl, trivial⟩ (fun f1 => ?_)
  refine wk_then ?_
  refine wc_seq ?_
  refine wc_region ?_
  refine wl_newT (T := 3) (cs := [.int .i64 0]) (ef_alloc zero3 rfl) rfl so ?_; intro b11 w12 hb_b11 t_b11 k_b11 so
  have g_b11 := Nat.le_of_eq hb_b11.symm
  have hc := k_b11.ch (F := [])
  have n_b3_b11 : b3 ≠ b11 := fun e => by have := t_b3.lt; omega
  replace t_b3 := t_b3.keep k_b11
  refine wl_stT (v := .int .i64 0) (cs' := [.int .i64 0]) t_b11 (by first | decide | simp [ints_len, bools_len]) (by first | rfl | simp [List.set_append, ints_len, bools_len]) rfl so (fun q1 q2 => ef_store (sz := sz3) rfl rfl rfl q1 q2) ?_; intro w13 t_b11 s_w13 so
  replace t_b3 := t_b3.same s_w13 (n_b3_b11)
  replace hc := ch_same hc s_w13 (.inr g_b11)
  refine wl_nil ?_
  refine wk_prune [(1, .pointer (some (⟨b3, 0, none⟩ : Addr))), (2, .slice (some p6) 3 3), (3, .pointer (some (⟨b11, 0, none⟩ : Addr)))] ⟨rfl, rfl, rfl, trivial⟩ (fun f1 => ?_)
  refine wk_then ?_
  refine wc_seq ?_
  refine wc_region ?_
  replace h := h b11 _ hc g_b11 t_b11.lt; clear hc
  refine wl_newT (T := 3) (cs := [.int .i64 0]) (ef_alloc zero3 rfl) rfl so ?_; intro b14 w15 hb_b14 t_b14 k_b14 so
  have g_b14 := Nat.le_of_eq hb_b14.symm
  have hc := k_b14.ch (F := [])
  have n_b3_b14 : b3 ≠ b14 := fun e => by have := t_b3.lt; omega
  replace t_b3 := t_b3.keep k_b14
  have n_b11_b14 : b11 ≠ b14 := fun e => by have := t_b11.lt; omega
  replace t_b11 := t_b11.keep k_b14
  refine wl_stT (v := .int .i64 0) (cs' := [.int .i64 0]) t_b14 (by first | decide | simp [ints_len, bools_len]) (by first | rfl | simp [List.set_append, ints_len, bools_len]) rfl so (fun q1 q2 => ef_store (sz := sz3) rfl rfl rfl q1 q2) ?_; intro w16 t_b14 s_w16 so
  replace t_b3 := t_b3.same s_w16 (n_b3_b14)
  replace t_b11 := t_b11.same s_w16 (n_b11_b14)
  replace hc := ch_same hc s_w16 (.inr g_b14)
  refine wl_nil ?_
  refine wk_prune [(1, .pointer (some (⟨b3, 0, none⟩ : Addr))), (2, .slice (some p6) 3 3), (3, .pointer (some (⟨b11, 0, none⟩ : Addr))), (4, .pointer (some (⟨b14, 0, none⟩ : Addr)))] ⟨rfl, rfl, rfl, rfl, trivial⟩ (fun f1 => ?_)
  refine wk_then ?_
  refine wc_seq ?_
  refine wc_region ?_
  refine wl_val (at_loadA (cs := (c26 x1.1 x1.2.1 x1.2.2.1 x1.2.2.2)) Try.underlying26 rfl (by rw [len26]; exact sz26) rfl (ldA_full t_b3)) rfl ?_
  refine wl_val (at_move rfl) rfl ?_
  replace h := h b14 _ hc g_b14 t_b14.lt; clear hc
  refine wl_callF (geom_Walk.calls _ _ _ _ _ _ _ _ _ h) enter27 rfl trivial so ?_; intro x17 w18 h so
  obtain ⟨q19, h⟩ := h
  replace t_b3 := pv_bk q19 t_b3 (by simp)
  replace t_b11 := pv_bk q19 t_b11 (by simp)
  replace t_b14 := pv_bk q19 t_b14 (by simp)
  refine wl_val (at_assign rfl) rfl ?_
  refine wl_nil ?_
  refine wk_prune [(1, .pointer (some (⟨b3, 0, none⟩ : Addr))), (2, .slice (some p6) 3 3), (3, .pointer (some (⟨b11, 0, none⟩ : Addr))), (4, .pointer (some (⟨b14, 0, none⟩ : Addr))), (5, .func (.func 36) #[] #[.pointer (some x17.1), .pointer (some x17.2.1), .pointer (some x17.2.2.1), .pointer (some x17.2.2.2.1), .pointer (some x17.2.2.2.2)])] ⟨rfl, rfl, rfl, rfl, rfl, trivial⟩ (fun f1 => ?_)
  refine wk_then ?_
  refine wc_seq ?_
  refine wc_seq ?_
  refine wc_region ?_
  refine wl_val (at_move rfl) rfl ?_
  refine wl_val (at_eqlNF (v := .func (.func 36) #[] #[.pointer (some x17.1), .pointer (some x17.2.1), .pointer (some x17.2.2.1), .pointer (some x17.2.2.2.1), .pointer (some x17.2.2.2.2)]) Try.underlying47 rfl rfl rfl) rfl ?_
  refine wl_nil ?_
  refine wk_prune [(1, .pointer (some (⟨b3, 0, none⟩ : Addr))), (2, .slice (some p6) 3 3), (3, .pointer (some (⟨b11, 0, none⟩ : Addr))), (4, .pointer (some (⟨b14, 0, none⟩ : Addr))), (5, .func (.func 36) #[] #[.pointer (some x17.1), .pointer (some x17.2.1), .pointer (some x17.2.2.1), .pointer (some x17.2.2.2.1), .pointer (some x17.2.2.2.2)]), (18, .bool false)] ⟨rfl, rfl, rfl, rfl, rfl, rfl, trivial⟩ (fun f1 => ?_)
  refine wk_then ?_
  refine wc_cond_f rfl ?_
  refine wc_skip ?_
  refine wk_prune [(1, .pointer (some (⟨b3, 0, none⟩ : Addr))), (2, .slice (some p6) 3 3), (3, .pointer (some (⟨b11, 0, none⟩ : Addr))), (4, .pointer (some (⟨b14, 0, none⟩ : Addr))), (5, .func (.func 36) #[] #[.pointer (some x17.1), .pointer (some x17.2.1), .pointer (some x17.2.2.1), .pointer (some x17.2.2.2.1), .pointer (some x17.2.2.2.2)])] ⟨rfl, rfl, rfl, rfl, rfl, trivial⟩ (fun f1 => ?_)
  refine wk_then ?_
  refine wc_seq ?_
  refine wc_seq ?_
  refine wc_region ?_
  refine wl_val (at_move rfl) rfl ?_
  refine wl_nil ?_
  refine wk_prune [(1, .pointer (some (⟨b3, 0, none⟩ : Addr))), (2, .slice (some p6) 3 3), (3, .pointer (some (⟨b11, 0, none⟩ : Addr))), (4, .pointer (some (⟨b14, 0, none⟩ : Addr))), (19, .func (.func 36) #[] #[.pointer (some x17.1), .pointer (some x17.2.1), .pointer (some x17.2.2.1), .pointer (some x17.2.2.2.1), .pointer (some x17.2.2.2.2)])] ⟨rfl, rfl, rfl, rfl, rfl, trivial⟩ (fun f1 => ?_)
  refine wk_then ?_
  refine wc_block ?_
  replace h := h t_b3
  replace h := h t_b11
  replace h := h t_b14
  refine wc_prune [(1, .pointer (some (⟨b3, 0, none⟩ : Addr))), (2, .slice (some p6) 3 3), (3, .pointer (some (⟨b11, 0, none⟩ : Addr))), (4, .pointer (some (⟨b14, 0, none⟩ : Addr))), (19, .func (.func 36) #[] #[.pointer (some x17.1), .pointer (some x17.2.1), .pointer (some x17.2.2.1), .pointer (some x17.2.2.2.1), .pointer (some x17.2.2.2.2)])] ⟨rfl, rfl, rfl, rfl, rfl, trivial⟩ (fun f1 => ?_)
  refine wc_rng (caps := [.pointer (some x17.1), .pointer (some x17.2.1), .pointer (some x17.2.2.1), .pointer (some x17.2.2.2.1), .pointer (some x17.2.2.2.2)]) rfl enter36 so h ?_; intro r20 D28 w23 q21 q22 h so
  refine Ca.mono (geom_Walk_1.calls _ _ (yok (ps := [20]) q22 (fun _ => rfl) fun x24 w26 K25 h => ?_) _ _ _ _ _ w23 _ h) ?_
  · refine ⟨h.1, ?_⟩; replace h := h.2; have so := Sm.refl w26; refine wc_prune [(3, .pointer (some (⟨b11, 0, none⟩ : Addr))), (4, .pointer (some (⟨b14, 0, none⟩ : Addr))), (20, .agg (c50 x24.1 x24.2.1 x24.2.2.1 x24.2.2.2.1 x24.2.2.2.2).toArray)] ⟨rfl, rfl, rfl, trivial⟩ (fun f1 => ?_)
    refine wc_region ?_
    refine wl_newT (T := 50) (cs := (c50 0 0 0 0 false)) (ef_alloc zero50 rfl) rfl so ?_; intro b29 w30 hb_b29 t_b29 k_b29 so
    have g_b29 := Nat.le_of_eq hb_b29.symm
    have hc := k_b29.ch (F := [])
    refine wl_stWT (vs := (c50 x24.1 x24.2.1 x24.2.2.1 x24.2.2.2.1 x24.2.2.2.2)) t_b29 (by first | (rw [len50, len50]) | (rw [len50]) | rfl) rfl so (fun q => ef_storeA (p := (⟨b29, 0, none⟩ : Addr)) (cs := (c50 x24.1 x24.2.1 x24.2.2.1 x24.2.2.2.1 x24.2.2.2.2)) (by rw [len50]; exact sz50) rfl rfl (one50 _ _ _ _ _) q) ?_; intro w31 t_b29 s_w31 so
    replace hc := ch_same hc s_w31 (.inr g_b29)
    refine wl_nil ?_
    replace h := h b29 _ hc g_b29 t_b29.lt; clear hc
    refine wk_prune [(3, .pointer (some (⟨b11, 0, none⟩ : Addr))), (4, .pointer (some (⟨b14, 0, none⟩ : Addr))), (6, .pointer (some (⟨b29, 0, none⟩ : Addr)))] ⟨rfl, rfl, rfl, trivial⟩ (fun f1 => ?_)
    refine wk_asg q21 h so ?_; intro w32 h so
    obtain ⟨q33, h⟩ := h
    replace t_b29 := pv_bk q33 t_b29 (by simp)
    refine wc_block ?_
    refine wc_seq ?_
    refine wc_region ?_
    obtain ⟨x34, q35, h⟩ := h
    refine wl_val (at_load Try.underlying3 rfl rfl q35) rfl ?_
    refine wl_val (at_add rfl rfl) rfl ?_
    refine wl_st (v := .int .i64 (IntKind.wrap .i64 (x34 + 1))) h rfl so (fun q1 q2 => ef_store (sz := sz3) rfl rfl rfl q1 q2) ?_; intro w36 h so
    obtain ⟨q37, h⟩ := h
    replace t_b29 := pv_bk q37 t_b29 (by simp)
    refine wl_nil ?_
    refine wk_prune [(4, .pointer (some (⟨b14, 0, none⟩ : Addr))), (6, .pointer (some (⟨b29, 0, none⟩ : Addr)))] ⟨rfl, rfl, trivial⟩ (fun f1 => ?_)
    refine wk_then ?_
    refine wc_seq ?_
    refine wc_region ?_
    refine wl_val (at_fieldAddr Try.underlying50 rfl rfl sz4 (by decide) rfl) rfl ?_
    refine wl_val (at_load (v := .bool x24.2.2.2.2) Try.underlying4 rfl rfl ((t_b29.cell 4).trans (by first | rfl | simp [List.getElem?_append, ints_len, bools_len]))) rfl ?_
    refine wl_nil ?_
    refine wk_prune [(4, .pointer (some (⟨b14, 0, none⟩ : Addr))), (24, .bool x24.2.2.2.2)] ⟨rfl, rfl, trivial⟩ (fun f1 => ?_)
    refine wk_then ?_
    refine wc_cond rfl h (fun h => ?_) (fun h => ?_)
    · refine wc_region ?_
      obtain ⟨x38, q39, h⟩ := h
      refine wl_val (at_load Try.underlying3 rfl rfl q39) rfl ?_
      refine wl_val (at_add rfl rfl) rfl ?_
      refine wl_st (v := .int .i64 (IntKind.wrap .i64 (x38 + 1))) h rfl so (fun q1 q2 => ef_store (sz := sz3) rfl rfl rfl q1 q2) ?_; intro w40 h so
      refine wl_nil ?_
      refine wk_blkN ?_
      exact wk_rdN q21 h so
    · refine wc_skip ?_
      refine wk_blkN ?_
      exact wk_rdN q21 h so
  · rintro _ w27 ⟨_, rfl, h, q41⟩; replace so := so.trans q41
    skip
    · refine rp_none q21 h so ?_; intro w42 h so
      refine wk_blkN ?_
      refine wk_prune [(1, .pointer (some (⟨b3, 0, none⟩ : Addr))), (2, .slice (some p6) 3 3), (3, .pointer (some (⟨b11, 0, none⟩ : Addr))), (4, .pointer (some (⟨b14, 0, none⟩ : Addr)))] ⟨rfl, rfl, rfl, rfl, trivial⟩ (fun f1 => ?_)
      refine wk_then ?_
      refine wc_seq ?_
      refine wc_region ?_
      obtain ⟨x43, x44, x45, x46, q47, h⟩ := h
      refine wl_val (at_loadA (cs := (c26 x43 x44 x45 x46)) Try.underlying26 rfl (by rw [len26]; exact sz26) rfl q47) rfl ?_
      refine wl_val (at_move rfl) rfl ?_
      refine wl_callF (geom_Units.calls _ _ _ _ _ _ _ h) enter20 rfl trivial so ?_; intro x48 w49 h so
      refine wl_val (at_move rfl) rfl ?_
      refine wl_val (at_extract rfl rfl) rfl ?_
      refine wl_val (at_extract rfl rfl) rfl ?_
      refine wl_val (at_assign rfl) rfl ?_
      refine wl_val (at_assign rfl) rfl ?_
      refine wl_nil ?_
      refine wk_prune [(1, .pointer (some (⟨b3, 0, none⟩ : Addr))), (3, .pointer (some (⟨b11, 0, none⟩ : Addr))), (4, .pointer (some (⟨b14, 0, none⟩ : Addr))), (7, .int .i64 x48.1), (8, .int .i64 x48.2)] ⟨rfl, rfl, rfl, rfl, rfl, trivial⟩ (fun f1 => ?_)
      refine wk_then ?_
      refine wc_seq ?_
      refine wc_region ?_
      obtain ⟨x50, q51, h⟩ := h
      refine wl_val (at_load Try.underlying3 rfl rfl q51) rfl ?_
      refine wl_val (at_eql rfl rfl) rfl ?_
      refine wl_val (at_move rfl) rfl ?_
      refine bif_ h (fun hb h => ?_) (fun hb h => ?_)
      · refine wl_set (t := 35) (v := .bool true) (congrArg Value.bool hb) ?_; clear hb
        refine wl_on (t := 35) rfl (by decide) rfl ?_
        obtain ⟨x52, q53, h⟩ := h
        refine wl_val (at_load Try.underlying3 rfl rfl q53) rfl ?_
        refine wl_on (t := 35) rfl (by decide) rfl ?_
        refine wl_val (at_eql rfl rfl) rfl ?_
        refine wl_val (at_pick_t rfl rfl) rfl ?_
        refine wl_val (at_move rfl) rfl ?_
        refine bif_ h (fun hb h => ?_) (fun hb h => ?_)
        · refine wl_set (t := 39) (v := .bool true) (congrArg Value.bool hb) ?_; clear hb
          refine wl_on (t := 39) rfl (by decide) rfl ?_
          refine wl_val (at_move rfl) rfl ?_
          refine wl_on (t := 39) rfl (by decide) rfl ?_
          refine wl_val (at_eql rfl rfl) rfl ?_
          refine wl_val (at_pick_t rfl rfl) rfl ?_
          refine wl_val (at_move rfl) rfl ?_
          refine bif_ h (fun hb h => ?_) (fun hb h => ?_)
          · refine wl_set (t := 43) (v := .bool true) (congrArg Value.bool hb) ?_; clear hb
            refine wl_on (t := 43) rfl (by decide) rfl ?_
            refine wl_val (at_move rfl) rfl ?_
            refine wl_on (t := 43) rfl (by decide) rfl ?_
            refine wl_val (at_eql rfl rfl) rfl ?_
            refine wl_val (at_pick_t rfl rfl) rfl ?_
            refine wl_val (at_move rfl) rfl ?_
            refine bif_ h (fun hb h => ?_) (fun hb h => ?_)
            · refine wl_set (t := 47) (v := .bool true) (congrArg Value.bool hb) ?_; clear hb
              refine wl_on (t := 47) rfl (by decide) rfl ?_
              obtain ⟨x54, x55, x56, x57, q58, h⟩ := h
              refine wl_val (at_loadA (cs := (c26 x54 x55 x56 x57)) Try.underlying26 rfl (by rw [len26]; exact sz26) rfl q58) rfl ?_
              refine wl_on (t := 47) rfl (by decide) rfl ?_
              refine wl_callF (geom_Check.calls _ _ _ _ _ _ h) enter10 rfl trivial so ?_; intro x59 w60 h so
              refine wl_on (t := 47) rfl (by decide) rfl ?_
              refine wl_val (at_eql rfl rfl) rfl ?_
              refine wl_val (at_pick_t rfl rfl) rfl ?_
              refine wl_val (at_assign rfl) rfl ?_
              refine wl_nil ?_
              refine wk_prune [(0, .bool (x59 == 0))] ⟨rfl, trivial⟩ (fun f1 => ?_)
              refine wk_then ?_
              refine wc_ret ?_
              refine wk_tk h so ?_; intro w61 h so
              exact wk_ret1 (x := (x59 == 0)) rfl (by decide) rfl so h
            · refine wl_set (t := 47) (v := .bool false) (congrArg Value.bool hb) ?_; clear hb
              refine wl_off (t := 47) rfl (by decide) rfl ?_
              refine wl_off (t := 47) rfl (by decide) rfl ?_
              refine wl_off (t := 47) rfl (by decide) rfl ?_
              refine wl_val (at_pick_f rfl rfl) rfl ?_
              refine wl_val (at_assign rfl) rfl ?_
              refine wl_nil ?_
              refine wk_prune [(0, .bool false)] ⟨rfl, trivial⟩ (fun f1 => ?_)
              refine wk_then ?_
              refine wc_ret ?_
              refine wk_tk h so ?_; intro w62 h so
              exact wk_ret1 (x := false) rfl (by decide) rfl so h
          · refine wl_set (t := 43) (v := .bool false) (congrArg Value.bool hb) ?_; clear hb
            refine wl_off (t := 43) rfl (by decide) rfl ?_
            refine wl_off (t := 43) rfl (by decide) rfl ?_
            refine wl_val (at_pick_f rfl rfl) rfl ?_
            refine wl_val (at_move rfl) rfl ?_
            refine wl_off (t := 47) rfl (by decide) rfl ?_
            refine wl_off (t := 47) rfl (by decide) rfl ?_
            refine wl_off (t := 47) rfl (by decide) rfl ?_
            refine wl_val (at_pick_f rfl rfl) rfl ?_
            refine wl_val (at_assign rfl) rfl ?_
            refine wl_nil ?_
            refine wk_prune [(0, .bool false)] ⟨rfl, trivial⟩ (fun f1 => ?_)
            refine wk_then ?_
            refine wc_ret ?_
            refine wk_tk h so ?_; intro w63 h so
            exact wk_ret1 (x := false) rfl (by decide) rfl so h
        · refine wl_set (t := 39) (v := .bool false) (congrArg Value.bool hb) ?_; clear hb
          refine wl_off (t := 39) rfl (by decide) rfl ?_
          refine wl_off (t := 39) rfl (by decide) rfl ?_
          refine wl_val (at_pick_f rfl rfl) rfl ?_
          refine wl_val (at_move rfl) rfl ?_
          refine wl_off (t := 43) rfl (by decide) rfl ?_
          refine wl_off (t := 43) rfl (by decide) rfl ?_
          refine wl_val (at_pick_f rfl rfl) rfl ?_
          refine wl_val (at_move rfl) rfl ?_
          refine wl_off (t := 47) rfl (by decide) rfl ?_
          refine wl_off (t := 47) rfl (by decide) rfl ?_
          refine wl_off (t := 47) rfl (by decide) rfl ?_
          refine wl_val (at_pick_f rfl rfl) rfl ?_
          refine wl_val (at_assign rfl) rfl ?_
          refine wl_nil ?_
          refine wk_prune [(0, .bool false)] ⟨rfl, trivial⟩ (fun f1 => ?_)
          refine wk_then ?_
          refine wc_ret ?_
          refine wk_tk h so ?_; intro w64 h so
          exact wk_ret1 (x := false) rfl (by decide) rfl so h
      · refine wl_set (t := 35) (v := .bool false) (congrArg Value.bool hb) ?_; clear hb
        refine wl_off (t := 35) rfl (by decide) rfl ?_
        refine wl_off (t := 35) rfl (by decide) rfl ?_
        refine wl_val (at_pick_f rfl rfl) rfl ?_
        refine wl_val (at_move rfl) rfl ?_
        refine wl_off (t := 39) rfl (by decide) rfl ?_
        refine wl_off (t := 39) rfl (by decide) rfl ?_
        refine wl_val (at_pick_f rfl rfl) rfl ?_
        refine wl_val (at_move rfl) rfl ?_
        refine wl_off (t := 43) rfl (by decide) rfl ?_
        refine wl_off (t := 43) rfl (by decide) rfl ?_
        refine wl_val (at_pick_f rfl rfl) rfl ?_
        refine wl_val (at_move rfl) rfl ?_
        refine wl_off (t := 47) rfl (by decide) rfl ?_
        refine wl_off (t := 47) rfl (by decide) rfl ?_
        refine wl_off (t := 47) rfl (by decide) rfl ?_
        refine wl_val (at_pick_f rfl rfl) rfl ?_
        refine wl_val (at_assign rfl) rfl ?_
        refine wl_nil ?_
        refine wk_prune [(0, .bool false)] ⟨rfl, trivial⟩ (fun f1 => ?_)
        refine wk_then ?_
        refine wc_ret ?_
        refine wk_tk h so ?_; intro w65 h so
        exact wk_ret1 (x := false) rfl (by decide) rfl so h

/-- mosaic/mosaiclaw14.many -/
def mosaiclaw14_many.enc : Bool → Value := fun r => .bool r
def mosaiclaw14_many.s (a0_0 : Int) (a0_1 : Int) (a0_2 : Int) (a0_3 : Sl) (H0 : Hp) (Q : Bool → Hp → Prop) : Prop :=
  Gn [] H0 (fun (b1 : Nat) (H2 : Hp) => ∃ k3, Fix (fun (rec8 : (Int × Int) → Hp → Prop) (s5 : Int × Int) (H6 : Hp) => if decide (s5.2 < (a0_3.n : Int)) = true then (geom_Blocks.s a0_0 a0_1 a0_2 a0_3 s5.2 H6 (fun x9 H10 => Pv [b1] H6 H10 ∧ (Lt ((IntKind.wrap .i64 (s5.1 + (IntKind.wrap .i64 (x9.1 * x9.2)))) : Int) (fun x12 => rec8 (x12, (IntKind.wrap .i64 (s5.2 + 1))) H10)))) else (Q (decide ((4000 : Int) < s5.1)) H6)) k3 (0, 0) H2)
set_option maxRecDepth 20000 in
set_option maxHeartbeats 4000000 in
theorem mosaiclaw14_many.calls (a0_0 : Int) (a0_1 : Int) (a0_2 : Int) (a0_3 : Sl) (w0 : World) (Q : Bool → Hp → Prop) (h : mosaiclaw14_many.s a0_0 a0_1 a0_2 a0_3 w0.heap Q) :
    Ca Try.prog 29 #[.agg (c26 a0_0 a0_1 a0_2 a0_3).toArray] w0 (Rt mosaiclaw14_many.enc Q w0) := by
  refine ca_start (c := _) Try.func29 rfl Try.ntmps29 rfl ?_
  have so : Sm w0 w0 := Sm.refl w0
  unfold mosaiclaw14_many.s at h
  refine wc_prune [(0, .agg (c26 a0_0 a0_1 a0_2 a0_3).toArray)] ⟨rfl, trivial⟩ (fun f1 => ?_)
  refine wc_seq ?_
  refine wc_region ?_
  refine wl_newT (T := 26) (cs := (c26 a0_0 a0_1 a0_2 a0_3)) (ef_box rfl rfl) rfl so ?_; intro b1 w2 hb_b1 t_b1 k_b1 so
  have g_b1 := Nat.le_of_eq hb_b1.symm
  have hc := k_b1.ch (F := [])
  refine wl_val (at_assign rfl) rfl ?_
  refine wl_nil ?_
  refine wk_prune [(1, .pointer (some (⟨b1, 0, none⟩ : Addr)))] ⟨rfl, trivial⟩ (fun f1 => ?_)
  refine wk_then ?_
  refine wc_seq ?_
  refine wc_region ?_
  refine wl_val (at_assign rfl) rfl ?_
  refine wl_nil ?_
  refine wk_prune [(1, .pointer (some (⟨b1, 0, none⟩ : Addr))), (3, .int .i64 0)] ⟨rfl, rfl, trivial⟩ (fun f1 => ?_)
  refine wk_then ?_
  refine wc_seq ?_
  refine wc_seq ?_
  refine wc_region ?_
  refine wl_val (at_assign rfl) rfl ?_
  refine wl_nil ?_
  refine wk_prune [(1, .pointer (some (⟨b1, 0, none⟩ : Addr))), (3, .int .i64 0), (4, .int .i64 0)] ⟨rfl, rfl, rfl, trivial⟩ (fun f1 => ?_)
  refine wk_then ?_
  refine wc_block ?_
  replace h := h b1 _ hc g_b1 t_b1.lt; clear hc
  obtain ⟨k3, h⟩ := h
  refine wc_loop (fun k a w => ∃ (s5 : Int × Int) (f1 : Nat → Value), a = ac 27 (en f1 [(1, .pointer (some (⟨b1, 0, none⟩ : Addr))), (3, .int .i64 s5.1), (4, .int .i64 s5.2)]) [] ∧ Sm w0 w ∧ (Bk w.heap b1 26 (c26 a0_0 a0_1 a0_2 a0_3) ∧ True) ∧ Fix _ k s5 w.heap) k3 ⟨(0, 0), _, ac_again ⟨rfl, rfl, rfl, trivial⟩, so, ⟨t_b1, trivial⟩, h⟩ ?_
  rintro k4 a7 w6 ⟨s5, f1, rfl, so, ⟨t_b1, _⟩, h⟩
  rcases k4 with _ | k4
  · exact h.elim
  replace h := Fix.un h; refine wc_in ?_
  refine wc_seq ?_
  refine wc_seq ?_
  refine wc_region ?_
  refine wl_val (at_move rfl) rfl ?_
  refine wl_val (at_fieldAddr Try.underlying26 rfl rfl sz24 (by decide) rfl) rfl ?_
  refine wl_val (at_load (v := .slice a0_3.a a0_3.n a0_3.c) Try.underlying24 rfl rfl ((t_b1.cell 3).trans (by first | rfl | simp [List.getElem?_append, ints_len, bools_len]))) rfl ?_
  refine wl_val (at_lenL Try.underlying24 rfl) rfl ?_
  refine wl_val (at_lss rfl rfl) rfl ?_
  refine wl_nil ?_
  refine wk_prune [(1, .pointer (some (⟨b1, 0, none⟩ : Addr))), (3, .int .i64 s5.1), (4, .int .i64 s5.2), (11, .bool (decide (s5.2 < (a0_3.n : Int))))] ⟨rfl, rfl, rfl, rfl, trivial⟩ (fun f1 => ?_)
  refine wk_then ?_
  refine wc_cond rfl h (fun h => ?_) (fun h => ?_)
  · refine wc_skip ?_
    refine wk_prune [(1, .pointer (some (⟨b1, 0, none⟩ : Addr))), (3, .int .i64 s5.1), (4, .int .i64 s5.2)] ⟨rfl, rfl, rfl, trivial⟩ (fun f1 => ?_)
    refine wk_then ?_
    refine wc_seq ?_
    refine wc_block ?_
    refine wc_seq ?_
    refine wc_region ?_
    refine wl_val (at_loadA (cs := (c26 a0_0 a0_1 a0_2 a0_3)) Try.underlying26 rfl (by rw [len26]; exact sz26) rfl (ldA_full t_b1)) rfl ?_
    refine wl_val (at_move rfl) rfl ?_
    refine wl_callF (geom_Blocks.calls _ _ _ _ _ _ _ h) enter9 rfl trivial so ?_; intro x9 w10 h so
    obtain ⟨q11, h⟩ := h
    replace t_b1 := pv_bk q11 t_b1 (by simp)
    refine wl_val (at_move rfl) rfl ?_
    refine wl_val (at_extract rfl rfl) rfl ?_
    refine wl_val (at_extract rfl rfl) rfl ?_
    refine wl_val (at_assign rfl) rfl ?_
    refine wl_val (at_assign rfl) rfl ?_
    refine wl_nil ?_
    refine wk_prune [(1, .pointer (some (⟨b1, 0, none⟩ : Addr))), (3, .int .i64 s5.1), (4, .int .i64 s5.2), (5, .int .i64 x9.1), (6, .int .i64 x9.2)] ⟨rfl, rfl, rfl, rfl, rfl, trivial⟩ (fun f1 => ?_)
    refine wk_then ?_
    refine wc_region ?_
    refine wl_val (at_move rfl) rfl ?_
    refine wl_val (at_move rfl) rfl ?_
    refine wl_val (at_move rfl) rfl ?_
    refine wl_val (at_mul rfl rfl) rfl ?_
    refine wl_val (at_add rfl rfl) rfl ?_
    refine wl_val (at_assign rfl) rfl ?_
    obtain ⟨x12, e13⟩ : ∃ x : Int, x = (IntKind.wrap .i64 (s5.1 + (IntKind.wrap .i64 (x9.1 * x9.2)))) := ⟨_, rfl⟩; replace h := h x12 e13
    refine wl_set (t := 3) (v := .int .i64 x12) (congrArg (Value.int .i64) e13.symm) ?_
    refine wl_nil ?_
    refine wk_blkN ?_
    refine wk_prune [(1, .pointer (some (⟨b1, 0, none⟩ : Addr))), (3, .int .i64 x12), (4, .int .i64 s5.2)] ⟨rfl, rfl, rfl, trivial⟩ (fun f1 => ?_)
    refine wk_then ?_
    refine wc_region ?_
    refine wl_val (at_move rfl) rfl ?_
    refine wl_val (at_add rfl rfl) rfl ?_
    refine wl_val (at_assign rfl) rfl ?_
    refine wl_nil ?_
    exact wk_again ⟨(x12, (IntKind.wrap .i64 (s5.2 + 1))), _, ac_again ⟨rfl, rfl, rfl, trivial⟩, so, ⟨t_b1, trivial⟩, h⟩
  · refine wc_exit ?_
    refine wk_thenE ?_
    refine wk_thenE ?_
    refine wk_blkE ?_
    refine wk_prune [(3, .int .i64 s5.1)] ⟨rfl, trivial⟩ (fun f1 => ?_)
    refine wk_then ?_
    refine wc_seq ?_
    refine wc_region ?_
    refine wl_val (at_move rfl) rfl ?_
    refine wl_val (at_gtr rfl rfl) rfl ?_
    refine wl_val (at_assign rfl) rfl ?_
    refine wl_nil ?_
    refine wk_prune [(2, .bool (decide ((4000 : Int) < s5.1)))] ⟨rfl, trivial⟩ (fun f1 => ?_)
    refine wk_then ?_
    refine wc_ret ?_
    exact wk_ret1 (x := (decide ((4000 : Int) < s5.1))) rfl (by decide) rfl so h
end Go.Proofs.Ytlonijlcddlhjaa.G
