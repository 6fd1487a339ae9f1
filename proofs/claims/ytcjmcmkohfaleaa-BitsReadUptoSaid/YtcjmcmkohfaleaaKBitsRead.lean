import Derived.Test.YtcjmcmkohfaleaaGF
import Derived.Test.YtcjmcmkohfaleaaKbits
import Derived.Test.YtcjmcmkohfaleaaKmosaiclaw01
import Derived.Test.YtcjmcmkohfaleaaKmosaicref01
namespace Go.Proofs.Ytcjmcmkohfaleaa.G
open Go.RowKit
set_option linter.unusedVariables false
set_option linter.unusedSimpArgs false
/-- mosaic/mosaiclaw01.BitsRead -/
def mosaiclaw01_BitsRead.enc : Bool → Value := fun r => .bool r
def mosaiclaw01_BitsRead.s (a0_0 : ByteArray) (a0_1 : Int) (a0_2 : Int) (a1_0 : ByteArray) (a1_1 : Int) (a1_2 : Int) (a2 : Sl) (a3 : Sl) (H0 : Hp) (Q : Bool → Hp → Prop) : Prop :=
  Gn [] H0 (fun (b1 : Nat) (H2 : Hp) => Gn [] H2 (fun (b3 : Nat) (H4 : Hp) => bits_Open.s a0_0 a0_1 a0_2 H4 (fun x5 H6 => Pv [b1, b3] H4 H6 ∧ (bits_Open.s a1_0 a1_1 a1_2 H6 (fun x8 H9 => Pv [b1, b3] H6 H9 ∧ (Join (fun (s12 : Bool) (H13 : Hp) => if s12 = true then (Q false H13) else (mosaicref01_Open.s a0_0 a0_1 a0_2 H13 (fun x14 H15 => Pv [b3] H13 H15 ∧ (mosaicref01_Open.s a1_0 a1_1 a1_2 H15 (fun x17 H18 => ∃ k19, Fix (fun (rec24 : Int → Hp → Prop) (s21 : Int) (H22 : Hp) => Join (fun (s26 : Bool) (H27 : Hp) => if s26 = true then (Join (fun (s29 : Unit) (H30 : Hp) => rec24 ((IntKind.wrap .i64 (s21 + 1))) H30) (fun (J28 : Unit → Hp → Prop) => Join (fun (s32 : Unit) (H33 : Hp) => if decide (s21 < (a3.n : Int)) = true then (0 ≤ s21 ∧ s21 < (a3.n : Int) ∧ someA a3.a (fun p36 => ∃ x38 : Int, ∃ x39 : Int, ∃ x40 : Int, ldA H33 (p36.add (Int.toNat s21 * 3)) (c29 x38 x39 x40) ∧ (mosaiclaw01_read.s x8 x17 x38 x39 x40 H33 (fun x42 H43 => if (!x42) = true then (Q false H43) else (J28 () H43))))) else (J28 () H33)) (fun (J31 : Unit → Hp → Prop) => if decide (s21 < (a2.n : Int)) = true then (0 ≤ s21 ∧ s21 < (a2.n : Int) ∧ someA a2.a (fun p46 => ∃ x48 : Int, ∃ x49 : Int, ∃ x50 : Int, ldA H27 (p46.add (Int.toNat s21 * 3)) (c29 x48 x49 x50) ∧ (mosaiclaw01_read.s x5 x14 x48 x49 x50 H27 (fun x52 H53 => if (!x52) = true then (Q false H53) else (J31 () H53))))) else (J31 () H27)))) else (mosaiclaw01_rest.s x5 x14 H27 (fun x54 H55 => if x54 = true then (mosaiclaw01_rest.s x8 x17 H55 (fun x56 H57 => Q x56 H57)) else (Q false H55)))) (fun (J25 : Bool → Hp → Prop) => if decide (s21 < (a2.n : Int)) = true then (J25 (true) H22) else (J25 ((decide (s21 < (a3.n : Int)))) H22))) k19 (0) H18))))) (fun (J11 : Bool → Hp → Prop) => if x5.isNone = true then (J11 (true) H9) else (J11 (x8.isNone) H9))))))))
set_option maxRecDepth 20000 in
set_option maxHeartbeats 4000000 in
theorem mosaiclaw01_BitsRead.calls (a0_0 : ByteArray) (a0_1 : Int) (a0_2 : Int) (a1_0 : ByteArray) (a1_1 : Int) (a1_2 : Int) (a2 : Sl) (a3 : Sl) (w0 : World) (Q : Bool → Hp → Prop) (h : mosaiclaw01_BitsRead.s a0_0 a0_1 a0_2 a1_0 a1_1 a1_2 a2 a3 w0.heap Q) :
    Ca Try.prog 4 #[.agg (c34 a0_0 a0_1 a0_2).toArray, .agg (c34 a1_0 a1_1 a1_2).toArray, .slice a2.a a2.n a2.c, .slice a3.a a3.n a3.c] w0 (Rt mosaiclaw01_BitsRead.enc Q w0) := by
  refine ca_start (c := _) Try.func4 rfl Try.ntmps4 rfl ?_
  have so : Sm w0 w0 := Sm.refl w0
  unfold mosaiclaw01_BitsRead.s at h
  refine wc_prune [(0, .agg (c34 a0_0 a0_1 a0_2).toArray), (1, .agg (c34 a1_0 a1_1 a1_2).toArray), (2, .slice a2.a a2.n a2.c), (3, .slice a3.a a3.n a3.c)] ⟨rfl, rfl, rfl, rfl, trivial⟩ (fun f1 => ?_)
  refine wc_seq ?_
  refine wc_region ?_
  refine wl_newT (T := 34) (cs := (c34 a0_0 a0_1 a0_2)) (ef_box rfl rfl) rfl so ?_; intro b1 w2 hb_b1 t_b1 k_b1 so
  have g_b1 := Nat.le_of_eq hb_b1.symm
  have hc := k_b1.ch (F := [])
  replace h := h b1 _ hc g_b1 t_b1.lt; clear hc
  refine wl_newT (T := 34) (cs := (c34 a1_0 a1_1 a1_2)) (ef_box rfl rfl) rfl so ?_; intro b3 w4 hb_b3 t_b3 k_b3 so
  have g_b3 := Nat.le_of_eq hb_b3.symm
  have hc := k_b3.ch (F := [])
  have n_b1_b3 : b1 ≠ b3 := fun e => by have := t_b1.lt; omega
  replace t_b1 := t_b1.keep k_b3
  refine wl_val (at_assign rfl) rfl ?_
  refine wl_nil ?_
  refine wk_prune [(2, .slice a2.a a2.n a2.c), (3, .slice a3.a a3.n a3.c), (4, .pointer (some (⟨b1, 0, none⟩ : Addr))), (5, .pointer (some (⟨b3, 0, none⟩ : Addr)))] ⟨rfl, rfl, rfl, rfl, trivial⟩ (fun f1 => ?_)
  refine wk_then ?_
  refine wc_seq ?_
  refine wc_region ?_
  refine wl_val (at_fieldAddr Try.underlying34 rfl rfl sz9 (by decide) rfl) rfl ?_
  refine wl_val (at_load (v := .string a0_0) Try.underlying9 rfl rfl ((t_b1.cell 0).trans (by first | rfl | simp [List.getElem?_append, ints_len, bools_len]))) rfl ?_
  refine wl_val (at_fieldAddr Try.underlying34 rfl rfl sz3 (by decide) rfl) rfl ?_
  refine wl_val (at_load (v := .int .i64 a0_1) Try.underlying3 rfl rfl ((t_b1.cell 1).trans (by first | rfl | simp [List.getElem?_append, ints_len, bools_len]))) rfl ?_
  refine wl_val (at_fieldAddr Try.underlying34 rfl rfl sz3 (by decide) rfl) rfl ?_
  refine wl_val (at_load (v := .int .i64 a0_2) Try.underlying3 rfl rfl ((t_b1.cell 2).trans (by first | rfl | simp [List.getElem?_append, ints_len, bools_len]))) rfl ?_
  replace h := h b3 _ hc g_b3 t_b3.lt; clear hc
  refine wl_callF (bits_Open.calls _ _ _ _ _ h) enter15 rfl trivial so ?_; intro x5 w6 h so
  obtain ⟨q7, h⟩ := h
  replace t_b1 := pv_bk q7 t_b1 (by simp)
  replace t_b3 := pv_bk q7 t_b3 (by simp)
  refine wl_val (at_assign rfl) rfl ?_
  refine wl_nil ?_
  refine wk_prune [(2, .slice a2.a a2.n a2.c), (3, .slice a3.a a3.n a3.c), (4, .pointer (some (⟨b1, 0, none⟩ : Addr))), (5, .pointer (some (⟨b3, 0, none⟩ : Addr))), (9, .pointer x5)] ⟨rfl, rfl, rfl, rfl, rfl, trivial⟩ (fun f1 => ?_)
  refine wk_then ?_
  refine wc_seq ?_
  refine wc_region ?_
  refine wl_val (at_fieldAddr Try.underlying34 rfl rfl sz9 (by decide) rfl) rfl ?_
  refine wl_val (at_load (v := .string a1_0) Try.underlying9 rfl rfl ((t_b3.cell 0).trans (by first | rfl | simp [List.getElem?_append, ints_len, bools_len]))) rfl ?_
  refine wl_val (at_fieldAddr Try.underlying34 rfl rfl sz3 (by decide) rfl) rfl ?_
  refine wl_val (at_load (v := .int .i64 a1_1) Try.underlying3 rfl rfl ((t_b3.cell 1).trans (by first | rfl | simp [List.getElem?_append, ints_len, bools_len]))) rfl ?_
  refine wl_val (at_fieldAddr Try.underlying34 rfl rfl sz3 (by decide) rfl) rfl ?_
  refine wl_val (at_load (v := .int .i64 a1_2) Try.underlying3 rfl rfl ((t_b3.cell 2).trans (by first | rfl | simp [List.getElem?_append, ints_len, bools_len]))) rfl ?_
  refine wl_callF (bits_Open.calls _ _ _ _ _ h) enter15 rfl trivial so ?_; intro x8 w9 h so
  obtain ⟨q10, h⟩ := h
  replace t_b1 := pv_bk q10 t_b1 (by simp)
  replace t_b3 := pv_bk q10 t_b3 (by simp)
  refine wl_val (at_assign rfl) rfl ?_
  refine wl_nil ?_
  refine wk_prune [(2, .slice a2.a a2.n a2.c), (3, .slice a3.a a3.n a3.c), (4, .pointer (some (⟨b1, 0, none⟩ : Addr))), (5, .pointer (some (⟨b3, 0, none⟩ : Addr))), (9, .pointer x5), (10, .pointer x8)] ⟨rfl, rfl, rfl, rfl, rfl, rfl, trivial⟩ (fun f1 => ?_)
  refine wk_then ?_
  refine wc_seq ?_
  refine wc_seq ?_
  refine wc_joinG (w0 := w0) (fun (H : Hp) => Bk H b1 34 (c34 a0_0 a0_1 a0_2) ∧ Bk H b3 34 (c34 a1_0 a1_1 a1_2) ∧ True) (fun (s12 : Bool) => [(2, .slice a2.a a2.n a2.c), (3, .slice a3.a a3.n a3.c), (4, .pointer (some (⟨b1, 0, none⟩ : Addr))), (5, .pointer (some (⟨b3, 0, none⟩ : Addr))), (9, .pointer x5), (10, .pointer x8), (35, .bool s12)]) (fun (s12 : Bool) => []) h ?_ ?_
  · rintro s12 w13 f1 h ⟨t_b1, t_b3, _⟩ so; refine wk_then ?_
    refine wc_cond rfl h (fun h => ?_) (fun h => ?_)
    · refine wc_seq ?_
      refine wc_region ?_
      refine wl_val (at_assign rfl) rfl ?_
      refine wl_nil ?_
      refine wk_prune [(8, .bool false)] ⟨rfl, trivial⟩ (fun f1 => ?_)
      refine wk_then ?_
      refine wc_ret ?_
      refine wk_thenR ?_
      exact wk_ret1 (x := false) rfl (by decide) rfl so h
    · refine wc_skip ?_
      refine wk_prune [(2, .slice a2.a a2.n a2.c), (3, .slice a3.a a3.n a3.c), (4, .pointer (some (⟨b1, 0, none⟩ : Addr))), (5, .pointer (some (⟨b3, 0, none⟩ : Addr))), (9, .pointer x5), (10, .pointer x8)] ⟨rfl, rfl, rfl, rfl, rfl, rfl, trivial⟩ (fun f1 => ?_)
      refine wk_then ?_
      refine wc_seq ?_
      refine wc_region ?_
      refine wl_val (at_fieldAddr Try.underlying34 rfl rfl sz9 (by decide) rfl) rfl ?_
      refine wl_val (at_load (v := .string a0_0) Try.underlying9 rfl rfl ((t_b1.cell 0).trans (by first | rfl | simp [List.getElem?_append, ints_len, bools_len]))) rfl ?_
      refine wl_val (at_fieldAddr Try.underlying34 rfl rfl sz3 (by decide) rfl) rfl ?_
      refine wl_val (at_load (v := .int .i64 a0_1) Try.underlying3 rfl rfl ((t_b1.cell 1).trans (by first | rfl | simp [List.getElem?_append, ints_len, bools_len]))) rfl ?_
      refine wl_val (at_fieldAddr Try.underlying34 rfl rfl sz3 (by decide) rfl) rfl ?_
      refine wl_val (at_load (v := .int .i64 a0_2) Try.underlying3 rfl rfl ((t_b1.cell 2).trans (by first | rfl | simp [List.getElem?_append, ints_len, bools_len]))) rfl ?_
      refine wl_callF (mosaicref01_Open.calls _ _ _ _ _ h) enter16 rfl trivial so ?_; intro x14 w15 h so
      obtain ⟨q16, h⟩ := h
      replace t_b3 := pv_bk q16 t_b3 (by simp)
      refine wl_val (at_assign rfl) rfl ?_
      refine wl_nil ?_
      refine wk_prune [(2, .slice a2.a a2.n a2.c), (3, .slice a3.a a3.n a3.c), (5, .pointer (some (⟨b3, 0, none⟩ : Addr))), (9, .pointer x5), (10, .pointer x8), (11, .pointer x14)] ⟨rfl, rfl, rfl, rfl, rfl, rfl, trivial⟩ (fun f1 => ?_)
      refine wk_then ?_
      refine wc_seq ?_
      refine wc_region ?_
      refine wl_val (at_fieldAddr Try.underlying34 rfl rfl sz9 (by decide) rfl) rfl ?_
      refine wl_val (at_load (v := .string a1_0) Try.underlying9 rfl rfl ((t_b3.cell 0).trans (by first | rfl | simp [List.getElem?_append, ints_len, bools_len]))) rfl ?_
      refine wl_val (at_fieldAddr Try.underlying34 rfl rfl sz3 (by decide) rfl) rfl ?_
      refine wl_val (at_load (v := .int .i64 a1_1) Try.underlying3 rfl rfl ((t_b3.cell 1).trans (by first | rfl | simp [List.getElem?_append, ints_len, bools_len]))) rfl ?_
      refine wl_val (at_fieldAddr Try.underlying34 rfl rfl sz3 (by decide) rfl) rfl ?_
      refine wl_val (at_load (v := .int .i64 a1_2) Try.underlying3 rfl rfl ((t_b3.cell 2).trans (by first | rfl | simp [List.getElem?_append, ints_len, bools_len]))) rfl ?_
      refine wl_callF (mosaicref01_Open.calls _ _ _ _ _ h) enter16 rfl trivial so ?_; intro x17 w18 h so
      refine wl_val (at_assign rfl) rfl ?_
      refine wl_nil ?_
      refine wk_prune [(2, .slice a2.a a2.n a2.c), (3, .slice a3.a a3.n a3.c), (9, .pointer x5), (10, .pointer x8), (11, .pointer x14), (12, .pointer x17)] ⟨rfl, rfl, rfl, rfl, rfl, rfl, trivial⟩ (fun f1 => ?_)
      refine wk_then ?_
      refine wc_seq ?_
      refine wc_seq ?_
      refine wc_region ?_
      refine wl_val (at_assign rfl) rfl ?_
      refine wl_nil ?_
      refine wk_prune [(2, .slice a2.a a2.n a2.c), (3, .slice a3.a a3.n a3.c), (9, .pointer x5), (10, .pointer x8), (11, .pointer x14), (12, .pointer x17), (13, .int .i64 0)] ⟨rfl, rfl, rfl, rfl, rfl, rfl, rfl, trivial⟩ (fun f1 => ?_)
      refine wk_then ?_
      refine wc_block ?_
      obtain ⟨k19, h⟩ := h
      refine wc_loop (fun k a w => ∃ (s21 : Int) (f1 : Nat → Value), a = ac 96 (en f1 [(2, .slice a2.a a2.n a2.c), (3, .slice a3.a a3.n a3.c), (9, .pointer x5), (10, .pointer x8), (11, .pointer x14), (12, .pointer x17), (13, .int .i64 s21)]) [] ∧ Sm w0 w ∧ Fix _ k s21 w.heap) k19 ⟨(0), _, ac_again ⟨rfl, rfl, rfl, rfl, rfl, rfl, rfl, trivial⟩, so, h⟩ ?_
      rintro k20 a23 w22 ⟨s21, f1, rfl, so, h⟩
      rcases k20 with _ | k20
      · exact h.elim
      replace h := Fix.un h; refine wc_in ?_
      refine wc_seq ?_
      refine wc_seq ?_
      refine wc_join (w0 := w0) (fun (s26 : Bool) => [(2, .slice a2.a a2.n a2.c), (3, .slice a3.a a3.n a3.c), (9, .pointer x5), (10, .pointer x8), (11, .pointer x14), (12, .pointer x17), (13, .int .i64 s21), (59, .bool s26)]) h ?_ ?_
      · rintro s26 w27 f1 h so; refine wk_then ?_
        refine wc_cond rfl h (fun h => ?_) (fun h => ?_)
        · refine wc_skip ?_
          refine wk_prune [(2, .slice a2.a a2.n a2.c), (3, .slice a3.a a3.n a3.c), (9, .pointer x5), (10, .pointer x8), (11, .pointer x14), (12, .pointer x17), (13, .int .i64 s21)] ⟨rfl, rfl, rfl, rfl, rfl, rfl, rfl, trivial⟩ (fun f1 => ?_)
          refine wk_then ?_
          refine wc_seq ?_
          refine wc_join (w0 := w0) (fun (s29 : Unit) => [(2, .slice a2.a a2.n a2.c), (3, .slice a3.a a3.n a3.c), (9, .pointer x5), (10, .pointer x8), (11, .pointer x14), (12, .pointer x17), (13, .int .i64 s21)]) h ?_ ?_
          · rintro s29 w30 f1 h so; refine wk_then ?_
            refine wc_region ?_
            refine wl_val (at_move rfl) rfl ?_
            refine wl_val (at_add rfl rfl) rfl ?_
            refine wl_val (at_assign rfl) rfl ?_
            refine wl_nil ?_
            exact wk_again ⟨((IntKind.wrap .i64 (s21 + 1))), _, ac_again ⟨rfl, rfl, rfl, rfl, rfl, rfl, rfl, trivial⟩, so, h⟩
          · intro J28 h hJ28
            refine wc_block ?_
            refine wc_seq ?_
            refine wc_join (w0 := w0) (fun (s32 : Unit) => [(2, .slice a2.a a2.n a2.c), (3, .slice a3.a a3.n a3.c), (9, .pointer x5), (10, .pointer x8), (11, .pointer x14), (12, .pointer x17), (13, .int .i64 s21)]) h ?_ ?_
            · rintro s32 w33 f1 h so; refine wk_then ?_
              refine wc_seq ?_
              refine wc_region ?_
              refine wl_val (at_move rfl) rfl ?_
              refine wl_val (at_move rfl) rfl ?_
              refine wl_val (at_lenL Try.underlying22 rfl) rfl ?_
              refine wl_val (at_lss rfl rfl) rfl ?_
              refine wl_nil ?_
              refine wk_prune [(2, .slice a2.a a2.n a2.c), (3, .slice a3.a a3.n a3.c), (9, .pointer x5), (10, .pointer x8), (11, .pointer x14), (12, .pointer x17), (13, .int .i64 s21), (78, .bool (decide (s21 < (a3.n : Int))))] ⟨rfl, rfl, rfl, rfl, rfl, rfl, rfl, rfl, trivial⟩ (fun f1 => ?_)
              refine wk_then ?_
              refine wc_cond rfl h (fun h => ?_) (fun h => ?_)
              · refine wc_seq ?_
                refine wc_region ?_
                refine wl_val (at_move rfl) rfl ?_
                refine wl_val (at_move rfl) rfl ?_
                refine wl_val (at_move rfl) rfl ?_
                refine wl_val (at_move rfl) rfl ?_
                obtain ⟨q34, q35, p36, q37, h⟩ := h
                refine wl_val (at_ixAddrL Try.underlying22 sz29 (sl_some q37) rfl q34 q35) rfl ?_
                obtain ⟨x38, x39, x40, q41, h⟩ := h
                refine wl_val (at_loadA (cs := (c29 x38 x39 x40)) Try.underlying29 rfl (by rw [len29]; exact sz29) rfl q41) rfl ?_
                refine wl_callF (mosaiclaw01_read.calls _ _ _ _ _ _ _ h) enter17 rfl trivial so ?_; intro x42 w43 h so
                refine wl_val (at_assign rfl) rfl ?_
                refine wl_nil ?_
                refine wk_prune [(2, .slice a2.a a2.n a2.c), (3, .slice a3.a a3.n a3.c), (9, .pointer x5), (10, .pointer x8), (11, .pointer x14), (12, .pointer x17), (13, .int .i64 s21), (15, .bool x42)] ⟨rfl, rfl, rfl, rfl, rfl, rfl, rfl, rfl, trivial⟩ (fun f1 => ?_)
                refine wk_then ?_
                refine wc_seq ?_
                refine wc_region ?_
                refine wl_val (at_move rfl) rfl ?_
                refine wl_val (at_not rfl) rfl ?_
                refine wl_nil ?_
                refine wk_prune [(2, .slice a2.a a2.n a2.c), (3, .slice a3.a a3.n a3.c), (9, .pointer x5), (10, .pointer x8), (11, .pointer x14), (12, .pointer x17), (13, .int .i64 s21), (87, .bool (!x42))] ⟨rfl, rfl, rfl, rfl, rfl, rfl, rfl, rfl, trivial⟩ (fun f1 => ?_)
                refine wk_then ?_
                refine wc_cond rfl h (fun h => ?_) (fun h => ?_)
                · refine wc_seq ?_
                  refine wc_region ?_
                  refine wl_val (at_assign rfl) rfl ?_
                  refine wl_nil ?_
                  refine wk_prune [(8, .bool false)] ⟨rfl, trivial⟩ (fun f1 => ?_)
                  refine wk_then ?_
                  refine wc_ret ?_
                  refine wk_blkR ?_
                  refine wk_thenR ?_
                  refine wk_thenR ?_
                  refine wk_blkR ?_
                  refine wk_thenR ?_
                  exact wk_ret1 (x := false) rfl (by decide) rfl so h
                · refine wc_skip ?_
                  refine wk_blkN ?_
                  exact wk_prune [(2, .slice a2.a a2.n a2.c), (3, .slice a3.a a3.n a3.c), (9, .pointer x5), (10, .pointer x8), (11, .pointer x14), (12, .pointer x17), (13, .int .i64 s21)] ⟨rfl, rfl, rfl, rfl, rfl, rfl, rfl, trivial⟩ (fun f1 => hJ28 () _ f1 h so)
              · refine wc_skip ?_
                refine wk_blkN ?_
                exact wk_prune [(2, .slice a2.a a2.n a2.c), (3, .slice a3.a a3.n a3.c), (9, .pointer x5), (10, .pointer x8), (11, .pointer x14), (12, .pointer x17), (13, .int .i64 s21)] ⟨rfl, rfl, rfl, rfl, rfl, rfl, rfl, trivial⟩ (fun f1 => hJ28 () _ f1 h so)
            · intro J31 h hJ31
              refine wc_seq ?_
              refine wc_region ?_
              refine wl_val (at_move rfl) rfl ?_
              refine wl_val (at_move rfl) rfl ?_
              refine wl_val (at_lenL Try.underlying22 rfl) rfl ?_
              refine wl_val (at_lss rfl rfl) rfl ?_
              refine wl_nil ?_
              refine wk_prune [(2, .slice a2.a a2.n a2.c), (3, .slice a3.a a3.n a3.c), (9, .pointer x5), (10, .pointer x8), (11, .pointer x14), (12, .pointer x17), (13, .int .i64 s21), (65, .bool (decide (s21 < (a2.n : Int))))] ⟨rfl, rfl, rfl, rfl, rfl, rfl, rfl, rfl, trivial⟩ (fun f1 => ?_)
              refine wk_then ?_
              refine wc_cond rfl h (fun h => ?_) (fun h => ?_)
              · refine wc_seq ?_
                refine wc_region ?_
                refine wl_val (at_move rfl) rfl ?_
                refine wl_val (at_move rfl) rfl ?_
                refine wl_val (at_move rfl) rfl ?_
                refine wl_val (at_move rfl) rfl ?_
                obtain ⟨q44, q45, p46, q47, h⟩ := h
                refine wl_val (at_ixAddrL Try.underlying22 sz29 (sl_some q47) rfl q44 q45) rfl ?_
                obtain ⟨x48, x49, x50, q51, h⟩ := h
                refine wl_val (at_loadA (cs := (c29 x48 x49 x50)) Try.underlying29 rfl (by rw [len29]; exact sz29) rfl q51) rfl ?_
                refine wl_callF (mosaiclaw01_read.calls _ _ _ _ _ _ _ h) enter17 rfl trivial so ?_; intro x52 w53 h so
                refine wl_val (at_assign rfl) rfl ?_
                refine wl_nil ?_
                refine wk_prune [(2, .slice a2.a a2.n a2.c), (3, .slice a3.a a3.n a3.c), (9, .pointer x5), (10, .pointer x8), (11, .pointer x14), (12, .pointer x17), (13, .int .i64 s21), (14, .bool x52)] ⟨rfl, rfl, rfl, rfl, rfl, rfl, rfl, rfl, trivial⟩ (fun f1 => ?_)
                refine wk_then ?_
                refine wc_seq ?_
                refine wc_region ?_
                refine wl_val (at_move rfl) rfl ?_
                refine wl_val (at_not rfl) rfl ?_
                refine wl_nil ?_
                refine wk_prune [(2, .slice a2.a a2.n a2.c), (3, .slice a3.a a3.n a3.c), (9, .pointer x5), (10, .pointer x8), (11, .pointer x14), (12, .pointer x17), (13, .int .i64 s21), (74, .bool (!x52))] ⟨rfl, rfl, rfl, rfl, rfl, rfl, rfl, rfl, trivial⟩ (fun f1 => ?_)
                refine wk_then ?_
                refine wc_cond rfl h (fun h => ?_) (fun h => ?_)
                · refine wc_seq ?_
                  refine wc_region ?_
                  refine wl_val (at_assign rfl) rfl ?_
                  refine wl_nil ?_
                  refine wk_prune [(8, .bool false)] ⟨rfl, trivial⟩ (fun f1 => ?_)
                  refine wk_then ?_
                  refine wc_ret ?_
                  refine wk_thenR ?_
                  refine wk_blkR ?_
                  refine wk_thenR ?_
                  refine wk_thenR ?_
                  refine wk_blkR ?_
                  refine wk_thenR ?_
                  exact wk_ret1 (x := false) rfl (by decide) rfl so h
                · refine wc_skip ?_
                  exact wk_prune [(2, .slice a2.a a2.n a2.c), (3, .slice a3.a a3.n a3.c), (9, .pointer x5), (10, .pointer x8), (11, .pointer x14), (12, .pointer x17), (13, .int .i64 s21)] ⟨rfl, rfl, rfl, rfl, rfl, rfl, rfl, trivial⟩ (fun f1 => hJ31 () _ f1 h so)
              · refine wc_skip ?_
                exact wk_prune [(2, .slice a2.a a2.n a2.c), (3, .slice a3.a a3.n a3.c), (9, .pointer x5), (10, .pointer x8), (11, .pointer x14), (12, .pointer x17), (13, .int .i64 s21)] ⟨rfl, rfl, rfl, rfl, rfl, rfl, rfl, trivial⟩ (fun f1 => hJ31 () _ f1 h so)
        · refine wc_exit ?_
          refine wk_thenE ?_
          refine wk_thenE ?_
          refine wk_blkE ?_
          refine wk_prune [(9, .pointer x5), (10, .pointer x8), (11, .pointer x14), (12, .pointer x17)] ⟨rfl, rfl, rfl, rfl, trivial⟩ (fun f1 => ?_)
          refine wk_then ?_
          refine wc_seq ?_
          refine wc_region ?_
          refine wl_val (at_move rfl) rfl ?_
          refine wl_val (at_move rfl) rfl ?_
          refine wl_callF (mosaiclaw01_rest.calls _ _ _ _ h) enter18 rfl trivial so ?_; intro x54 w55 h so
          refine wl_val (at_move rfl) rfl ?_
          refine bif_ h (fun hb h => ?_) (fun hb h => ?_)
          · refine wl_set (t := 91) (v := .bool true) (congrArg Value.bool hb) ?_; clear hb
            refine wl_on (t := 91) rfl (by decide) rfl ?_
            refine wl_val (at_move rfl) rfl ?_
            refine wl_on (t := 91) rfl (by decide) rfl ?_
            refine wl_val (at_move rfl) rfl ?_
            refine wl_on (t := 91) rfl (by decide) rfl ?_
            refine wl_callF (mosaiclaw01_rest.calls _ _ _ _ h) enter18 rfl trivial so ?_; intro x56 w57 h so
            refine wl_val (at_pick_t rfl rfl) rfl ?_
            refine wl_val (at_assign rfl) rfl ?_
            refine wl_nil ?_
            refine wk_prune [(8, .bool x56)] ⟨rfl, trivial⟩ (fun f1 => ?_)
            refine wk_then ?_
            refine wc_ret ?_
            exact wk_ret1 (x := x56) rfl (by decide) rfl so h
          · refine wl_set (t := 91) (v := .bool false) (congrArg Value.bool hb) ?_; clear hb
            refine wl_off (t := 91) rfl (by decide) rfl ?_
            refine wl_off (t := 91) rfl (by decide) rfl ?_
            refine wl_off (t := 91) rfl (by decide) rfl ?_
            refine wl_val (at_pick_f rfl rfl) rfl ?_
            refine wl_val (at_assign rfl) rfl ?_
            refine wl_nil ?_
            refine wk_prune [(8, .bool false)] ⟨rfl, trivial⟩ (fun f1 => ?_)
            refine wk_then ?_
            refine wc_ret ?_
            exact wk_ret1 (x := false) rfl (by decide) rfl so h
      · intro J25 h hJ25
        refine wc_region ?_
        refine wl_val (at_move rfl) rfl ?_
        refine wl_val (at_move rfl) rfl ?_
        refine wl_val (at_lenL Try.underlying22 rfl) rfl ?_
        refine wl_val (at_lss rfl rfl) rfl ?_
        refine wl_val (at_move rfl) rfl ?_
        refine bif_ h (fun hb h => ?_) (fun hb h => ?_)
        · refine wl_set (t := 54) (v := .bool true) (congrArg Value.bool hb) ?_; clear hb
          refine wl_off (t := 54) rfl (by decide) rfl ?_
          refine wl_off (t := 54) rfl (by decide) rfl ?_
          refine wl_off (t := 54) rfl (by decide) rfl ?_
          refine wl_off (t := 54) rfl (by decide) rfl ?_
          refine wl_val (at_pick_t rfl rfl) rfl ?_
          refine wl_nil ?_
          exact wk_prune [(2, .slice a2.a a2.n a2.c), (3, .slice a3.a a3.n a3.c), (9, .pointer x5), (10, .pointer x8), (11, .pointer x14), (12, .pointer x17), (13, .int .i64 s21), (59, .bool true)] ⟨rfl, rfl, rfl, rfl, rfl, rfl, rfl, rfl, trivial⟩ (fun f1 => hJ25 (true) _ f1 h so)
        · refine wl_set (t := 54) (v := .bool false) (congrArg Value.bool hb) ?_; clear hb
          refine wl_on (t := 54) rfl (by decide) rfl ?_
          refine wl_val (at_move rfl) rfl ?_
          refine wl_on (t := 54) rfl (by decide) rfl ?_
          refine wl_val (at_move rfl) rfl ?_
          refine wl_on (t := 54) rfl (by decide) rfl ?_
          refine wl_val (at_lenL Try.underlying22 rfl) rfl ?_
          refine wl_on (t := 54) rfl (by decide) rfl ?_
          refine wl_val (at_lss rfl rfl) rfl ?_
          refine wl_val (at_pick_f rfl rfl) rfl ?_
          refine wl_nil ?_
          exact wk_prune [(2, .slice a2.a a2.n a2.c), (3, .slice a3.a a3.n a3.c), (9, .pointer x5), (10, .pointer x8), (11, .pointer x14), (12, .pointer x17), (13, .int .i64 s21), (59, .bool (decide (s21 < (a3.n : Int))))] ⟨rfl, rfl, rfl, rfl, rfl, rfl, rfl, rfl, trivial⟩ (fun f1 => hJ25 ((decide (s21 < (a3.n : Int)))) _ f1 h so)
  · intro J11 h hJ11
    refine wc_region ?_
    refine wl_val (at_move rfl) rfl ?_
    refine wl_val (at_eqlP Try.underlying35 rfl rfl) rfl ?_
    refine wl_val (at_move rfl) rfl ?_
    refine bif_ h (fun hb h => ?_) (fun hb h => ?_)
    · refine wl_set (t := 32) (v := .bool true) (congrArg Value.bool hb) ?_; clear hb
      refine wl_off (t := 32) rfl (by decide) rfl ?_
      refine wl_off (t := 32) rfl (by decide) rfl ?_
      refine wl_val (at_pick_t rfl rfl) rfl ?_
      refine wl_nil ?_
      exact wk_prune [(2, .slice a2.a a2.n a2.c), (3, .slice a3.a a3.n a3.c), (4, .pointer (some (⟨b1, 0, none⟩ : Addr))), (5, .pointer (some (⟨b3, 0, none⟩ : Addr))), (9, .pointer x5), (10, .pointer x8), (35, .bool true)] ⟨rfl, rfl, rfl, rfl, rfl, rfl, rfl, trivial⟩ (fun f1 => hJ11 (true) _ f1 h ⟨t_b1, t_b3, trivial⟩ so)
    · refine wl_set (t := 32) (v := .bool false) (congrArg Value.bool hb) ?_; clear hb
      refine wl_on (t := 32) rfl (by decide) rfl ?_
      refine wl_val (at_move rfl) rfl ?_
      refine wl_on (t := 32) rfl (by decide) rfl ?_
      refine wl_val (at_eqlP Try.underlying35 rfl rfl) rfl ?_
      refine wl_val (at_pick_f rfl rfl) rfl ?_
      refine wl_nil ?_
      exact wk_prune [(2, .slice a2.a a2.n a2.c), (3, .slice a3.a a3.n a3.c), (4, .pointer (some (⟨b1, 0, none⟩ : Addr))), (5, .pointer (some (⟨b3, 0, none⟩ : Addr))), (9, .pointer x5), (10, .pointer x8), (35, .bool x8.isNone)] ⟨rfl, rfl, rfl, rfl, rfl, rfl, rfl, trivial⟩ (fun f1 => hJ11 (x8.isNone) _ f1 h ⟨t_b1, t_b3, trivial⟩ so)
end Go.Proofs.Ytcjmcmkohfaleaa.G
