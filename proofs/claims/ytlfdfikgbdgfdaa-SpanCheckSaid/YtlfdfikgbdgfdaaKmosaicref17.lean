import Derived.Test.YtlfdfikgbdgfdaaGF
import Derived.Test.YtlfdfikgbdgfdaaKmosaicref14
namespace Go.Proofs.Ytlfdfikgbdgfdaa.G
open Go.RowKit
set_option linter.unusedVariables false
set_option linter.unusedSimpArgs false
/-- mosaic/mosaicref17.table -/
def mosaicref17_table.enc : Int → Value := fun r => .int .i64 r
def mosaicref17_table.s (a0_0 : Ints 16) (a0_1 : Sl) (H0 : Hp) (Q : Int → Hp → Prop) : Prop :=
  Gn [] H0 (fun (b1 : Nat) (H2 : Hp) => ∃ k3, Fix (fun (rec8 : (Int × Int × Int × Int) → Hp → Prop) (s5 : Int × Int × Int × Int) (H6 : Hp) => if decide (s5.2.2.2 < 16) = true then (0 ≤ s5.2.2.2 ∧ s5.2.2.2 < (16 : Int) ∧ (Lt ((IntKind.wrap .i64 (s5.1 + (IntKind.wrap .i64 (ixI a0_0 s5.2.2.2)))) : Int) (fun x11 => 0 ≤ s5.2.2.2 ∧ s5.2.2.2 < (16 : Int) ∧ (Lt ((IntKind.wrap .i64 (s5.2.1 + (IntKind.wrap .i64 ((IntKind.wrap .i64 (ixI a0_0 s5.2.2.2)) * s5.2.2.1)))) : Int) (fun x15 => rec8 (x11, x15, (IntKind.wrap .i64 (Int.tdiv s5.2.2.1 2)), (IntKind.wrap .i64 (s5.2.2.2 + 1))) H6))))) else (Join (fun (s18 : Bool) (H19 : Hp) => if s18 = true then (Q 40 H19) else (if decide ((65535 : Int) < s5.2.1) = true then (Q 41 H19) else (∃ k20, Fix (fun (rec25 : Int → Hp → Prop) (s22 : Int) (H23 : Hp) => if decide (s22 < s5.1) = true then (∃ k26, Fix (fun (rec31 : Int → Hp → Prop) (s28 : Int) (H29 : Hp) => if decide (s28 < s22) = true then (0 ≤ s22 ∧ s22 < (a0_1.n : Int) ∧ someA a0_1.a (fun p34 => ldI .u8 H29 (p34.add (Int.toNat s22 * 1)) (fun x36 => 0 ≤ s28 ∧ s28 < (a0_1.n : Int) ∧ (ldI .u8 H29 (p34.add (Int.toNat s28 * 1)) (fun x40 => if (x36 == x40) = true then (Q 42 H29) else (rec31 ((IntKind.wrap .i64 (s28 + 1))) H29)))))) else (rec25 ((IntKind.wrap .i64 (s22 + 1))) H29)) k26 (0) H23) else (Q 0 H23)) k20 (0) H19))) (fun (J17 : Bool → Hp → Prop) => if (s5.1 == 0) = true then (J17 (true) H6) else (if decide ((256 : Int) < s5.1) = true then (J17 (true) H6) else (J17 ((s5.1 != (a0_1.n : Int))) H6))))) k3 (0, 0, 32768, 0) H2)
set_option maxRecDepth 20000 in
set_option maxHeartbeats 4000000 in
theorem mosaicref17_table.calls (a0_0 : Ints 16) (a0_1 : Sl) (w0 : World) (Q : Int → Hp → Prop) (h : mosaicref17_table.s a0_0 a0_1 w0.heap Q) :
    Ca Try.prog 21 #[.agg (c29 a0_0 a0_1).toArray] w0 (Rt mosaicref17_table.enc Q w0) := by
  refine ca_start (c := _) Try.func21 rfl Try.ntmps21 rfl ?_
  have so : Sm w0 w0 := Sm.refl w0
  unfold mosaicref17_table.s at h
  refine wc_prune [(0, .agg (c29 a0_0 a0_1).toArray)] ⟨rfl, trivial⟩ (fun f1 => ?_)
  refine wc_seq ?_
  refine wc_region ?_
  refine wl_newT (T := 29) (cs := (c29 a0_0 a0_1)) (ef_box rfl rfl) rfl so ?_; intro b1 w2 hb_b1 t_b1 k_b1 so
  have g_b1 := Nat.le_of_eq hb_b1.symm
  have hc := k_b1.ch (F := [])
  refine wl_val (at_assign rfl) rfl ?_
  refine wl_nil ?_
  refine wk_prune [(1, .pointer (some (⟨b1, 0, none⟩ : Addr)))] ⟨rfl, trivial⟩ (fun f1 => ?_)
  refine wk_then ?_
  refine wc_seq ?_
  refine wc_region ?_
  refine wl_val (at_assign rfl) rfl ?_
  refine wl_nil ?_
  refine wk_prune [(1, .pointer (some (⟨b1, 0, none⟩ : Addr))), (3, .int .i64 0)] ⟨rfl, rfl, trivial⟩ (fun f1 => ?_)
  refine wk_then ?_
  refine wc_seq ?_
  refine wc_region ?_
  refine wl_val (at_assign rfl) rfl ?_
  refine wl_nil ?_
  refine wk_prune [(1, .pointer (some (⟨b1, 0, none⟩ : Addr))), (3, .int .i64 0), (4, .int .i64 0)] ⟨rfl, rfl, rfl, trivial⟩ (fun f1 => ?_)
  refine wk_then ?_
  refine wc_seq ?_
  refine wc_region ?_
  refine wl_val (at_assign rfl) rfl ?_
  refine wl_nil ?_
  refine wk_prune [(1, .pointer (some (⟨b1, 0, none⟩ : Addr))), (3, .int .i64 0), (4, .int .i64 0), (5, .int .i64 32768)] ⟨rfl, rfl, rfl, rfl, trivial⟩ (fun f1 => ?_)
  refine wk_then ?_
  refine wc_seq ?_
  refine wc_seq ?_
  refine wc_region ?_
  refine wl_val (at_assign rfl) rfl ?_
  refine wl_nil ?_
  refine wk_prune [(1, .pointer (some (⟨b1, 0, none⟩ : Addr))), (3, .int .i64 0), (4, .int .i64 0), (5, .int .i64 32768), (6, .int .i64 0)] ⟨rfl, rfl, rfl, rfl, rfl, trivial⟩ (fun f1 => ?_)
  refine wk_then ?_
  refine wc_block ?_
  replace h := h b1 _ hc g_b1 t_b1.lt; clear hc
  obtain ⟨k3, h⟩ := h
  refine wc_loop (fun k a w => ∃ (s5 : Int × Int × Int × Int) (f1 : Nat → Value), a = ac 67 (en f1 [(1, .pointer (some (⟨b1, 0, none⟩ : Addr))), (3, .int .i64 s5.1), (4, .int .i64 s5.2.1), (5, .int .i64 s5.2.2.1), (6, .int .i64 s5.2.2.2)]) [] ∧ Sm w0 w ∧ (Bk w.heap b1 29 (c29 a0_0 a0_1) ∧ True) ∧ Fix _ k s5 w.heap) k3 ⟨(0, 0, 32768, 0), _, ac_again ⟨rfl, rfl, rfl, rfl, rfl, trivial⟩, so, ⟨t_b1, trivial⟩, h⟩ ?_
  rintro k4 a7 w6 ⟨s5, f1, rfl, so, ⟨t_b1, _⟩, h⟩
  rcases k4 with _ | k4
  · exact h.elim
  replace h := Fix.un h; refine wc_in ?_
  refine wc_seq ?_
  refine wc_seq ?_
  refine wc_region ?_
  refine wl_val (at_move rfl) rfl ?_
  refine wl_val (at_lss rfl rfl) rfl ?_
  refine wl_nil ?_
  refine wk_prune [(1, .pointer (some (⟨b1, 0, none⟩ : Addr))), (3, .int .i64 s5.1), (4, .int .i64 s5.2.1), (5, .int .i64 s5.2.2.1), (6, .int .i64 s5.2.2.2), (10, .bool (decide (s5.2.2.2 < 16)))] ⟨rfl, rfl, rfl, rfl, rfl, rfl, trivial⟩ (fun f1 => ?_)
  refine wk_then ?_
  refine wc_cond rfl h (fun h => ?_) (fun h => ?_)
  · refine wc_skip ?_
    refine wk_prune [(1, .pointer (some (⟨b1, 0, none⟩ : Addr))), (3, .int .i64 s5.1), (4, .int .i64 s5.2.1), (5, .int .i64 s5.2.2.1), (6, .int .i64 s5.2.2.2)] ⟨rfl, rfl, rfl, rfl, rfl, trivial⟩ (fun f1 => ?_)
    refine wk_then ?_
    refine wc_seq ?_
    refine wc_block ?_
    refine wc_seq ?_
    refine wc_region ?_
    refine wl_val (at_move rfl) rfl ?_
    refine wl_val (at_move rfl) rfl ?_
    refine wl_val (at_fieldAddr Try.underlying29 rfl rfl sz26 (by decide) rfl) rfl ?_
    obtain ⟨q9, q10, h⟩ := h
    refine wl_val (at_ixAddrA Try.underlying26 sz5 rfl rfl q9 q10) rfl ?_
    refine wl_val (at_load (v := .int .u8 (ixI a0_0 s5.2.2.2)) Try.underlying5 rfl rfl (ixT (pre := []) (l := a0_0) (post := ([.slice a0_1.a a0_1.n a0_1.c])) (by first | exact t_b1 | (have q := t_b1; simp only [List.append_assoc, List.cons_append, List.nil_append, List.append_nil] at q ⊢; exact q)) (by first | rfl | simp [ints_len, bools_len]) q9 q10)) rfl ?_
    refine wl_val (at_conv Try.underlying5 Try.underlying3 rfl) rfl ?_
    refine wl_val (at_add rfl rfl) rfl ?_
    refine wl_val (at_assign rfl) rfl ?_
    obtain ⟨x11, e12⟩ : ∃ x : Int, x = (IntKind.wrap .i64 (s5.1 + (IntKind.wrap .i64 (ixI a0_0 s5.2.2.2)))) := ⟨_, rfl⟩; replace h := h x11 e12
    refine wl_set (t := 3) (v := .int .i64 x11) (congrArg (Value.int .i64) e12.symm) ?_
    refine wl_nil ?_
    refine wk_prune [(1, .pointer (some (⟨b1, 0, none⟩ : Addr))), (3, .int .i64 x11), (4, .int .i64 s5.2.1), (5, .int .i64 s5.2.2.1), (6, .int .i64 s5.2.2.2)] ⟨rfl, rfl, rfl, rfl, rfl, trivial⟩ (fun f1 => ?_)
    refine wk_then ?_
    refine wc_seq ?_
    refine wc_region ?_
    refine wl_val (at_move rfl) rfl ?_
    refine wl_val (at_move rfl) rfl ?_
    refine wl_val (at_fieldAddr Try.underlying29 rfl rfl sz26 (by decide) rfl) rfl ?_
    obtain ⟨q13, q14, h⟩ := h
    refine wl_val (at_ixAddrA Try.underlying26 sz5 rfl rfl q13 q14) rfl ?_
    refine wl_val (at_load (v := .int .u8 (ixI a0_0 s5.2.2.2)) Try.underlying5 rfl rfl (ixT (pre := []) (l := a0_0) (post := ([.slice a0_1.a a0_1.n a0_1.c])) (by first | exact t_b1 | (have q := t_b1; simp only [List.append_assoc, List.cons_append, List.nil_append, List.append_nil] at q ⊢; exact q)) (by first | rfl | simp [ints_len, bools_len]) q13 q14)) rfl ?_
    refine wl_val (at_conv Try.underlying5 Try.underlying3 rfl) rfl ?_
    refine wl_val (at_move rfl) rfl ?_
    refine wl_val (at_mul rfl rfl) rfl ?_
    refine wl_val (at_add rfl rfl) rfl ?_
    refine wl_val (at_assign rfl) rfl ?_
    obtain ⟨x15, e16⟩ : ∃ x : Int, x = (IntKind.wrap .i64 (s5.2.1 + (IntKind.wrap .i64 ((IntKind.wrap .i64 (ixI a0_0 s5.2.2.2)) * s5.2.2.1)))) := ⟨_, rfl⟩; replace h := h x15 e16
    refine wl_set (t := 4) (v := .int .i64 x15) (congrArg (Value.int .i64) e16.symm) ?_
    refine wl_nil ?_
    refine wk_prune [(1, .pointer (some (⟨b1, 0, none⟩ : Addr))), (3, .int .i64 x11), (4, .int .i64 x15), (5, .int .i64 s5.2.2.1), (6, .int .i64 s5.2.2.2)] ⟨rfl, rfl, rfl, rfl, rfl, trivial⟩ (fun f1 => ?_)
    refine wk_then ?_
    refine wc_region ?_
    refine wl_val (at_move rfl) rfl ?_
    refine wl_val (at_quo rfl rfl (by decide)) rfl ?_
    refine wl_val (at_assign rfl) rfl ?_
    refine wl_nil ?_
    refine wk_blkN ?_
    refine wk_prune [(1, .pointer (some (⟨b1, 0, none⟩ : Addr))), (3, .int .i64 x11), (4, .int .i64 x15), (5, .int .i64 (IntKind.wrap .i64 (Int.tdiv s5.2.2.1 2))), (6, .int .i64 s5.2.2.2)] ⟨rfl, rfl, rfl, rfl, rfl, trivial⟩ (fun f1 => ?_)
    refine wk_then ?_
    refine wc_region ?_
    refine wl_val (at_move rfl) rfl ?_
    refine wl_val (at_add rfl rfl) rfl ?_
    refine wl_val (at_assign rfl) rfl ?_
    refine wl_nil ?_
    exact wk_again ⟨(x11, x15, (IntKind.wrap .i64 (Int.tdiv s5.2.2.1 2)), (IntKind.wrap .i64 (s5.2.2.2 + 1))), _, ac_again ⟨rfl, rfl, rfl, rfl, rfl, trivial⟩, so, ⟨t_b1, trivial⟩, h⟩
  · refine wc_exit ?_
    refine wk_thenE ?_
    refine wk_thenE ?_
    refine wk_blkE ?_
    refine wk_prune [(1, .pointer (some (⟨b1, 0, none⟩ : Addr))), (3, .int .i64 s5.1), (4, .int .i64 s5.2.1)] ⟨rfl, rfl, rfl, trivial⟩ (fun f1 => ?_)
    refine wk_then ?_
    refine wc_seq ?_
    refine wc_seq ?_
    refine wc_joinG (w0 := w0) (fun (H : Hp) => Bk H b1 29 (c29 a0_0 a0_1) ∧ True) (fun (s18 : Bool) => [(1, .pointer (some (⟨b1, 0, none⟩ : Addr))), (3, .int .i64 s5.1), (4, .int .i64 s5.2.1), (43, .bool s18)]) (fun (s18 : Bool) => []) h ?_ ?_
    · rintro s18 w19 f1 h ⟨t_b1, _⟩ so; refine wk_then ?_
      refine wc_cond rfl h (fun h => ?_) (fun h => ?_)
      · refine wc_seq ?_
        refine wc_region ?_
        refine wl_val (at_assign rfl) rfl ?_
        refine wl_nil ?_
        refine wk_prune [(2, .int .i64 40)] ⟨rfl, trivial⟩ (fun f1 => ?_)
        refine wk_then ?_
        refine wc_ret ?_
        refine wk_thenR ?_
        exact wk_ret1 (x := 40) rfl (by decide) rfl so h
      · refine wc_skip ?_
        refine wk_prune [(1, .pointer (some (⟨b1, 0, none⟩ : Addr))), (3, .int .i64 s5.1), (4, .int .i64 s5.2.1)] ⟨rfl, rfl, rfl, trivial⟩ (fun f1 => ?_)
        refine wk_then ?_
        refine wc_seq ?_
        refine wc_seq ?_
        refine wc_region ?_
        refine wl_val (at_move rfl) rfl ?_
        refine wl_val (at_gtr rfl rfl) rfl ?_
        refine wl_nil ?_
        refine wk_prune [(1, .pointer (some (⟨b1, 0, none⟩ : Addr))), (3, .int .i64 s5.1), (45, .bool (decide ((65535 : Int) < s5.2.1)))] ⟨rfl, rfl, rfl, trivial⟩ (fun f1 => ?_)
        refine wk_then ?_
        refine wc_cond rfl h (fun h => ?_) (fun h => ?_)
        · refine wc_seq ?_
          refine wc_region ?_
          refine wl_val (at_assign rfl) rfl ?_
          refine wl_nil ?_
          refine wk_prune [(2, .int .i64 41)] ⟨rfl, trivial⟩ (fun f1 => ?_)
          refine wk_then ?_
          refine wc_ret ?_
          refine wk_thenR ?_
          exact wk_ret1 (x := 41) rfl (by decide) rfl so h
        · refine wc_skip ?_
          refine wk_prune [(1, .pointer (some (⟨b1, 0, none⟩ : Addr))), (3, .int .i64 s5.1)] ⟨rfl, rfl, trivial⟩ (fun f1 => ?_)
          refine wk_then ?_
          refine wc_seq ?_
          refine wc_seq ?_
          refine wc_region ?_
          refine wl_val (at_assign rfl) rfl ?_
          refine wl_nil ?_
          refine wk_prune [(1, .pointer (some (⟨b1, 0, none⟩ : Addr))), (3, .int .i64 s5.1), (7, .int .i64 0)] ⟨rfl, rfl, rfl, trivial⟩ (fun f1 => ?_)
          refine wk_then ?_
          refine wc_block ?_
          obtain ⟨k20, h⟩ := h
          refine wc_loop (fun k a w => ∃ (s22 : Int) (f1 : Nat → Value), a = ac 67 (en f1 [(1, .pointer (some (⟨b1, 0, none⟩ : Addr))), (3, .int .i64 s5.1), (7, .int .i64 s22)]) [] ∧ Sm w0 w ∧ (Bk w.heap b1 29 (c29 a0_0 a0_1) ∧ True) ∧ Fix _ k s22 w.heap) k20 ⟨(0), _, ac_again ⟨rfl, rfl, rfl, trivial⟩, so, ⟨t_b1, trivial⟩, h⟩ ?_
          rintro k21 a24 w23 ⟨s22, f1, rfl, so, ⟨t_b1, _⟩, h⟩
          rcases k21 with _ | k21
          · exact h.elim
          replace h := Fix.un h; refine wc_in ?_
          refine wc_seq ?_
          refine wc_seq ?_
          refine wc_region ?_
          refine wl_val (at_move rfl) rfl ?_
          refine wl_val (at_move rfl) rfl ?_
          refine wl_val (at_lss rfl rfl) rfl ?_
          refine wl_nil ?_
          refine wk_prune [(1, .pointer (some (⟨b1, 0, none⟩ : Addr))), (3, .int .i64 s5.1), (7, .int .i64 s22), (48, .bool (decide (s22 < s5.1)))] ⟨rfl, rfl, rfl, rfl, trivial⟩ (fun f1 => ?_)
          refine wk_then ?_
          refine wc_cond rfl h (fun h => ?_) (fun h => ?_)
          · refine wc_skip ?_
            refine wk_prune [(1, .pointer (some (⟨b1, 0, none⟩ : Addr))), (3, .int .i64 s5.1), (7, .int .i64 s22)] ⟨rfl, rfl, rfl, trivial⟩ (fun f1 => ?_)
            refine wk_then ?_
            refine wc_seq ?_
            refine wc_block ?_
            refine wc_seq ?_
            refine wc_region ?_
            refine wl_val (at_assign rfl) rfl ?_
            refine wl_nil ?_
            refine wk_prune [(1, .pointer (some (⟨b1, 0, none⟩ : Addr))), (3, .int .i64 s5.1), (7, .int .i64 s22), (8, .int .i64 0)] ⟨rfl, rfl, rfl, rfl, trivial⟩ (fun f1 => ?_)
            refine wk_then ?_
            refine wc_block ?_
            obtain ⟨k26, h⟩ := h
            refine wc_loop (fun k a w => ∃ (s28 : Int) (f1 : Nat → Value), a = ac 67 (en f1 [(1, .pointer (some (⟨b1, 0, none⟩ : Addr))), (3, .int .i64 s5.1), (7, .int .i64 s22), (8, .int .i64 s28)]) [] ∧ Sm w0 w ∧ (Bk w.heap b1 29 (c29 a0_0 a0_1) ∧ True) ∧ Fix _ k s28 w.heap) k26 ⟨(0), _, ac_again ⟨rfl, rfl, rfl, rfl, trivial⟩, so, ⟨t_b1, trivial⟩, h⟩ ?_
            rintro k27 a30 w29 ⟨s28, f1, rfl, so, ⟨t_b1, _⟩, h⟩
            rcases k27 with _ | k27
            · exact h.elim
            replace h := Fix.un h; refine wc_in ?_
            refine wc_seq ?_
            refine wc_seq ?_
            refine wc_region ?_
            refine wl_val (at_move rfl) rfl ?_
            refine wl_val (at_move rfl) rfl ?_
            refine wl_val (at_lss rfl rfl) rfl ?_
            refine wl_nil ?_
            refine wk_prune [(1, .pointer (some (⟨b1, 0, none⟩ : Addr))), (3, .int .i64 s5.1), (7, .int .i64 s22), (8, .int .i64 s28), (53, .bool (decide (s28 < s22)))] ⟨rfl, rfl, rfl, rfl, rfl, trivial⟩ (fun f1 => ?_)
            refine wk_then ?_
            refine wc_cond rfl h (fun h => ?_) (fun h => ?_)
            · refine wc_skip ?_
              refine wk_prune [(1, .pointer (some (⟨b1, 0, none⟩ : Addr))), (3, .int .i64 s5.1), (7, .int .i64 s22), (8, .int .i64 s28)] ⟨rfl, rfl, rfl, rfl, trivial⟩ (fun f1 => ?_)
              refine wk_then ?_
              refine wc_seq ?_
              refine wc_block ?_
              refine wc_seq ?_
              refine wc_draw mixed (by kernel_rfl) so ?_
              refine wq_val (at_fieldAddr Try.underlying29 rfl rfl sz27 (by decide) rfl) rfl ?_
              refine wq_val (at_load (v := .slice a0_1.a a0_1.n a0_1.c) Try.underlying27 rfl rfl ((t_b1.cell 16).trans (by first | rfl | simp [List.getElem?_append, ints_len, bools_len]))) rfl ?_
              refine wq_val (at_move rfl) rfl ?_
              obtain ⟨q32, q33, p34, q35, h⟩ := h
              refine wq_val (at_ixAddrL Try.underlying27 sz5 (sl_some q35) rfl q32 q33) rfl ?_
              obtain ⟨x36, q37, h⟩ := h
              refine wq_val (at_load Try.underlying5 rfl rfl q37) rfl ?_
              refine wq_val (at_fieldAddr Try.underlying29 rfl rfl sz27 (by decide) rfl) rfl ?_
              refine wq_val (at_load (v := .slice a0_1.a a0_1.n a0_1.c) Try.underlying27 rfl rfl ((t_b1.cell 16).trans (by first | rfl | simp [List.getElem?_append, ints_len, bools_len]))) rfl ?_
              refine wq_val (at_move rfl) rfl ?_
              obtain ⟨q38, q39, h⟩ := h
              refine wq_val (at_ixAddrL Try.underlying27 sz5 (sl_some q35) rfl q38 q39) rfl ?_
              obtain ⟨x40, q41, h⟩ := h
              refine wq_val (at_load Try.underlying5 rfl rfl q41) rfl ?_
              refine wq_val (at_eql rfl rfl) rfl ?_
              refine wq_nil ?_; intro w42 hw so; rw [← hw] at h t_b1; clear hw
              refine wk_prune [(1, .pointer (some (⟨b1, 0, none⟩ : Addr))), (3, .int .i64 s5.1), (7, .int .i64 s22), (8, .int .i64 s28), (66, .bool (x36 == x40))] ⟨rfl, rfl, rfl, rfl, rfl, trivial⟩ (fun f1 => ?_)
              refine wk_then ?_
              refine wc_cond rfl h (fun h => ?_) (fun h => ?_)
              · refine wc_seq ?_
                refine wc_region ?_
                refine wl_val (at_assign rfl) rfl ?_
                refine wl_nil ?_
                refine wk_prune [(2, .int .i64 42)] ⟨rfl, trivial⟩ (fun f1 => ?_)
                refine wk_then ?_
                refine wc_ret ?_
                refine wk_blkR ?_
                refine wk_thenR ?_
                refine wk_thenR ?_
                refine wk_blkR ?_
                refine wk_blkR ?_
                refine wk_thenR ?_
                refine wk_thenR ?_
                refine wk_blkR ?_
                refine wk_thenR ?_
                exact wk_ret1 (x := 42) rfl (by decide) rfl so h
              · refine wc_skip ?_
                refine wk_blkN ?_
                refine wk_prune [(1, .pointer (some (⟨b1, 0, none⟩ : Addr))), (3, .int .i64 s5.1), (7, .int .i64 s22), (8, .int .i64 s28)] ⟨rfl, rfl, rfl, rfl, trivial⟩ (fun f1 => ?_)
                refine wk_then ?_
                refine wc_region ?_
                refine wl_val (at_move rfl) rfl ?_
                refine wl_val (at_add rfl rfl) rfl ?_
                refine wl_val (at_assign rfl) rfl ?_
                refine wl_nil ?_
                exact wk_again ⟨((IntKind.wrap .i64 (s28 + 1))), _, ac_again ⟨rfl, rfl, rfl, rfl, trivial⟩, so, ⟨t_b1, trivial⟩, h⟩
            · refine wc_exit ?_
              refine wk_thenE ?_
              refine wk_thenE ?_
              refine wk_blkE ?_
              refine wk_blkN ?_
              refine wk_prune [(1, .pointer (some (⟨b1, 0, none⟩ : Addr))), (3, .int .i64 s5.1), (7, .int .i64 s22)] ⟨rfl, rfl, rfl, trivial⟩ (fun f1 => ?_)
              refine wk_then ?_
              refine wc_region ?_
              refine wl_val (at_move rfl) rfl ?_
              refine wl_val (at_add rfl rfl) rfl ?_
              refine wl_val (at_assign rfl) rfl ?_
              refine wl_nil ?_
              exact wk_again ⟨((IntKind.wrap .i64 (s22 + 1))), _, ac_again ⟨rfl, rfl, rfl, trivial⟩, so, ⟨t_b1, trivial⟩, h⟩
          · refine wc_exit ?_
            refine wk_thenE ?_
            refine wk_thenE ?_
            refine wk_blkE ?_
            refine wk_prune [] trivial (fun f1 => ?_)
            refine wk_then ?_
            refine wc_seq ?_
            refine wc_region ?_
            refine wl_val (at_assign rfl) rfl ?_
            refine wl_nil ?_
            refine wk_prune [(2, .int .i64 0)] ⟨rfl, trivial⟩ (fun f1 => ?_)
            refine wk_then ?_
            refine wc_ret ?_
            exact wk_ret1 (x := 0) rfl (by decide) rfl so h
    · intro J17 h hJ17
      refine wc_region ?_
      refine wl_val (at_move rfl) rfl ?_
      refine wl_val (at_eql rfl rfl) rfl ?_
      refine wl_val (at_move rfl) rfl ?_
      refine bif_ h (fun hb h => ?_) (fun hb h => ?_)
      · refine wl_set (t := 33) (v := .bool true) (congrArg Value.bool hb) ?_; clear hb
        refine wl_off (t := 33) rfl (by decide) rfl ?_
        refine wl_off (t := 33) rfl (by decide) rfl ?_
        refine wl_val (at_pick_t rfl rfl) rfl ?_
        refine wl_val (at_move rfl) rfl ?_
        refine wl_off (t := 37) rfl (by decide) rfl ?_
        refine wl_off (t := 37) rfl (by decide) rfl ?_
        refine wl_off (t := 37) rfl (by decide) rfl ?_
        refine wl_off (t := 37) rfl (by decide) rfl ?_
        refine wl_off (t := 37) rfl (by decide) rfl ?_
        refine wl_val (at_pick_t rfl rfl) rfl ?_
        refine wl_nil ?_
        exact wk_prune [(1, .pointer (some (⟨b1, 0, none⟩ : Addr))), (3, .int .i64 s5.1), (4, .int .i64 s5.2.1), (43, .bool true)] ⟨rfl, rfl, rfl, rfl, trivial⟩ (fun f1 => hJ17 (true) _ f1 h ⟨t_b1, trivial⟩ so)
      · refine wl_set (t := 33) (v := .bool false) (congrArg Value.bool hb) ?_; clear hb
        refine wl_on (t := 33) rfl (by decide) rfl ?_
        refine wl_val (at_move rfl) rfl ?_
        refine wl_on (t := 33) rfl (by decide) rfl ?_
        refine wl_val (at_gtr rfl rfl) rfl ?_
        refine wl_val (at_pick_f rfl rfl) rfl ?_
        refine wl_val (at_move rfl) rfl ?_
        refine bif_ h (fun hb h => ?_) (fun hb h => ?_)
        · refine wl_set (t := 37) (v := .bool true) (congrArg Value.bool hb) ?_; clear hb
          refine wl_off (t := 37) rfl (by decide) rfl ?_
          refine wl_off (t := 37) rfl (by decide) rfl ?_
          refine wl_off (t := 37) rfl (by decide) rfl ?_
          refine wl_off (t := 37) rfl (by decide) rfl ?_
          refine wl_off (t := 37) rfl (by decide) rfl ?_
          refine wl_val (at_pick_t rfl rfl) rfl ?_
          refine wl_nil ?_
          exact wk_prune [(1, .pointer (some (⟨b1, 0, none⟩ : Addr))), (3, .int .i64 s5.1), (4, .int .i64 s5.2.1), (43, .bool true)] ⟨rfl, rfl, rfl, rfl, trivial⟩ (fun f1 => hJ17 (true) _ f1 h ⟨t_b1, trivial⟩ so)
        · refine wl_set (t := 37) (v := .bool false) (congrArg Value.bool hb) ?_; clear hb
          refine wl_on (t := 37) rfl (by decide) rfl ?_
          refine wl_val (at_move rfl) rfl ?_
          refine wl_on (t := 37) rfl (by decide) rfl ?_
          refine wl_val (at_fieldAddr Try.underlying29 rfl rfl sz27 (by decide) rfl) rfl ?_
          refine wl_on (t := 37) rfl (by decide) rfl ?_
          refine wl_val (at_load (v := .slice a0_1.a a0_1.n a0_1.c) Try.underlying27 rfl rfl ((t_b1.cell 16).trans (by first | rfl | simp [List.getElem?_append, ints_len, bools_len]))) rfl ?_
          refine wl_on (t := 37) rfl (by decide) rfl ?_
          refine wl_val (at_lenL Try.underlying27 rfl) rfl ?_
          refine wl_on (t := 37) rfl (by decide) rfl ?_
          refine wl_val (at_neq rfl rfl) rfl ?_
          refine wl_val (at_pick_f rfl rfl) rfl ?_
          refine wl_nil ?_
          exact wk_prune [(1, .pointer (some (⟨b1, 0, none⟩ : Addr))), (3, .int .i64 s5.1), (4, .int .i64 s5.2.1), (43, .bool (s5.1 != (a0_1.n : Int)))] ⟨rfl, rfl, rfl, rfl, trivial⟩ (fun f1 => hJ17 ((s5.1 != (a0_1.n : Int))) _ f1 h ⟨t_b1, trivial⟩ so)

/-- mosaic/mosaicref17.Check -/
def mosaicref17_Check.enc : Int → Value := fun r => .int .i64 r
def mosaicref17_Check.s (a0_0 : Int) (a0_1 : Int) (a0_2 : Int) (a0_3 : Sl) (a0_4 : Sl) (a0_5 : Ints 16) (a0_6 : Sl) (a0_7 : Ints 16) (a0_8 : Sl) (a0_9 : Ints 16) (a0_10 : Sl) (a0_11 : Ints 16) (a0_12 : Sl) (a0_13 : Ints 16) (a0_14 : Sl) (a0_15 : Ints 16) (a0_16 : Sl) (a0_17 : Ints 16) (a0_18 : Sl) (a0_19 : Ints 16) (a0_20 : Sl) (a0_21 : Int) (a0_22 : Int) (H0 : Hp) (Q : Int → Hp → Prop) : Prop :=
  Gn [] H0 (fun (b1 : Nat) (H2 : Hp) => mosaicref14_Parts.s a0_0 a0_1 a0_2 a0_3 a0_4 H2 (fun x3 H4 => Pv [b1] H2 H4 ∧ (if (x3 != 0) = true then (Q x3 H4) else (Bk H4 b1 32 (c32 a0_0 a0_1 a0_2 a0_3 a0_4 a0_5 a0_6 a0_7 a0_8 a0_9 a0_10 a0_11 a0_12 a0_13 a0_14 a0_15 a0_16 a0_17 a0_18 a0_19 a0_20 a0_21 a0_22) → (∃ k6, Fix (fun (rec11 : Int → Hp → Prop) (s8 : Int) (H9 : Hp) => ldL H9 (⟨b1, 4, none⟩ : Addr) (fun x12 => if decide (s8 < (x12.n : Int)) = true then (ldL H9 (⟨b1, 4, none⟩ : Addr) (fun x14 => 0 ≤ s8 ∧ s8 < (x14.n : Int) ∧ someA x14.a (fun p18 => ldI .u8 H9 ((p18.add (Int.toNat s8 * 3)).add 1) (fun x20 => 0 ≤ x20 ∧ x20 < (4 : Int) ∧ (∃ x24 : Ints 16, ∃ x25 : Sl, ldA H9 ((⟨b1, 5, none⟩ : Addr).add (Int.toNat x20 * 17)) (c29 x24 x25) ∧ (mosaicref17_table.s x24 x25 H9 (fun x27 H28 => if (x27 != 0) = true then (Q x27 H28) else (ldL H28 (⟨b1, 4, none⟩ : Addr) (fun x29 => 0 ≤ s8 ∧ s8 < (x29.n : Int) ∧ someA x29.a (fun p33 => ldI .u8 H28 ((p33.add (Int.toNat s8 * 3)).add 2) (fun x35 => 0 ≤ x35 ∧ x35 < (4 : Int) ∧ (∃ x39 : Ints 16, ∃ x40 : Sl, ldA H28 ((⟨b1, 73, none⟩ : Addr).add (Int.toNat x35 * 17)) (c29 x39 x40) ∧ (mosaicref17_table.s x39 x40 H28 (fun x42 H43 => if (x42 != 0) = true then (Q x42 H43) else (rec11 ((IntKind.wrap .i64 (s8 + 1))) H43))))))))))))))) else (∃ x44 : Int, ∃ x45 : Int, ∃ x46 : Int, ∃ x47 : Sl, ldA H9 (⟨b1, 0, none⟩ : Addr) (c24 x44 x45 x46 x47) ∧ (ldL H9 (⟨b1, 4, none⟩ : Addr) (fun x49 => mosaicref14_Units.s x44 x45 x46 x47 x49 H9 (fun x51 H52 => Join (fun (s54 : Bool) (H55 : Hp) => if s54 = true then (Q 3 H55) else (Q 0 H55)) (fun (J53 : Bool → Hp → Prop) => ldI .i64 H52 (⟨b1, 141, none⟩ : Addr) (fun x56 => if decide (x56 < 0) = true then (J53 (true) H52) else (ldI .i64 H52 (⟨b1, 142, none⟩ : Addr) (fun x58 => if decide (x58 < 0) = true then (J53 (true) H52) else (ldI .i64 H52 (⟨b1, 141, none⟩ : Addr) (fun x60 => if decide ((IntKind.wrap .i64 (x51.1 * x51.2)) < x60) = true then (J53 (true) H52) else (ldI .i64 H52 (⟨b1, 142, none⟩ : Addr) (fun x62 => ldI .i64 H52 (⟨b1, 141, none⟩ : Addr) (fun x64 => J53 ((decide ((IntKind.wrap .i64 ((IntKind.wrap .i64 (x51.1 * x51.2)) - x64)) < x62))) H52))))))))))))))) k6 (0) H4)))))
set_option maxRecDepth 20000 in
set_option maxHeartbeats 4000000 in
theorem mosaicref17_Check.calls (a0_0 : Int) (a0_1 : Int) (a0_2 : Int) (a0_3 : Sl) (a0_4 : Sl) (a0_5 : Ints 16) (a0_6 : Sl) (a0_7 : Ints 16) (a0_8 : Sl) (a0_9 : Ints 16) (a0_10 : Sl) (a0_11 : Ints 16) (a0_12 : Sl) (a0_13 : Ints 16) (a0_14 : Sl) (a0_15 : Ints 16) (a0_16 : Sl) (a0_17 : Ints 16) (a0_18 : Sl) (a0_19 : Ints 16) (a0_20 : Sl) (a0_21 : Int) (a0_22 : Int) (w0 : World) (Q : Int → Hp → Prop) (h : mosaicref17_Check.s a0_0 a0_1 a0_2 a0_3 a0_4 a0_5 a0_6 a0_7 a0_8 a0_9 a0_10 a0_11 a0_12 a0_13 a0_14 a0_15 a0_16 a0_17 a0_18 a0_19 a0_20 a0_21 a0_22 w0.heap Q) :
    Ca Try.prog 10 #[.agg (c32 a0_0 a0_1 a0_2 a0_3 a0_4 a0_5 a0_6 a0_7 a0_8 a0_9 a0_10 a0_11 a0_12 a0_13 a0_14 a0_15 a0_16 a0_17 a0_18 a0_19 a0_20 a0_21 a0_22).toArray] w0 (Rt mosaicref17_Check.enc Q w0) := by
  refine ca_start (c := _) Try.func10 rfl Try.ntmps10 rfl ?_
  have so : Sm w0 w0 := Sm.refl w0
  unfold mosaicref17_Check.s at h
  refine wc_prune [(0, .agg (c32 a0_0 a0_1 a0_2 a0_3 a0_4 a0_5 a0_6 a0_7 a0_8 a0_9 a0_10 a0_11 a0_12 a0_13 a0_14 a0_15 a0_16 a0_17 a0_18 a0_19 a0_20 a0_21 a0_22).toArray)] ⟨rfl, trivial⟩ (fun f1 => ?_)
  refine wc_seq ?_
  refine wc_region ?_
  refine wl_newT (T := 32) (cs := (c32 a0_0 a0_1 a0_2 a0_3 a0_4 a0_5 a0_6 a0_7 a0_8 a0_9 a0_10 a0_11 a0_12 a0_13 a0_14 a0_15 a0_16 a0_17 a0_18 a0_19 a0_20 a0_21 a0_22)) (ef_box rfl rfl) rfl so ?_; intro b1 w2 hb_b1 t_b1 k_b1 so
  have g_b1 := Nat.le_of_eq hb_b1.symm
  have hc := k_b1.ch (F := [])
  refine wl_val (at_assign rfl) rfl ?_
  refine wl_nil ?_
  refine wk_prune [(1, .pointer (some (⟨b1, 0, none⟩ : Addr)))] ⟨rfl, trivial⟩ (fun f1 => ?_)
  refine wk_then ?_
  refine wc_seq ?_
  refine wc_region ?_
  refine wl_val (at_fieldAddr Try.underlying32 rfl rfl sz24 (by decide) rfl) rfl ?_
  refine wl_val (at_loadA (cs := (c24 a0_0 a0_1 a0_2 a0_3)) Try.underlying24 rfl (by rw [len24]; exact sz24) rfl (ldA_sub (pre := []) (sub := (c24 a0_0 a0_1 a0_2 a0_3)) (post := ([.slice a0_4.a a0_4.n a0_4.c] ++ (ints .u8 a0_5.1) ++ [.slice a0_6.a a0_6.n a0_6.c] ++ (ints .u8 a0_7.1) ++ [.slice a0_8.a a0_8.n a0_8.c] ++ (ints .u8 a0_9.1) ++ [.slice a0_10.a a0_10.n a0_10.c] ++ (ints .u8 a0_11.1) ++ [.slice a0_12.a a0_12.n a0_12.c] ++ (ints .u8 a0_13.1) ++ [.slice a0_14.a a0_14.n a0_14.c] ++ (ints .u8 a0_15.1) ++ [.slice a0_16.a a0_16.n a0_16.c] ++ (ints .u8 a0_17.1) ++ [.slice a0_18.a a0_18.n a0_18.c] ++ (ints .u8 a0_19.1) ++ [.slice a0_20.a a0_20.n a0_20.c, .int .i64 a0_21, .int .i64 a0_22])) (by first | exact t_b1 | (have q := t_b1; simp only [List.append_assoc, List.cons_append, List.nil_append, List.append_nil] at q ⊢; exact q)) (by first | rfl | simp [ints_len, bools_len]))) rfl ?_
  refine wl_val (at_fieldAddr Try.underlying32 rfl rfl sz25 (by decide) rfl) rfl ?_
  refine wl_val (at_load (v := .slice a0_4.a a0_4.n a0_4.c) Try.underlying25 rfl rfl ((t_b1.cell 4).trans (by first | rfl | simp [List.getElem?_append, ints_len, bools_len]))) rfl ?_
  replace h := h b1 _ hc g_b1 t_b1.lt; clear hc
  refine wl_callF (mosaicref14_Parts.calls _ _ _ _ _ _ _ h) enter20 rfl trivial so ?_; intro x3 w4 h so
  obtain ⟨q5, h⟩ := h
  replace t_b1 := pv_bk q5 t_b1 (by simp)
  refine wl_val (at_assign rfl) rfl ?_
  refine wl_nil ?_
  refine wk_prune [(1, .pointer (some (⟨b1, 0, none⟩ : Addr))), (3, .int .i64 x3)] ⟨rfl, rfl, trivial⟩ (fun f1 => ?_)
  refine wk_then ?_
  refine wc_seq ?_
  refine wc_seq ?_
  refine wc_region ?_
  refine wl_val (at_move rfl) rfl ?_
  refine wl_val (at_neq rfl rfl) rfl ?_
  refine wl_nil ?_
  refine wk_prune [(1, .pointer (some (⟨b1, 0, none⟩ : Addr))), (3, .int .i64 x3), (13, .bool (x3 != 0))] ⟨rfl, rfl, rfl, trivial⟩ (fun f1 => ?_)
  refine wk_then ?_
  refine wc_cond rfl h (fun h => ?_) (fun h => ?_)
  · refine wc_seq ?_
    refine wc_region ?_
    refine wl_val (at_move rfl) rfl ?_
    refine wl_val (at_assign rfl) rfl ?_
    refine wl_nil ?_
    refine wk_prune [(2, .int .i64 x3)] ⟨rfl, trivial⟩ (fun f1 => ?_)
    refine wk_then ?_
    refine wc_ret ?_
    refine wk_thenR ?_
    exact wk_ret1 (x := x3) rfl (by decide) rfl so h
  · refine wc_skip ?_
    refine wk_prune [(1, .pointer (some (⟨b1, 0, none⟩ : Addr)))] ⟨rfl, trivial⟩ (fun f1 => ?_)
    refine wk_then ?_
    refine wc_seq ?_
    refine wc_seq ?_
    refine wc_region ?_
    refine wl_val (at_assign rfl) rfl ?_
    refine wl_nil ?_
    refine wk_prune [(1, .pointer (some (⟨b1, 0, none⟩ : Addr))), (4, .int .i64 0)] ⟨rfl, rfl, trivial⟩ (fun f1 => ?_)
    refine wk_then ?_
    refine wc_block ?_
    replace h := h t_b1
    obtain ⟨k6, h⟩ := h
    refine wc_loop (fun k a w => ∃ (s8 : Int) (f1 : Nat → Value), a = ac 83 (en f1 [(1, .pointer (some (⟨b1, 0, none⟩ : Addr))), (4, .int .i64 s8)]) [] ∧ Sm w0 w ∧ Fix _ k s8 w.heap) k6 ⟨(0), _, ac_again ⟨rfl, rfl, trivial⟩, so, h⟩ ?_
    rintro k7 a10 w9 ⟨s8, f1, rfl, so, h⟩
    rcases k7 with _ | k7
    · exact h.elim
    replace h := Fix.un h; refine wc_in ?_
    refine wc_seq ?_
    refine wc_seq ?_
    refine wc_region ?_
    refine wl_val (at_move rfl) rfl ?_
    refine wl_val (at_fieldAddr Try.underlying32 rfl rfl sz25 (by decide) rfl) rfl ?_
    obtain ⟨x12, q13, h⟩ := h
    refine wl_val (at_load Try.underlying25 rfl rfl q13) rfl ?_
    refine wl_val (at_lenL Try.underlying25 rfl) rfl ?_
    refine wl_val (at_lss rfl rfl) rfl ?_
    refine wl_nil ?_
    refine wk_prune [(1, .pointer (some (⟨b1, 0, none⟩ : Addr))), (4, .int .i64 s8), (19, .bool (decide (s8 < (x12.n : Int))))] ⟨rfl, rfl, rfl, trivial⟩ (fun f1 => ?_)
    refine wk_then ?_
    refine wc_cond rfl h (fun h => ?_) (fun h => ?_)
    · refine wc_skip ?_
      refine wk_prune [(1, .pointer (some (⟨b1, 0, none⟩ : Addr))), (4, .int .i64 s8)] ⟨rfl, rfl, trivial⟩ (fun f1 => ?_)
      refine wk_then ?_
      refine wc_seq ?_
      refine wc_block ?_
      refine wc_seq ?_
      refine wc_region ?_
      refine wl_val (at_fieldAddr Try.underlying32 rfl rfl sz25 (by decide) rfl) rfl ?_
      obtain ⟨x14, q15, h⟩ := h
      refine wl_val (at_load Try.underlying25 rfl rfl q15) rfl ?_
      refine wl_val (at_move rfl) rfl ?_
      obtain ⟨q16, q17, p18, q19, h⟩ := h
      refine wl_val (at_ixAddrL Try.underlying25 sz67 (sl_some q19) rfl q16 q17) rfl ?_
      refine wl_val (at_fieldAddr Try.underlying67 rfl rfl sz5 (by decide) rfl) rfl ?_
      obtain ⟨x20, q21, h⟩ := h
      refine wl_val (at_load Try.underlying5 rfl rfl q21) rfl ?_
      refine wl_val (at_fieldAddr Try.underlying32 rfl rfl sz30 (by decide) rfl) rfl ?_
      obtain ⟨q22, q23, h⟩ := h
      refine wl_val (at_ixAddrA Try.underlying30 sz29 rfl rfl q22 q23) rfl ?_
      obtain ⟨x24, x25, q26, h⟩ := h
      refine wl_val (at_loadA (cs := (c29 x24 x25)) Try.underlying29 rfl (by rw [len29]; exact sz29) rfl q26) rfl ?_
      refine wl_callF (mosaicref17_table.calls _ _ _ _ h) enter21 rfl trivial so ?_; intro x27 w28 h so
      refine wl_val (at_assign rfl) rfl ?_
      refine wl_nil ?_
      refine wk_prune [(1, .pointer (some (⟨b1, 0, none⟩ : Addr))), (3, .int .i64 x27), (4, .int .i64 s8)] ⟨rfl, rfl, rfl, trivial⟩ (fun f1 => ?_)
      refine wk_then ?_
      refine wc_seq ?_
      refine wc_seq ?_
      refine wc_region ?_
      refine wl_val (at_move rfl) rfl ?_
      refine wl_val (at_neq rfl rfl) rfl ?_
      refine wl_nil ?_
      refine wk_prune [(1, .pointer (some (⟨b1, 0, none⟩ : Addr))), (3, .int .i64 x27), (4, .int .i64 s8), (33, .bool (x27 != 0))] ⟨rfl, rfl, rfl, rfl, trivial⟩ (fun f1 => ?_)
      refine wk_then ?_
      refine wc_cond rfl h (fun h => ?_) (fun h => ?_)
      · refine wc_seq ?_
        refine wc_region ?_
        refine wl_val (at_move rfl) rfl ?_
        refine wl_val (at_assign rfl) rfl ?_
        refine wl_nil ?_
        refine wk_prune [(2, .int .i64 x27)] ⟨rfl, trivial⟩ (fun f1 => ?_)
        refine wk_then ?_
        refine wc_ret ?_
        refine wk_thenR ?_
        refine wk_blkR ?_
        refine wk_thenR ?_
        refine wk_thenR ?_
        refine wk_blkR ?_
        refine wk_thenR ?_
        exact wk_ret1 (x := x27) rfl (by decide) rfl so h
      · refine wc_skip ?_
        refine wk_prune [(1, .pointer (some (⟨b1, 0, none⟩ : Addr))), (4, .int .i64 s8)] ⟨rfl, rfl, trivial⟩ (fun f1 => ?_)
        refine wk_then ?_
        refine wc_seq ?_
        refine wc_region ?_
        refine wl_val (at_fieldAddr Try.underlying32 rfl rfl sz25 (by decide) rfl) rfl ?_
        obtain ⟨x29, q30, h⟩ := h
        refine wl_val (at_load Try.underlying25 rfl rfl q30) rfl ?_
        refine wl_val (at_move rfl) rfl ?_
        obtain ⟨q31, q32, p33, q34, h⟩ := h
        refine wl_val (at_ixAddrL Try.underlying25 sz67 (sl_some q34) rfl q31 q32) rfl ?_
        refine wl_val (at_fieldAddr Try.underlying67 rfl rfl sz5 (by decide) rfl) rfl ?_
        obtain ⟨x35, q36, h⟩ := h
        refine wl_val (at_load Try.underlying5 rfl rfl q36) rfl ?_
        refine wl_val (at_fieldAddr Try.underlying32 rfl rfl sz30 (by decide) rfl) rfl ?_
        obtain ⟨q37, q38, h⟩ := h
        refine wl_val (at_ixAddrA Try.underlying30 sz29 rfl rfl q37 q38) rfl ?_
        obtain ⟨x39, x40, q41, h⟩ := h
        refine wl_val (at_loadA (cs := (c29 x39 x40)) Try.underlying29 rfl (by rw [len29]; exact sz29) rfl q41) rfl ?_
        refine wl_callF (mosaicref17_table.calls _ _ _ _ h) enter21 rfl trivial so ?_; intro x42 w43 h so
        refine wl_val (at_assign rfl) rfl ?_
        refine wl_nil ?_
        refine wk_prune [(1, .pointer (some (⟨b1, 0, none⟩ : Addr))), (3, .int .i64 x42), (4, .int .i64 s8)] ⟨rfl, rfl, rfl, trivial⟩ (fun f1 => ?_)
        refine wk_then ?_
        refine wc_seq ?_
        refine wc_region ?_
        refine wl_val (at_move rfl) rfl ?_
        refine wl_val (at_neq rfl rfl) rfl ?_
        refine wl_nil ?_
        refine wk_prune [(1, .pointer (some (⟨b1, 0, none⟩ : Addr))), (3, .int .i64 x42), (4, .int .i64 s8), (46, .bool (x42 != 0))] ⟨rfl, rfl, rfl, rfl, trivial⟩ (fun f1 => ?_)
        refine wk_then ?_
        refine wc_cond rfl h (fun h => ?_) (fun h => ?_)
        · refine wc_seq ?_
          refine wc_region ?_
          refine wl_val (at_move rfl) rfl ?_
          refine wl_val (at_assign rfl) rfl ?_
          refine wl_nil ?_
          refine wk_prune [(2, .int .i64 x42)] ⟨rfl, trivial⟩ (fun f1 => ?_)
          refine wk_then ?_
          refine wc_ret ?_
          refine wk_blkR ?_
          refine wk_thenR ?_
          refine wk_thenR ?_
          refine wk_blkR ?_
          refine wk_thenR ?_
          exact wk_ret1 (x := x42) rfl (by decide) rfl so h
        · refine wc_skip ?_
          refine wk_blkN ?_
          refine wk_prune [(1, .pointer (some (⟨b1, 0, none⟩ : Addr))), (4, .int .i64 s8)] ⟨rfl, rfl, trivial⟩ (fun f1 => ?_)
          refine wk_then ?_
          refine wc_region ?_
          refine wl_val (at_move rfl) rfl ?_
          refine wl_val (at_add rfl rfl) rfl ?_
          refine wl_val (at_assign rfl) rfl ?_
          refine wl_nil ?_
          exact wk_again ⟨((IntKind.wrap .i64 (s8 + 1))), _, ac_again ⟨rfl, rfl, trivial⟩, so, h⟩
    · refine wc_exit ?_
      refine wk_thenE ?_
      refine wk_thenE ?_
      refine wk_blkE ?_
      refine wk_prune [(1, .pointer (some (⟨b1, 0, none⟩ : Addr)))] ⟨rfl, trivial⟩ (fun f1 => ?_)
      refine wk_then ?_
      refine wc_seq ?_
      refine wc_region ?_
      refine wl_val (at_fieldAddr Try.underlying32 rfl rfl sz24 (by decide) rfl) rfl ?_
      obtain ⟨x44, x45, x46, x47, q48, h⟩ := h
      refine wl_val (at_loadA (cs := (c24 x44 x45 x46 x47)) Try.underlying24 rfl (by rw [len24]; exact sz24) rfl q48) rfl ?_
      refine wl_val (at_fieldAddr Try.underlying32 rfl rfl sz25 (by decide) rfl) rfl ?_
      obtain ⟨x49, q50, h⟩ := h
      refine wl_val (at_load Try.underlying25 rfl rfl q50) rfl ?_
      refine wl_callF (mosaicref14_Units.calls _ _ _ _ _ _ _ h) enter22 rfl trivial so ?_; intro x51 w52 h so
      refine wl_val (at_move rfl) rfl ?_
      refine wl_val (at_extract rfl rfl) rfl ?_
      refine wl_val (at_extract rfl rfl) rfl ?_
      refine wl_val (at_assign rfl) rfl ?_
      refine wl_val (at_assign rfl) rfl ?_
      refine wl_nil ?_
      refine wk_prune [(1, .pointer (some (⟨b1, 0, none⟩ : Addr))), (5, .int .i64 x51.1), (6, .int .i64 x51.2)] ⟨rfl, rfl, rfl, trivial⟩ (fun f1 => ?_)
      refine wk_then ?_
      refine wc_seq ?_
      refine wc_seq ?_
      refine wc_join (w0 := w0) (fun (s54 : Bool) => [(82, .bool s54)]) h ?_ ?_
      · rintro s54 w55 f1 h so; refine wk_then ?_
        refine wc_cond rfl h (fun h => ?_) (fun h => ?_)
        · refine wc_seq ?_
          refine wc_region ?_
          refine wl_val (at_assign rfl) rfl ?_
          refine wl_nil ?_
          refine wk_prune [(2, .int .i64 3)] ⟨rfl, trivial⟩ (fun f1 => ?_)
          refine wk_then ?_
          refine wc_ret ?_
          refine wk_thenR ?_
          exact wk_ret1 (x := 3) rfl (by decide) rfl so h
        · refine wc_skip ?_
          refine wk_prune [] trivial (fun f1 => ?_)
          refine wk_then ?_
          refine wc_seq ?_
          refine wc_region ?_
          refine wl_val (at_assign rfl) rfl ?_
          refine wl_nil ?_
          refine wk_prune [(2, .int .i64 0)] ⟨rfl, trivial⟩ (fun f1 => ?_)
          refine wk_then ?_
          refine wc_ret ?_
          exact wk_ret1 (x := 0) rfl (by decide) rfl so h
      · intro J53 h hJ53
        refine wc_region ?_
        refine wl_val (at_fieldAddr Try.underlying32 rfl rfl sz3 (by decide) rfl) rfl ?_
        obtain ⟨x56, q57, h⟩ := h
        refine wl_val (at_load Try.underlying3 rfl rfl q57) rfl ?_
        refine wl_val (at_lss rfl rfl) rfl ?_
        refine wl_val (at_move rfl) rfl ?_
        refine bif_ h (fun hb h => ?_) (fun hb h => ?_)
        · refine wl_set (t := 59) (v := .bool true) (congrArg Value.bool hb) ?_; clear hb
          refine wl_off (t := 59) rfl (by decide) rfl ?_
          refine wl_off (t := 59) rfl (by decide) rfl ?_
          refine wl_off (t := 59) rfl (by decide) rfl ?_
          refine wl_val (at_pick_t rfl rfl) rfl ?_
          refine wl_val (at_move rfl) rfl ?_
          refine wl_off (t := 64) rfl (by decide) rfl ?_
          refine wl_off (t := 64) rfl (by decide) rfl ?_
          refine wl_off (t := 64) rfl (by decide) rfl ?_
          refine wl_off (t := 64) rfl (by decide) rfl ?_
          refine wl_off (t := 64) rfl (by decide) rfl ?_
          refine wl_off (t := 64) rfl (by decide) rfl ?_
          refine wl_val (at_pick_t rfl rfl) rfl ?_
          refine wl_val (at_move rfl) rfl ?_
          refine wl_off (t := 72) rfl (by decide) rfl ?_
          refine wl_off (t := 72) rfl (by decide) rfl ?_
          refine wl_off (t := 72) rfl (by decide) rfl ?_
          refine wl_off (t := 72) rfl (by decide) rfl ?_
          refine wl_off (t := 72) rfl (by decide) rfl ?_
          refine wl_off (t := 72) rfl (by decide) rfl ?_
          refine wl_off (t := 72) rfl (by decide) rfl ?_
          refine wl_off (t := 72) rfl (by decide) rfl ?_
          refine wl_off (t := 72) rfl (by decide) rfl ?_
          refine wl_val (at_pick_t rfl rfl) rfl ?_
          refine wl_nil ?_
          exact wk_prune [(82, .bool true)] ⟨rfl, trivial⟩ (fun f1 => hJ53 (true) _ f1 h so)
        · refine wl_set (t := 59) (v := .bool false) (congrArg Value.bool hb) ?_; clear hb
          refine wl_on (t := 59) rfl (by decide) rfl ?_
          refine wl_val (at_fieldAddr Try.underlying32 rfl rfl sz3 (by decide) rfl) rfl ?_
          refine wl_on (t := 59) rfl (by decide) rfl ?_
          obtain ⟨x58, q59, h⟩ := h
          refine wl_val (at_load Try.underlying3 rfl rfl q59) rfl ?_
          refine wl_on (t := 59) rfl (by decide) rfl ?_
          refine wl_val (at_lss rfl rfl) rfl ?_
          refine wl_val (at_pick_f rfl rfl) rfl ?_
          refine wl_val (at_move rfl) rfl ?_
          refine bif_ h (fun hb h => ?_) (fun hb h => ?_)
          · refine wl_set (t := 64) (v := .bool true) (congrArg Value.bool hb) ?_; clear hb
            refine wl_off (t := 64) rfl (by decide) rfl ?_
            refine wl_off (t := 64) rfl (by decide) rfl ?_
            refine wl_off (t := 64) rfl (by decide) rfl ?_
            refine wl_off (t := 64) rfl (by decide) rfl ?_
            refine wl_off (t := 64) rfl (by decide) rfl ?_
            refine wl_off (t := 64) rfl (by decide) rfl ?_
            refine wl_val (at_pick_t rfl rfl) rfl ?_
            refine wl_val (at_move rfl) rfl ?_
            refine wl_off (t := 72) rfl (by decide) rfl ?_
            refine wl_off (t := 72) rfl (by decide) rfl ?_
            refine wl_off (t := 72) rfl (by decide) rfl ?_
            refine wl_off (t := 72) rfl (by decide) rfl ?_
            refine wl_off (t := 72) rfl (by decide) rfl ?_
            refine wl_off (t := 72) rfl (by decide) rfl ?_
            refine wl_off (t := 72) rfl (by decide) rfl ?_
            refine wl_off (t := 72) rfl (by decide) rfl ?_
            refine wl_off (t := 72) rfl (by decide) rfl ?_
            refine wl_val (at_pick_t rfl rfl) rfl ?_
            refine wl_nil ?_
            exact wk_prune [(82, .bool true)] ⟨rfl, trivial⟩ (fun f1 => hJ53 (true) _ f1 h so)
          · refine wl_set (t := 64) (v := .bool false) (congrArg Value.bool hb) ?_; clear hb
            refine wl_on (t := 64) rfl (by decide) rfl ?_
            refine wl_val (at_fieldAddr Try.underlying32 rfl rfl sz3 (by decide) rfl) rfl ?_
            refine wl_on (t := 64) rfl (by decide) rfl ?_
            obtain ⟨x60, q61, h⟩ := h
            refine wl_val (at_load Try.underlying3 rfl rfl q61) rfl ?_
            refine wl_on (t := 64) rfl (by decide) rfl ?_
            refine wl_val (at_move rfl) rfl ?_
            refine wl_on (t := 64) rfl (by decide) rfl ?_
            refine wl_val (at_move rfl) rfl ?_
            refine wl_on (t := 64) rfl (by decide) rfl ?_
            refine wl_val (at_mul rfl rfl) rfl ?_
            refine wl_on (t := 64) rfl (by decide) rfl ?_
            refine wl_val (at_gtr rfl rfl) rfl ?_
            refine wl_val (at_pick_f rfl rfl) rfl ?_
            refine wl_val (at_move rfl) rfl ?_
            refine bif_ h (fun hb h => ?_) (fun hb h => ?_)
            · refine wl_set (t := 72) (v := .bool true) (congrArg Value.bool hb) ?_; clear hb
              refine wl_off (t := 72) rfl (by decide) rfl ?_
              refine wl_off (t := 72) rfl (by decide) rfl ?_
              refine wl_off (t := 72) rfl (by decide) rfl ?_
              refine wl_off (t := 72) rfl (by decide) rfl ?_
              refine wl_off (t := 72) rfl (by decide) rfl ?_
              refine wl_off (t := 72) rfl (by decide) rfl ?_
              refine wl_off (t := 72) rfl (by decide) rfl ?_
              refine wl_off (t := 72) rfl (by decide) rfl ?_
              refine wl_off (t := 72) rfl (by decide) rfl ?_
              refine wl_val (at_pick_t rfl rfl) rfl ?_
              refine wl_nil ?_
              exact wk_prune [(82, .bool true)] ⟨rfl, trivial⟩ (fun f1 => hJ53 (true) _ f1 h so)
            · refine wl_set (t := 72) (v := .bool false) (congrArg Value.bool hb) ?_; clear hb
              refine wl_on (t := 72) rfl (by decide) rfl ?_
              refine wl_val (at_fieldAddr Try.underlying32 rfl rfl sz3 (by decide) rfl) rfl ?_
              refine wl_on (t := 72) rfl (by decide) rfl ?_
              obtain ⟨x62, q63, h⟩ := h
              refine wl_val (at_load Try.underlying3 rfl rfl q63) rfl ?_
              refine wl_on (t := 72) rfl (by decide) rfl ?_
              refine wl_val (at_move rfl) rfl ?_
              refine wl_on (t := 72) rfl (by decide) rfl ?_
              refine wl_val (at_move rfl) rfl ?_
              refine wl_on (t := 72) rfl (by decide) rfl ?_
              refine wl_val (at_mul rfl rfl) rfl ?_
              refine wl_on (t := 72) rfl (by decide) rfl ?_
              refine wl_val (at_fieldAddr Try.underlying32 rfl rfl sz3 (by decide) rfl) rfl ?_
              refine wl_on (t := 72) rfl (by decide) rfl ?_
              obtain ⟨x64, q65, h⟩ := h
              refine wl_val (at_load Try.underlying3 rfl rfl q65) rfl ?_
              refine wl_on (t := 72) rfl (by decide) rfl ?_
              refine wl_val (at_sub rfl rfl) rfl ?_
              refine wl_on (t := 72) rfl (by decide) rfl ?_
              refine wl_val (at_gtr rfl rfl) rfl ?_
              refine wl_val (at_pick_f rfl rfl) rfl ?_
              refine wl_nil ?_
              exact wk_prune [(82, .bool (decide ((IntKind.wrap .i64 ((IntKind.wrap .i64 (x51.1 * x51.2)) - x64)) < x62)))] ⟨rfl, trivial⟩ (fun f1 => hJ53 ((decide ((IntKind.wrap .i64 ((IntKind.wrap .i64 (x51.1 * x51.2)) - x64)) < x62))) _ f1 h so)
end Go.Proofs.Ytlfdfikgbdgfdaa.G
