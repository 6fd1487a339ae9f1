/- Of this text what the row needs. -/
import Derived.Test.YtmnoecpnoofdjaaQPenBackKshelf
import Derived.Test.YtmnoecpnoofdjaaQPenBackKbits
import Derived.Test.YtmnoecpnoofdjaaQPenBackKslices
namespace Go.Proofs.Ytmnoecpnoofdjaa.G
open Go.RowKit
set_option linter.unusedVariables false
set_option maxRecDepth 20000
set_option maxHeartbeats 4000000
set_option linter.unusedSimpArgs false
def huff_weight.enc : Int × Int → Value := fun r => .tuple #[.int .i64 r.1, .int .i64 r.2]
def huff_weight.s (a0_0 : Ints 16) (a0_1 : Sl) (H0 : Hp) (Q : (Int × Int) → Hp → Prop) : Prop :=
 Gn [] H0 (fun (b1 : Nat) (H2 : Hp) => ∃ k3, Fix (fun (rec8 : (Int × Int × Int) → Hp → Prop) (s5 : Int × Int × Int) (H6 : Hp) => if decide (s5.2.2 < 16) = true then (0 ≤ s5.2.2 ∧ s5.2.2 < (16 : Int) ∧ (0 ≤ (IntKind.wrap .i64 ((15 : Int) - s5.2.2)) ∧ (Lt ((IntKind.wrap .i64 (s5.1 + (shlI .i64 (IntKind.wrap .i64 (ixI a0_0 s5.2.2)) (IntKind.wrap .i64 ((15 : Int) - s5.2.2))))) : Int) (fun x12 => Lt ((IntKind.wrap .i64 (s5.2.1 + (IntKind.wrap .i64 (ixI a0_0 s5.2.2)))) : Int) (fun x14 => rec8 (x12, x14, (IntKind.wrap .i64 (s5.2.2 + 1))) H6))))) else (Q (s5.1, s5.2.1) H6)) k3 (0, 0, 0) H2)
theorem huff_weight.calls (a0_0 : Ints 16) (a0_1 : Sl) (w0 : World) (Q : (Int × Int) → Hp → Prop) (h : huff_weight.s a0_0 a0_1 w0.heap Q) :
  Ca Try.prog 65 #[.agg (c29 a0_0 a0_1).toArray] w0 (Rt huff_weight.enc Q w0) := by
 refine ca_start (c := _) Try.func65 rfl Try.ntmps65 rfl ?_
 have so : Sm w0 w0 := Sm.refl w0
 unfold huff_weight.s at h
 refine wc_prune [(0, .agg (c29 a0_0 a0_1).toArray)] ⟨rfl, trivial⟩ (fun f1 => ?_)
 refine wc_seq (wc_region ?_)
 refine wl_newT (T := 29) (cs := (c29 a0_0 a0_1)) (ef_box rfl rfl) rfl so ?_; intro b1 w2 hb_b1 t_b1 k_b1 so
 have g_b1 := Nat.le_of_eq hb_b1.symm
 have hc := k_b1.ch (F := [])
 refine wl_val (at_assign rfl) rfl (wl_val (at_assign rfl) rfl (wl_nil (wk_prune [(1, .pointer (some (⟨b1, 0, none⟩ : Addr)))] ⟨rfl, trivial⟩ fun f1 => wk_then (wc_seq (wc_region (wl_val (at_assign rfl) rfl (wl_val (at_assign rfl) rfl (wl_nil (wk_prune [(1, .pointer (some (⟨b1, 0, none⟩ : Addr))), (4, .int .i64 0), (5, .int .i64 0)] ⟨rfl, rfl, rfl, trivial⟩ fun f1 => wk_then (wc_seq (wc_seq (wc_region (wl_val (at_fieldAddr Try.underlying29 rfl rfl sz26 (by decide) rfl) rfl ?_)))))))))))))
 refine wl_val (at_loadA (cs := (c26 a0_0)) Try.underlying26 rfl (by rw [len26]; exact sz26) rfl (ldA_sub (pre := []) (sub := (c26 a0_0)) (post := ([.slice a0_1.a a0_1.n a0_1.c])) (by first | exact t_b1 | (have q := t_b1; simp only [List.append_assoc, List.cons_append, List.nil_append, List.append_nil] at q ⊢; exact q)) (by first | rfl | simp [ints_len, bools_len]))) rfl ?_
 refine wl_val (at_move rfl) rfl (wl_nil (wk_prune [(4, .int .i64 0), (5, .int .i64 0), (9, .agg (c26 a0_0).toArray), (10, .int .i64 0)] ⟨rfl, rfl, rfl, rfl, trivial⟩ fun f1 => wk_then (wc_block ?_)))
 replace h := h b1 _ hc g_b1 t_b1.lt; clear hc
 obtain ⟨k3, h⟩ := h
 refine wc_loop (fun k a w => ∃ (s5 : Int × Int × Int) (f1 : Nat → Value), a = ac 28 (en f1 [(4, .int .i64 s5.1), (5, .int .i64 s5.2.1), (9, .agg (c26 a0_0).toArray), (10, .int .i64 s5.2.2)]) [] ∧ Sm w0 w ∧ Fix _ k s5 w.heap) k3 ⟨(0, 0, 0), _, ac_again ⟨rfl, rfl, rfl, rfl, trivial⟩, so, h⟩ ?_
 rintro k4 a7 w6 ⟨s5, f1, rfl, so, h⟩
 rcases k4 with _ | k4
 ·exact h.elim
 replace h := Fix.un h; refine wc_in ?_
 refine wc_seq (wc_region (wl_val (at_lss rfl rfl) rfl (wl_nil (wk_prune [(4, .int .i64 s5.1), (5, .int .i64 s5.2.1), (9, .agg (c26 a0_0).toArray), (10, .int .i64 s5.2.2), (11, .bool (decide (s5.2.2 < 16)))] ⟨rfl, rfl, rfl, rfl, rfl, trivial⟩ fun f1 => wk_then (wc_seq (wc_cond rfl h (fun h => ?_) (fun h => ?_)))))))
 ·refine wc_skip (wk_prune [(4, .int .i64 s5.1), (5, .int .i64 s5.2.1), (9, .agg (c26 a0_0).toArray), (10, .int .i64 s5.2.2)] ⟨rfl, rfl, rfl, rfl, trivial⟩ fun f1 => wk_then (wc_seq (wc_block (wc_seq (wc_region (wl_val (at_move rfl) rfl ?_))))))
  obtain ⟨q9, q10, h⟩ := h
  refine wl_val (at_ixI Try.underlying26 Try.underlying5 sz5 rfl rfl q9 q10) rfl (wl_val (at_assign rfl) rfl (wl_val (at_assign rfl) rfl (wl_nil (wk_prune [(4, .int .i64 s5.1), (5, .int .i64 s5.2.1), (6, .int .i64 s5.2.2), (7, .int .u8 (ixI a0_0 s5.2.2)), (9, .agg (c26 a0_0).toArray), (10, .int .i64 s5.2.2)] ⟨rfl, rfl, rfl, rfl, rfl, rfl, trivial⟩ fun f1 => wk_then (wc_seq (wc_region (wl_val (at_move rfl) rfl (wl_val (at_move rfl) rfl (wl_val (at_conv Try.underlying5 Try.underlying3 rfl) rfl (wl_val (at_move rfl) rfl (wl_val (at_sub rfl rfl) rfl ?_)))))))))))
  obtain ⟨q11, h⟩ := h
  refine wl_val (at_shl rfl rfl q11) rfl (wl_val (at_add rfl rfl) rfl (wl_val (at_assign rfl) rfl ?_))
  obtain ⟨x12, e13⟩ : ∃ x : Int, x = (IntKind.wrap .i64 (s5.1 + (shlI .i64 (IntKind.wrap .i64 (ixI a0_0 s5.2.2)) (IntKind.wrap .i64 ((15 : Int) - s5.2.2))))) := ⟨_, rfl⟩; replace h := h x12 e13
  refine wl_set (t := 4) (v := .int .i64 x12) (congrArg (Value.int .i64) e13.symm) (wl_nil (wk_prune [(4, .int .i64 x12), (5, .int .i64 s5.2.1), (7, .int .u8 (ixI a0_0 s5.2.2)), (9, .agg (c26 a0_0).toArray), (10, .int .i64 s5.2.2)] ⟨rfl, rfl, rfl, rfl, rfl, trivial⟩ fun f1 => wk_then (wc_region (wl_val (at_move rfl) rfl (wl_val (at_move rfl) rfl (wl_val (at_conv Try.underlying5 Try.underlying3 rfl) rfl (wl_val (at_add rfl rfl) rfl (wl_val (at_assign rfl) rfl ?_))))))))
  obtain ⟨x14, e15⟩ : ∃ x : Int, x = (IntKind.wrap .i64 (s5.2.1 + (IntKind.wrap .i64 (ixI a0_0 s5.2.2)))) := ⟨_, rfl⟩; replace h := h x14 e15
  exact wl_set (t := 5) (v := .int .i64 x14) (congrArg (Value.int .i64) e15.symm) (wl_nil (wk_blkN (wk_prune [(4, .int .i64 x12), (5, .int .i64 x14), (9, .agg (c26 a0_0).toArray), (10, .int .i64 s5.2.2)] ⟨rfl, rfl, rfl, rfl, trivial⟩ fun f1 => wk_then (wc_region (wl_val (at_add rfl rfl) rfl (wl_val (at_move rfl) rfl (wl_nil (wk_again ⟨(x12, x14, (IntKind.wrap .i64 (s5.2.2 + 1))), _, ac_again ⟨rfl, rfl, rfl, rfl, trivial⟩, so, h⟩))))))))
 ·exact wc_exit (wk_thenE (wk_thenE (wk_blkE (wk_prune [(4, .int .i64 s5.1), (5, .int .i64 s5.2.1)] ⟨rfl, rfl, trivial⟩ fun f1 => wk_then (wc_seq (wc_region (wl_val (at_move rfl) rfl (wl_val (at_move rfl) rfl (wl_val (at_assign rfl) rfl (wl_val (at_assign rfl) rfl (wl_nil (wk_prune [(2, .int .i64 s5.1), (3, .int .i64 s5.2.1)] ⟨rfl, rfl, trivial⟩ fun f1 => wk_then (wc_ret (wk_ret2 (x := (s5.1, s5.2.1)) rfl (by decide) (by decide) rfl so h))))))))))))))
def huff_Check.enc : Int → Value := fun r => .int .i64 r
def huff_Check.s (a0_0 : Ints 16) (a0_1 : Sl) (H0 : Hp) (Q : Int → Hp → Prop) : Prop :=
 Gn [] H0 (fun (b1 : Nat) (H2 : Hp) => huff_weight.s a0_0 a0_1 H2 (fun x3 H4 => Pv [b1] H2 H4 ∧ (Join (fun (s7 : Bool) (H8 : Hp) => if s7 = true then (Q 40 H8) else (if decide ((65535 : Int) < x3.1) = true then (Q 41 H8) else (Gn [] H8 (fun (b9 : Nat) (H10 : Hp) => Bk H10 b9 148 (c148 (zBools 256)) → (∃ k11, Fix (fun (rec16 : Int → Hp → Prop) (s13 : Int) (H14 : Hp) => if decide (s13 < (a0_1.n : Int)) = true then (0 ≤ s13 ∧ s13 < (a0_1.n : Int) ∧ someA a0_1.a (fun p19 => ldI .u8 H14 (p19.add (Int.toNat s13 * 1)) (fun x21 => 0 ≤ x21 ∧ x21 < (256 : Int) ∧ (ldB H14 ((⟨b9, 0, none⟩ : Addr).add (Int.toNat x21 * 1)) (fun x25 => if x25 = true then (Q 42 H14) else (0 ≤ x21 ∧ x21 < (256 : Int) ∧ (st H14 ((⟨b9, 0, none⟩ : Addr).add (Int.toNat x21 * 1)) (.bool true) (fun H29 => rec16 ((IntKind.wrap .i64 (s13 + 1))) H29)))))))) else (Q 0 H14)) k11 (0) H10))))) (fun (J6 : Bool → Hp → Prop) => if (x3.2 == 0) = true then (J6 (true) H4) else (if decide ((256 : Int) < x3.2) = true then (J6 (true) H4) else (J6 ((x3.2 != (a0_1.n : Int))) H4))))))
theorem huff_Check.calls (a0_0 : Ints 16) (a0_1 : Sl) (w0 : World) (Q : Int → Hp → Prop) (h : huff_Check.s a0_0 a0_1 w0.heap Q) :
  Ca Try.prog 39 #[.agg (c29 a0_0 a0_1).toArray] w0 (Rt huff_Check.enc Q w0) := by
 refine ca_start (c := _) Try.func39 rfl Try.ntmps39 rfl ?_
 have so : Sm w0 w0 := Sm.refl w0
 unfold huff_Check.s at h
 refine wc_prune [(0, .agg (c29 a0_0 a0_1).toArray)] ⟨rfl, trivial⟩ (fun f1 => ?_)
 refine wc_seq (wc_region ?_)
 refine wl_newT (T := 29) (cs := (c29 a0_0 a0_1)) (ef_box rfl rfl) rfl so ?_; intro b1 w2 hb_b1 t_b1 k_b1 so
 have g_b1 := Nat.le_of_eq hb_b1.symm
 have hc := k_b1.ch (F := [])
 refine wl_val (at_assign rfl) rfl (wl_nil (wk_prune [(1, .pointer (some (⟨b1, 0, none⟩ : Addr)))] ⟨rfl, trivial⟩ fun f1 => wk_then (wc_seq (wc_region ?_))))
 refine wl_val (at_loadA (cs := (c29 a0_0 a0_1)) Try.underlying29 rfl (by rw [len29]; exact sz29) rfl (ldA_full t_b1)) rfl ?_
 replace h := h b1 _ hc g_b1 t_b1.lt; clear hc
 refine wl_callF (huff_weight.calls _ _ _ _ h) enter65 rfl trivial so ?_; intro x3 w4 h so
 obtain ⟨q5, h⟩ := h
 replace t_b1 := pv_bk q5 t_b1 (by simp)
 refine wl_val (at_move rfl) rfl (wl_val (at_extract rfl rfl) rfl (wl_val (at_extract rfl rfl) rfl (wl_val (at_assign rfl) rfl (wl_val (at_assign rfl) rfl (wl_nil (wk_prune [(1, .pointer (some (⟨b1, 0, none⟩ : Addr))), (3, .int .i64 x3.1), (4, .int .i64 x3.2)] ⟨rfl, rfl, rfl, trivial⟩ fun f1 => wk_then (wc_seq (wc_seq (wc_joinG (w0 := w0) (fun (H : Hp) => Bk H b1 29 (c29 a0_0 a0_1) ∧ True) (fun (s7 : Bool) => [(1, .pointer (some (⟨b1, 0, none⟩ : Addr))), (3, .int .i64 x3.1), (25, .bool s7)]) (fun (s7 : Bool) => []) h ?_ ?_)))))))))
 ·rintro s7 w8 f1 h ⟨t_b1, _⟩ so; refine wk_then ?_
  refine wc_cond rfl h (fun h => ?_) (fun h => ?_)
  ·exact wc_seq (wc_region (wl_val (at_assign rfl) rfl (wl_nil (wk_prune [(2, .int .i64 40)] ⟨rfl, trivial⟩ fun f1 => wk_then (wc_ret (wk_thenR (wk_ret1 (x := 40) rfl (by decide) rfl so h)))))))
  ·refine wc_skip (wk_prune [(1, .pointer (some (⟨b1, 0, none⟩ : Addr))), (3, .int .i64 x3.1)] ⟨rfl, rfl, trivial⟩ fun f1 => wk_then (wc_seq (wc_seq (wc_region (wl_val (at_move rfl) rfl (wl_val (at_gtr rfl rfl) rfl (wl_nil (wk_prune [(1, .pointer (some (⟨b1, 0, none⟩ : Addr))), (27, .bool (decide ((65535 : Int) < x3.1)))] ⟨rfl, rfl, trivial⟩ fun f1 => wk_then (wc_cond rfl h (fun h => ?_) (fun h => ?_))))))))))
   ·exact wc_seq (wc_region (wl_val (at_assign rfl) rfl (wl_nil (wk_prune [(2, .int .i64 41)] ⟨rfl, trivial⟩ fun f1 => wk_then (wc_ret (wk_thenR (wk_ret1 (x := 41) rfl (by decide) rfl so h)))))))
   ·refine wc_skip (wk_prune [(1, .pointer (some (⟨b1, 0, none⟩ : Addr)))] ⟨rfl, trivial⟩ fun f1 => wk_then (wc_seq (wc_region ?_)))
    refine wl_newT (T := 148) (cs := (c148 (zBools 256))) (ef_alloc zero148 rfl) rfl so ?_; intro b9 w10 hb_b9 t_b9 k_b9 so
    have g_b9 := Nat.le_of_eq hb_b9.symm
    have hc := k_b9.ch (F := [])
    have n_b1_b9 : b1 ≠ b9 := fun e => by have := t_b1.lt; omega
    replace t_b1 := t_b1.keep k_b9
    refine wl_nil (wk_prune [(1, .pointer (some (⟨b1, 0, none⟩ : Addr))), (5, .pointer (some (⟨b9, 0, none⟩ : Addr)))] ⟨rfl, rfl, trivial⟩ fun f1 => wk_then (wc_seq (wc_seq (wc_region (wl_val (at_fieldAddr Try.underlying29 rfl rfl sz27 (by decide) rfl) rfl ?_)))))
    refine wl_val (at_load (v := .slice a0_1.a a0_1.n a0_1.c) Try.underlying27 rfl rfl ((t_b1.cell 16).trans (by first | rfl | simp [List.getElem?_append, ints_len, bools_len]))) rfl ?_
    refine wl_val (at_lenL Try.underlying27 rfl) rfl (wl_val (at_move rfl) rfl (wl_nil (wk_prune [(5, .pointer (some (⟨b9, 0, none⟩ : Addr))), (29, .slice a0_1.a a0_1.n a0_1.c), (30, .int .i64 (a0_1.n : Int)), (31, .int .i64 0)] ⟨rfl, rfl, rfl, rfl, trivial⟩ fun f1 => wk_then (wc_block ?_))))
    replace h := h b9 _ hc g_b9 t_b9.lt; clear hc
    replace h := h t_b9
    obtain ⟨k11, h⟩ := h
    refine wc_loop (fun k a w => ∃ (s13 : Int) (f1 : Nat → Value), a = ac 41 (en f1 [(5, .pointer (some (⟨b9, 0, none⟩ : Addr))), (29, .slice a0_1.a a0_1.n a0_1.c), (30, .int .i64 (a0_1.n : Int)), (31, .int .i64 s13)]) [] ∧ Sm w0 w ∧ Fix _ k s13 w.heap) k11 ⟨(0), _, ac_again ⟨rfl, rfl, rfl, rfl, trivial⟩, so, h⟩ ?_
    rintro k12 a15 w14 ⟨s13, f1, rfl, so, h⟩
    rcases k12 with _ | k12
    ·exact h.elim
    replace h := Fix.un h; refine wc_in ?_
    refine wc_seq (wc_region (wl_val (at_lss rfl rfl) rfl (wl_nil (wk_prune [(5, .pointer (some (⟨b9, 0, none⟩ : Addr))), (29, .slice a0_1.a a0_1.n a0_1.c), (30, .int .i64 (a0_1.n : Int)), (31, .int .i64 s13), (32, .bool (decide (s13 < (a0_1.n : Int))))] ⟨rfl, rfl, rfl, rfl, rfl, trivial⟩ fun f1 => wk_then (wc_seq (wc_cond rfl h (fun h => ?_) (fun h => ?_)))))))
    ·refine wc_skip (wk_prune [(5, .pointer (some (⟨b9, 0, none⟩ : Addr))), (29, .slice a0_1.a a0_1.n a0_1.c), (30, .int .i64 (a0_1.n : Int)), (31, .int .i64 s13)] ⟨rfl, rfl, rfl, rfl, trivial⟩ fun f1 => wk_then (wc_seq (wc_block (wc_seq (wc_region ?_)))))
     obtain ⟨q17, q18, p19, q20, h⟩ := h
     refine wl_val (at_ixAddrL Try.underlying27 sz5 (sl_some q20) rfl q17 q18) rfl ?_
     obtain ⟨x21, q22, h⟩ := h
     refine wl_val (at_load Try.underlying5 rfl rfl q22) rfl (wl_val (at_assign rfl) rfl (wl_nil (wk_prune [(5, .pointer (some (⟨b9, 0, none⟩ : Addr))), (7, .int .u8 x21), (29, .slice a0_1.a a0_1.n a0_1.c), (30, .int .i64 (a0_1.n : Int)), (31, .int .i64 s13)] ⟨rfl, rfl, rfl, rfl, rfl, trivial⟩ fun f1 => wk_then (wc_seq (wc_seq (wc_region (wl_val (at_move rfl) rfl ?_)))))))
     obtain ⟨q23, q24, h⟩ := h
     refine wl_val (at_ixAddrA Try.underlying148 sz4 rfl rfl q23 q24) rfl ?_
     obtain ⟨x25, q26, h⟩ := h
     refine wl_val (at_load Try.underlying4 rfl rfl q26) rfl (wl_nil (wk_prune [(5, .pointer (some (⟨b9, 0, none⟩ : Addr))), (7, .int .u8 x21), (29, .slice a0_1.a a0_1.n a0_1.c), (30, .int .i64 (a0_1.n : Int)), (31, .int .i64 s13), (37, .bool x25)] ⟨rfl, rfl, rfl, rfl, rfl, rfl, trivial⟩ fun f1 => wk_then (wc_cond rfl h (fun h => ?_) (fun h => ?_))))
     ·exact wc_seq (wc_region (wl_val (at_assign rfl) rfl (wl_nil (wk_prune [(2, .int .i64 42)] ⟨rfl, trivial⟩ fun f1 => wk_then (wc_ret (wk_thenR (wk_blkR (wk_thenR (wk_thenR (wk_blkR (wk_thenR (wk_ret1 (x := 42) rfl (by decide) rfl so h))))))))))))
     ·refine wc_skip (wk_prune [(5, .pointer (some (⟨b9, 0, none⟩ : Addr))), (7, .int .u8 x21), (29, .slice a0_1.a a0_1.n a0_1.c), (30, .int .i64 (a0_1.n : Int)), (31, .int .i64 s13)] ⟨rfl, rfl, rfl, rfl, rfl, trivial⟩ fun f1 => wk_then (wc_region (wl_val (at_move rfl) rfl ?_)))
      obtain ⟨q27, q28, h⟩ := h
      refine wl_val (at_ixAddrA Try.underlying148 sz4 rfl rfl q27 q28) rfl ?_
      refine wl_st (v := .bool true) h rfl so (fun q1 q2 => ef_store (sz := sz4) rfl rfl rfl q1 q2) ?_; intro w29 h so
      exact wl_nil (wk_blkN (wk_prune [(5, .pointer (some (⟨b9, 0, none⟩ : Addr))), (29, .slice a0_1.a a0_1.n a0_1.c), (30, .int .i64 (a0_1.n : Int)), (31, .int .i64 s13)] ⟨rfl, rfl, rfl, rfl, trivial⟩ fun f1 => wk_then (wc_region (wl_val (at_add rfl rfl) rfl (wl_val (at_move rfl) rfl (wl_nil (wk_again ⟨((IntKind.wrap .i64 (s13 + 1))), _, ac_again ⟨rfl, rfl, rfl, rfl, trivial⟩, so, h⟩)))))))
    ·exact wc_exit (wk_thenE (wk_thenE (wk_blkE (wk_prune [] trivial fun f1 => wk_then (wc_seq (wc_region (wl_val (at_assign rfl) rfl (wl_nil (wk_prune [(2, .int .i64 0)] ⟨rfl, trivial⟩ fun f1 => wk_then (wc_ret (wk_ret1 (x := 0) rfl (by decide) rfl so h)))))))))))
 ·intro J6 h hJ6
  refine wc_region (wl_val (at_move rfl) rfl (wl_val (at_eql rfl rfl) rfl (wl_val (at_move rfl) rfl (bif_ h (fun hb h => ?_) (fun hb h => ?_)))))
  ·refine wl_set (t := 15) (v := .bool true) (congrArg Value.bool hb) ?_; clear hb
   exact wl_off (t := 15) rfl (by decide) rfl (wl_off (t := 15) rfl (by decide) rfl (wl_val (at_pick_t rfl rfl) rfl (wl_val (at_move rfl) rfl (wl_off (t := 19) rfl (by decide) rfl (wl_off (t := 19) rfl (by decide) rfl (wl_off (t := 19) rfl (by decide) rfl (wl_off (t := 19) rfl (by decide) rfl (wl_off (t := 19) rfl (by decide) rfl (wl_val (at_pick_t rfl rfl) rfl (wl_nil (wk_prune [(1, .pointer (some (⟨b1, 0, none⟩ : Addr))), (3, .int .i64 x3.1), (25, .bool true)] ⟨rfl, rfl, rfl, trivial⟩ (fun f1 => hJ6 (true) _ f1 h ⟨t_b1, trivial⟩ so))))))))))))
  ·refine wl_set (t := 15) (v := .bool false) (congrArg Value.bool hb) ?_; clear hb
   refine wl_on (t := 15) rfl (by decide) rfl (wl_val (at_move rfl) rfl (wl_on (t := 15) rfl (by decide) rfl (wl_val (at_gtr rfl rfl) rfl (wl_val (at_pick_f rfl rfl) rfl (wl_val (at_move rfl) rfl (bif_ h (fun hb h => ?_) (fun hb h => ?_)))))))
   ·refine wl_set (t := 19) (v := .bool true) (congrArg Value.bool hb) ?_; clear hb
    exact wl_off (t := 19) rfl (by decide) rfl (wl_off (t := 19) rfl (by decide) rfl (wl_off (t := 19) rfl (by decide) rfl (wl_off (t := 19) rfl (by decide) rfl (wl_off (t := 19) rfl (by decide) rfl (wl_val (at_pick_t rfl rfl) rfl (wl_nil (wk_prune [(1, .pointer (some (⟨b1, 0, none⟩ : Addr))), (3, .int .i64 x3.1), (25, .bool true)] ⟨rfl, rfl, rfl, trivial⟩ (fun f1 => hJ6 (true) _ f1 h ⟨t_b1, trivial⟩ so))))))))
   ·refine wl_set (t := 19) (v := .bool false) (congrArg Value.bool hb) ?_; clear hb
    refine wl_on (t := 19) rfl (by decide) rfl (wl_val (at_move rfl) rfl (wl_on (t := 19) rfl (by decide) rfl (wl_val (at_fieldAddr Try.underlying29 rfl rfl sz27 (by decide) rfl) rfl (wl_on (t := 19) rfl (by decide) rfl ?_))))
    refine wl_val (at_load (v := .slice a0_1.a a0_1.n a0_1.c) Try.underlying27 rfl rfl ((t_b1.cell 16).trans (by first | rfl | simp [List.getElem?_append, ints_len, bools_len]))) rfl ?_
    exact wl_on (t := 19) rfl (by decide) rfl (wl_val (at_lenL Try.underlying27 rfl) rfl (wl_on (t := 19) rfl (by decide) rfl (wl_val (at_neq rfl rfl) rfl (wl_val (at_pick_f rfl rfl) rfl (wl_nil (wk_prune [(1, .pointer (some (⟨b1, 0, none⟩ : Addr))), (3, .int .i64 x3.1), (25, .bool (x3.2 != (a0_1.n : Int)))] ⟨rfl, rfl, rfl, trivial⟩ (fun f1 => hJ6 ((x3.2 != (a0_1.n : Int))) _ f1 h ⟨t_b1, trivial⟩ so)))))))
def huff_New.enc : (Option Addr) × Int → Value := fun r => .tuple #[.pointer r.1, .int .i64 r.2]
def huff_New.s (a0_0 : Ints 16) (a0_1 : Sl) (H0 : Hp) (Q : ((Option Addr) × Int) → Hp → Prop) : Prop :=
 Gn [] H0 (fun (b1 : Nat) (H2 : Hp) => huff_Check.s a0_0 a0_1 H2 (fun x3 H4 => Pv [b1] H2 H4 ∧ (if (x3 != 0) = true then (Q (none, x3) H4) else (slices_Clone_uint8_uint8.s a0_1 H4 (fun x6 H7 => Pv [b1] H4 H7 ∧ (Gn [] H7 (fun (b9 : Nat) (H10 : Hp) => Bk H10 b9 114 (c114 (zInts 256) (zInts 256) (zInts 17) (zInts 17) (zInts 17) x6) → (∃ k11, Fix (fun (rec16 : (Int × Int × Int) → Hp → Prop) (s13 : Int × Int × Int) (H14 : Hp) => if decide (s13.2.2 ≤ 16) = true then (0 ≤ (IntKind.wrap .i64 (s13.2.2 - 1)) ∧ (IntKind.wrap .i64 (s13.2.2 - 1)) < (16 : Int) ∧ (Lt ((IntKind.wrap .i64 (ixI a0_0 (IntKind.wrap .i64 (s13.2.2 - 1)))) : Int) (fun x19 => 0 ≤ s13.2.2 ∧ s13.2.2 < (17 : Int) ∧ (st H14 ((⟨b9, 512, none⟩ : Addr).add (Int.toNat s13.2.2 * 1)) (.int .i64 s13.1) (fun H24 => Pv [b1] H14 H24 ∧ (0 ≤ s13.2.2 ∧ s13.2.2 < (17 : Int) ∧ (st H24 ((⟨b9, 529, none⟩ : Addr).add (Int.toNat s13.2.2 * 1)) (.int .i64 x19) (fun H28 => Pv [b1] H24 H28 ∧ (0 ≤ s13.2.2 ∧ s13.2.2 < (17 : Int) ∧ (st H28 ((⟨b9, 546, none⟩ : Addr).add (Int.toNat s13.2.2 * 1)) (.int .i64 s13.2.1) (fun H32 => Pv [b1] H28 H32 ∧ (∃ k34, Fix (fun (rec39 : (Int × Int × Int) → Hp → Prop) (s36 : Int × Int × Int) (H37 : Hp) => if decide (s36.2.2 < x19) = true then (ldL H37 (⟨b9, 563, none⟩ : Addr) (fun x40 => 0 ≤ s36.2.1 ∧ s36.2.1 < (x40.n : Int) ∧ someA x40.a (fun p44 => ldI .u8 H37 (p44.add (Int.toNat s36.2.1 * 1)) (fun x46 => 0 ≤ x46 ∧ x46 < (256 : Int) ∧ (st H37 ((⟨b9, 0, none⟩ : Addr).add (Int.toNat x46 * 1)) (.int .u16 (IntKind.wrap .u16 s36.1)) (fun H51 => Pv [b1] H37 H51 ∧ (0 ≤ x46 ∧ x46 < (256 : Int) ∧ (st H51 ((⟨b9, 256, none⟩ : Addr).add (Int.toNat x46 * 1)) (.int .u8 (IntKind.wrap .u8 s13.2.2)) (fun H55 => Pv [b1] H51 H55 ∧ (rec39 ((IntKind.wrap .i64 (s36.1 + 1)), (IntKind.wrap .i64 (s36.2.1 + 1)), (IntKind.wrap .i64 (s36.2.2 + 1))) H55)))))))))) else (rec16 ((shlI .i64 s36.1 1), s36.2.1, (IntKind.wrap .i64 (s13.2.2 + 1))) H37)) k34 (s13.1, s13.2.1, 0) H32)))))))))))) else (Q ((some (⟨b9, 0, none⟩ : Addr)), 0) H14)) k11 (0, 0, 1) H10))))))))
theorem huff_New.calls (a0_0 : Ints 16) (a0_1 : Sl) (w0 : World) (Q : ((Option Addr) × Int) → Hp → Prop) (h : huff_New.s a0_0 a0_1 w0.heap Q) :
  Ca Try.prog 23 #[.agg (c29 a0_0 a0_1).toArray] w0 (Rt huff_New.enc Q w0) := by
 refine ca_start (c := _) Try.func23 rfl Try.ntmps23 rfl ?_
 have so : Sm w0 w0 := Sm.refl w0
 unfold huff_New.s at h
 refine wc_prune [(0, .agg (c29 a0_0 a0_1).toArray)] ⟨rfl, trivial⟩ (fun f1 => ?_)
 refine wc_seq (wc_region ?_)
 refine wl_newT (T := 29) (cs := (c29 a0_0 a0_1)) (ef_box rfl rfl) rfl so ?_; intro b1 w2 hb_b1 t_b1 k_b1 so
 have g_b1 := Nat.le_of_eq hb_b1.symm
 have hc := k_b1.ch (F := [])
 refine wl_val (at_assign rfl) rfl (wl_val (at_assign rfl) rfl (wl_nil (wk_prune [(1, .pointer (some (⟨b1, 0, none⟩ : Addr)))] ⟨rfl, trivial⟩ fun f1 => wk_then (wc_seq (wc_seq (wc_region ?_))))))
 refine wl_val (at_loadA (cs := (c29 a0_0 a0_1)) Try.underlying29 rfl (by rw [len29]; exact sz29) rfl (ldA_full t_b1)) rfl ?_
 replace h := h b1 _ hc g_b1 t_b1.lt; clear hc
 refine wl_callF (huff_Check.calls _ _ _ _ h) enter39 rfl trivial so ?_; intro x3 w4 h so
 obtain ⟨q5, h⟩ := h
 replace t_b1 := pv_bk q5 t_b1 (by simp)
 refine wl_val (at_assign rfl) rfl (wl_nil (wk_prune [(1, .pointer (some (⟨b1, 0, none⟩ : Addr))), (4, .int .i64 x3)] ⟨rfl, rfl, trivial⟩ fun f1 => wk_then (wc_seq (wc_region (wl_val (at_move rfl) rfl (wl_val (at_neq rfl rfl) rfl (wl_nil (wk_prune [(1, .pointer (some (⟨b1, 0, none⟩ : Addr))), (4, .int .i64 x3), (14, .bool (x3 != 0))] ⟨rfl, rfl, rfl, trivial⟩ fun f1 => wk_then (wc_cond rfl h (fun h => ?_) (fun h => ?_))))))))))
 ·exact wc_seq (wc_region (wl_val (at_move rfl) rfl (wl_val (at_assign rfl) rfl (wl_val (at_assign rfl) rfl (wl_nil (wk_prune [(2, .pointer none), (3, .int .i64 x3)] ⟨rfl, rfl, trivial⟩ fun f1 => wk_then (wc_ret (wk_thenR (wk_ret2 (x := (none, x3)) rfl (by decide) (by decide) rfl so h)))))))))
 ·refine wc_skip (wk_prune [(1, .pointer (some (⟨b1, 0, none⟩ : Addr)))] ⟨rfl, trivial⟩ fun f1 => wk_then (wc_seq (wc_region (wl_val (at_fieldAddr Try.underlying29 rfl rfl sz27 (by decide) rfl) rfl ?_))))
  refine wl_val (at_load (v := .slice a0_1.a a0_1.n a0_1.c) Try.underlying27 rfl rfl ((t_b1.cell 16).trans (by first | rfl | simp [List.getElem?_append, ints_len, bools_len]))) rfl ?_
  refine wl_callF (slices_Clone_uint8_uint8.calls _ _ _ h) enter40 rfl trivial so ?_; intro x6 w7 h so
  obtain ⟨q8, h⟩ := h
  replace t_b1 := pv_bk q8 t_b1 (by simp)
  refine wl_val (at_build (cs := (c114 (zInts 256) (zInts 256) (zInts 17) (zInts 17) (zInts 17) x6)) (ps := [(5, .slice x6.a x6.n x6.c)]) rfl (build_struct (szs := [256, 256, 17, 17, 17, 1]) (vs := [.agg (c110 (zInts 256)).toArray, .agg (c111 (zInts 256)).toArray, .agg (c112 (zInts 17)).toArray, .agg (c112 (zInts 17)).toArray, .agg (c112 (zInts 17)).toArray, .slice none 0 0]) (cs := (c114 (zInts 256) (zInts 256) (zInts 17) (zInts 17) (zInts 17) x6)) zero114 (by first | rfl | simp [z114, c114, c110, len110, c111, len111, c112, len112, Value.cells, ints_len, bools_len, List.flatMap]) Try.underlying114 (by kernel_rfl) (by simp [z114, c114, c110, len110, c111, len111, c112, len112, Value.cells, ints_len, bools_len]) (by simp [z114, c114, c110, len110, c111, len111, c112, len112, Value.cells, ints_len, bools_len]) (by first | rfl | simp [z114, c114, c110, len110, c111, len111, c112, len112, Value.cells, ints_len, bools_len, List.set, List.flatMap, mkI, mkB, ints, bools]))) rfl ?_
  refine wl_newT (T := 114) (cs := (c114 (zInts 256) (zInts 256) (zInts 17) (zInts 17) (zInts 17) x6)) (ef_box rfl rfl) rfl so ?_; intro b9 w10 hb_b9 t_b9 k_b9 so
  have g_b9 := Nat.le_of_eq hb_b9.symm
  have hc := k_b9.ch (F := [])
  have n_b1_b9 : b1 ≠ b9 := fun e => by have := t_b1.lt; omega
  replace t_b1 := t_b1.keep k_b9
  refine wl_val (at_assign rfl) rfl (wl_nil (wk_prune [(1, .pointer (some (⟨b1, 0, none⟩ : Addr))), (5, .pointer (some (⟨b9, 0, none⟩ : Addr)))] ⟨rfl, rfl, trivial⟩ fun f1 => wk_then (wc_seq (wc_region (wl_val (at_assign rfl) rfl (wl_val (at_assign rfl) rfl (wl_nil (wk_prune [(1, .pointer (some (⟨b1, 0, none⟩ : Addr))), (5, .pointer (some (⟨b9, 0, none⟩ : Addr))), (6, .int .i64 0), (7, .int .i64 0)] ⟨rfl, rfl, rfl, rfl, trivial⟩ fun f1 => wk_then (wc_seq (wc_seq (wc_region (wl_val (at_assign rfl) rfl (wl_nil (wk_prune [(1, .pointer (some (⟨b1, 0, none⟩ : Addr))), (5, .pointer (some (⟨b9, 0, none⟩ : Addr))), (6, .int .i64 0), (7, .int .i64 0), (8, .int .i64 1)] ⟨rfl, rfl, rfl, rfl, rfl, trivial⟩ fun f1 => wk_then (wc_block ?_)))))))))))))))
  replace h := h b9 _ hc g_b9 t_b9.lt; clear hc
  replace h := h t_b9
  obtain ⟨k11, h⟩ := h
  refine wc_loop (fun k a w => ∃ (s13 : Int × Int × Int) (f1 : Nat → Value), a = ac 81 (en f1 [(1, .pointer (some (⟨b1, 0, none⟩ : Addr))), (5, .pointer (some (⟨b9, 0, none⟩ : Addr))), (6, .int .i64 s13.1), (7, .int .i64 s13.2.1), (8, .int .i64 s13.2.2)]) [] ∧ Sm w0 w ∧ (Bk w.heap b1 29 (c29 a0_0 a0_1) ∧ True) ∧ Fix _ k s13 w.heap) k11 ⟨(0, 0, 1), _, ac_again ⟨rfl, rfl, rfl, rfl, rfl, trivial⟩, so, ⟨t_b1, trivial⟩, h⟩ ?_
  rintro k12 a15 w14 ⟨s13, f1, rfl, so, ⟨t_b1, _⟩, h⟩
  rcases k12 with _ | k12
  ·exact h.elim
  replace h := Fix.un h; refine wc_in ?_
  refine wc_seq (wc_seq (wc_region (wl_val (at_move rfl) rfl (wl_val (at_leq rfl rfl) rfl (wl_nil (wk_prune [(1, .pointer (some (⟨b1, 0, none⟩ : Addr))), (5, .pointer (some (⟨b9, 0, none⟩ : Addr))), (6, .int .i64 s13.1), (7, .int .i64 s13.2.1), (8, .int .i64 s13.2.2), (22, .bool (decide (s13.2.2 ≤ 16)))] ⟨rfl, rfl, rfl, rfl, rfl, rfl, trivial⟩ fun f1 => wk_then (wc_cond rfl h (fun h => ?_) (fun h => ?_))))))))
  ·refine wc_skip (wk_prune [(1, .pointer (some (⟨b1, 0, none⟩ : Addr))), (5, .pointer (some (⟨b9, 0, none⟩ : Addr))), (6, .int .i64 s13.1), (7, .int .i64 s13.2.1), (8, .int .i64 s13.2.2)] ⟨rfl, rfl, rfl, rfl, rfl, trivial⟩ fun f1 => wk_then (wc_seq (wc_block (wc_seq (wc_region (wl_val (at_move rfl) rfl (wl_val (at_sub rfl rfl) rfl (wl_val (at_fieldAddr Try.underlying29 rfl rfl sz26 (by decide) rfl) rfl ?_))))))))
   obtain ⟨q17, q18, h⟩ := h
   refine wl_val (at_ixAddrA Try.underlying26 sz5 rfl rfl q17 q18) rfl ?_
   refine wl_val (at_load (v := .int .u8 (ixI a0_0 (IntKind.wrap .i64 (s13.2.2 - 1)))) Try.underlying5 rfl rfl (ixT (pre := []) (l := a0_0) (post := ([.slice a0_1.a a0_1.n a0_1.c])) (by first | exact t_b1 | (have q := t_b1; simp only [List.append_assoc, List.cons_append, List.nil_append, List.append_nil] at q ⊢; exact q)) (by first | rfl | simp [ints_len, bools_len]) q17 q18)) rfl ?_
   refine wl_val (at_conv Try.underlying5 Try.underlying3 rfl) rfl (wl_val (at_assign rfl) rfl ?_)
   obtain ⟨x19, e20⟩ : ∃ x : Int, x = (IntKind.wrap .i64 (ixI a0_0 (IntKind.wrap .i64 (s13.2.2 - 1)))) := ⟨_, rfl⟩; replace h := h x19 e20
   refine wl_set (t := 9) (v := .int .i64 x19) (congrArg (Value.int .i64) e20.symm) (wl_nil (wk_prune [(1, .pointer (some (⟨b1, 0, none⟩ : Addr))), (5, .pointer (some (⟨b9, 0, none⟩ : Addr))), (6, .int .i64 s13.1), (7, .int .i64 s13.2.1), (8, .int .i64 s13.2.2), (9, .int .i64 x19)] ⟨rfl, rfl, rfl, rfl, rfl, rfl, trivial⟩ fun f1 => wk_then (wc_seq ?_)))
   refine wc_wo [0, 0, 0, 0, 0, 0, 0, 0, 0, 1, 513, 1603, 3651, 4, 8196, 32463, 65231, 16, 131088, 524287, 1048575] mixed (by kernel_rfl) so ?_; intro w21 hw so; rw [← hw] at h t_b1; clear hw
   refine wo_pure (m' := 1) 0 rfl (by kernel_rfl) rfl rfl (fun H => at_move rfl) (wo_pure (m' := 3) 1 rfl (by kernel_rfl) rfl rfl (fun H => at_move rfl) (wo_pure (m' := 7) 2 rfl (by kernel_rfl) rfl rfl (fun H => at_move rfl) (wo_pure (m' := 15) 3 rfl (by kernel_rfl) rfl rfl (fun H => at_move rfl) (wo_pure (m' := 31) 4 rfl (by kernel_rfl) rfl rfl (fun H => at_move rfl) (wo_pure (m' := 63) 5 rfl (by kernel_rfl) rfl rfl (fun H => at_move rfl) (wo_pure (m' := 127) 6 rfl (by kernel_rfl) rfl rfl (fun H => at_move rfl) (wo_pure (m' := 255) 7 rfl (by kernel_rfl) rfl rfl (fun H => at_move rfl) (wo_pure (m' := 511) 8 rfl (by kernel_rfl) rfl rfl (fun H => at_move rfl) (wo_pure (m' := 1023) 9 rfl (by kernel_rfl) rfl rfl (fun H => at_nilCheck rfl) (wo_pure (m' := 2047) 10 rfl (by kernel_rfl) rfl rfl (fun H => at_fieldAddr Try.underlying114 rfl rfl sz112 (by decide) rfl) ?_))))))))))
   obtain ⟨q22, q23, h⟩ := h
   refine wo_pure (m' := 4095) 11 rfl (by kernel_rfl) rfl rfl (fun H => at_ixAddrA Try.underlying112 sz3 rfl rfl q22 q23) (wo_pure (m' := 12287) 13 rfl (by kernel_rfl) rfl rfl (fun H => at_nilCheck rfl) (wo_pure (m' := 28671) 14 rfl (by kernel_rfl) rfl rfl (fun H => at_fieldAddr Try.underlying114 rfl rfl sz112 (by decide) rfl) (wo_pure (m' := 159743) 17 rfl (by kernel_rfl) rfl rfl (fun H => at_nilCheck rfl) (wo_pure (m' := 421887) 18 rfl (by kernel_rfl) rfl rfl (fun H => at_fieldAddr Try.underlying114 rfl rfl sz112 (by decide) rfl) (wo_take (m' := 425983) 12 [] rfl (by kernel_rfl) rfl (by kernel_rfl) ?_)))))
   refine wl_st (v := .int .i64 s13.1) h rfl so (fun q1 q2 => ef_store (sz := sz3) rfl rfl rfl q1 q2) ?_; intro w24 h so
   obtain ⟨q25, h⟩ := h
   replace t_b1 := pv_bk q25 t_b1 (by simp)
   refine wl_nil (wk_tq trivial ?_)
   obtain ⟨q26, q27, h⟩ := h
   refine wo_pure (m' := 458751) 15 rfl (by kernel_rfl) rfl rfl (fun H => at_ixAddrA Try.underlying112 sz3 rfl rfl q26 q27) (wo_take (m' := 524287) 16 [] rfl (by kernel_rfl) rfl (by kernel_rfl) ?_)
   refine wl_st (v := .int .i64 x19) h rfl so (fun q1 q2 => ef_store (sz := sz3) rfl rfl rfl q1 q2) ?_; intro w28 h so
   obtain ⟨q29, h⟩ := h
   replace t_b1 := pv_bk q29 t_b1 (by simp)
   refine wl_nil (wk_tq trivial ?_)
   obtain ⟨q30, q31, h⟩ := h
   refine wo_pure (m' := 1048575) 19 rfl (by kernel_rfl) rfl rfl (fun H => at_ixAddrA Try.underlying112 sz3 rfl rfl q30 q31) (wo_take (m' := 2097151) 20 [] rfl (by kernel_rfl) rfl (by kernel_rfl) ?_)
   refine wl_st (v := .int .i64 s13.2.1) h rfl so (fun q1 q2 => ef_store (sz := sz3) rfl rfl rfl q1 q2) ?_; intro w32 h so
   obtain ⟨q33, h⟩ := h
   replace t_b1 := pv_bk q33 t_b1 (by simp)
   refine wl_nil (wk_tq trivial ?_)
   refine wo_done (by kernel_rfl) (wk_prune [(1, .pointer (some (⟨b1, 0, none⟩ : Addr))), (5, .pointer (some (⟨b9, 0, none⟩ : Addr))), (6, .int .i64 s13.1), (7, .int .i64 s13.2.1), (8, .int .i64 s13.2.2), (9, .int .i64 x19)] ⟨rfl, rfl, rfl, rfl, rfl, rfl, trivial⟩ fun f1 => wk_then (wc_seq (wc_seq (wc_region (wl_val (at_move rfl) rfl (wl_val (at_move rfl) rfl (wl_nil (wk_prune [(1, .pointer (some (⟨b1, 0, none⟩ : Addr))), (5, .pointer (some (⟨b9, 0, none⟩ : Addr))), (6, .int .i64 s13.1), (7, .int .i64 s13.2.1), (8, .int .i64 s13.2.2), (49, .int .i64 x19), (50, .int .i64 0)] ⟨rfl, rfl, rfl, rfl, rfl, rfl, rfl, trivial⟩ fun f1 => wk_then (wc_block ?_)))))))))
   obtain ⟨k34, h⟩ := h
   refine wc_loop (fun k a w => ∃ (s36 : Int × Int × Int) (f1 : Nat → Value), a = ac 81 (en f1 [(1, .pointer (some (⟨b1, 0, none⟩ : Addr))), (5, .pointer (some (⟨b9, 0, none⟩ : Addr))), (6, .int .i64 s36.1), (7, .int .i64 s36.2.1), (8, .int .i64 s13.2.2), (49, .int .i64 x19), (50, .int .i64 s36.2.2)]) [] ∧ Sm w0 w ∧ (Bk w.heap b1 29 (c29 a0_0 a0_1) ∧ True) ∧ Fix _ k s36 w.heap) k34 ⟨(s13.1, s13.2.1, 0), _, ac_again ⟨rfl, rfl, rfl, rfl, rfl, rfl, rfl, trivial⟩, so, ⟨t_b1, trivial⟩, h⟩ ?_
   rintro k35 a38 w37 ⟨s36, f1, rfl, so, ⟨t_b1, _⟩, h⟩
   rcases k35 with _ | k35
   ·exact h.elim
   replace h := Fix.un h; refine wc_in ?_
   refine wc_seq (wc_region (wl_val (at_lss rfl rfl) rfl (wl_nil (wk_prune [(1, .pointer (some (⟨b1, 0, none⟩ : Addr))), (5, .pointer (some (⟨b9, 0, none⟩ : Addr))), (6, .int .i64 s36.1), (7, .int .i64 s36.2.1), (8, .int .i64 s13.2.2), (49, .int .i64 x19), (50, .int .i64 s36.2.2), (51, .bool (decide (s36.2.2 < x19)))] ⟨rfl, rfl, rfl, rfl, rfl, rfl, rfl, rfl, trivial⟩ fun f1 => wk_then (wc_seq (wc_cond rfl h (fun h => ?_) (fun h => ?_)))))))
   ·refine wc_skip (wk_prune [(1, .pointer (some (⟨b1, 0, none⟩ : Addr))), (5, .pointer (some (⟨b9, 0, none⟩ : Addr))), (6, .int .i64 s36.1), (7, .int .i64 s36.2.1), (8, .int .i64 s13.2.2), (49, .int .i64 x19), (50, .int .i64 s36.2.2)] ⟨rfl, rfl, rfl, rfl, rfl, rfl, rfl, trivial⟩ fun f1 => wk_then (wc_seq (wc_block (wc_seq (wc_region (wl_val (at_move rfl) rfl (wl_val (at_nilCheck rfl) rfl (wl_val (at_fieldAddr Try.underlying114 rfl rfl sz27 (by decide) rfl) rfl ?_))))))))
    obtain ⟨x40, q41, h⟩ := h
    refine wl_val (at_load Try.underlying27 rfl rfl q41) rfl (wl_val (at_move rfl) rfl ?_)
    obtain ⟨q42, q43, p44, q45, h⟩ := h
    refine wl_val (at_ixAddrL Try.underlying27 sz5 (sl_some q45) rfl q42 q43) rfl ?_
    obtain ⟨x46, q47, h⟩ := h
    refine wl_val (at_load Try.underlying5 rfl rfl q47) rfl (wl_val (at_assign rfl) rfl (wl_nil (wk_prune [(1, .pointer (some (⟨b1, 0, none⟩ : Addr))), (5, .pointer (some (⟨b9, 0, none⟩ : Addr))), (6, .int .i64 s36.1), (7, .int .i64 s36.2.1), (8, .int .i64 s13.2.2), (10, .int .u8 x46), (49, .int .i64 x19), (50, .int .i64 s36.2.2)] ⟨rfl, rfl, rfl, rfl, rfl, rfl, rfl, rfl, trivial⟩ fun f1 => wk_then (wc_seq ?_))))
    refine wc_wo [0, 0, 0, 0, 0, 16, 0, 64, 1, 257, 819, 1843, 4, 4100, 16383, 32767] mixed (by kernel_rfl) so ?_; intro w48 hw so; rw [← hw] at h t_b1; clear hw
    refine wo_pure (m' := 1) 0 rfl (by kernel_rfl) rfl rfl (fun H => at_move rfl) (wo_pure (m' := 3) 1 rfl (by kernel_rfl) rfl rfl (fun H => at_move rfl) (wo_pure (m' := 7) 2 rfl (by kernel_rfl) rfl rfl (fun H => at_move rfl) (wo_pure (m' := 15) 3 rfl (by kernel_rfl) rfl rfl (fun H => at_move rfl) (wo_pure (m' := 31) 4 rfl (by kernel_rfl) rfl rfl (fun H => at_move rfl) (wo_pure (m' := 63) 5 rfl (by kernel_rfl) rfl rfl (fun H => at_conv Try.underlying3 Try.underlying64 rfl) (wo_pure (m' := 127) 6 rfl (by kernel_rfl) rfl rfl (fun H => at_move rfl) (wo_pure (m' := 255) 7 rfl (by kernel_rfl) rfl rfl (fun H => at_conv Try.underlying3 Try.underlying5 rfl) (wo_pure (m' := 511) 8 rfl (by kernel_rfl) rfl rfl (fun H => at_nilCheck rfl) (wo_pure (m' := 1023) 9 rfl (by kernel_rfl) rfl rfl (fun H => at_fieldAddr Try.underlying114 rfl rfl sz110 (by decide) rfl) ?_)))))))))
    obtain ⟨q49, q50, h⟩ := h
    refine wo_pure (m' := 2047) 10 rfl (by kernel_rfl) rfl rfl (fun H => at_ixAddrA Try.underlying110 sz64 rfl rfl q49 q50) (wo_pure (m' := 6143) 12 rfl (by kernel_rfl) rfl rfl (fun H => at_nilCheck rfl) (wo_pure (m' := 14335) 13 rfl (by kernel_rfl) rfl rfl (fun H => at_fieldAddr Try.underlying114 rfl rfl sz111 (by decide) rfl) (wo_take (m' := 16383) 11 [] rfl (by kernel_rfl) rfl (by kernel_rfl) ?_)))
    refine wl_st (v := .int .u16 (IntKind.wrap .u16 s36.1)) h rfl so (fun q1 q2 => ef_store (sz := sz64) rfl rfl rfl q1 q2) ?_; intro w51 h so
    obtain ⟨q52, h⟩ := h
    replace t_b1 := pv_bk q52 t_b1 (by simp)
    refine wl_nil (wk_tq trivial ?_)
    obtain ⟨q53, q54, h⟩ := h
    refine wo_pure (m' := 32767) 14 rfl (by kernel_rfl) rfl rfl (fun H => at_ixAddrA Try.underlying111 sz5 rfl rfl q53 q54) (wo_take (m' := 65535) 15 [] rfl (by kernel_rfl) rfl (by kernel_rfl) ?_)
    refine wl_st (v := .int .u8 (IntKind.wrap .u8 s13.2.2)) h rfl so (fun q1 q2 => ef_store (sz := sz5) rfl rfl rfl q1 q2) ?_; intro w55 h so
    obtain ⟨q56, h⟩ := h
    replace t_b1 := pv_bk q56 t_b1 (by simp)
    refine wl_nil (wk_tq trivial ?_)
    exact wo_done (by kernel_rfl) (wk_prune [(1, .pointer (some (⟨b1, 0, none⟩ : Addr))), (5, .pointer (some (⟨b9, 0, none⟩ : Addr))), (6, .int .i64 s36.1), (7, .int .i64 s36.2.1), (8, .int .i64 s13.2.2), (49, .int .i64 x19), (50, .int .i64 s36.2.2)] ⟨rfl, rfl, rfl, rfl, rfl, rfl, rfl, trivial⟩ fun f1 => wk_then (wc_seq (wc_region (wl_val (at_move rfl) rfl (wl_val (at_add rfl rfl) rfl (wl_val (at_assign rfl) rfl (wl_nil (wk_prune [(1, .pointer (some (⟨b1, 0, none⟩ : Addr))), (5, .pointer (some (⟨b9, 0, none⟩ : Addr))), (6, .int .i64 (IntKind.wrap .i64 (s36.1 + 1))), (7, .int .i64 s36.2.1), (8, .int .i64 s13.2.2), (49, .int .i64 x19), (50, .int .i64 s36.2.2)] ⟨rfl, rfl, rfl, rfl, rfl, rfl, rfl, trivial⟩ fun f1 => wk_then (wc_region (wl_val (at_move rfl) rfl (wl_val (at_add rfl rfl) rfl (wl_val (at_assign rfl) rfl (wl_nil (wk_blkN (wk_prune [(1, .pointer (some (⟨b1, 0, none⟩ : Addr))), (5, .pointer (some (⟨b9, 0, none⟩ : Addr))), (6, .int .i64 (IntKind.wrap .i64 (s36.1 + 1))), (7, .int .i64 (IntKind.wrap .i64 (s36.2.1 + 1))), (8, .int .i64 s13.2.2), (49, .int .i64 x19), (50, .int .i64 s36.2.2)] ⟨rfl, rfl, rfl, rfl, rfl, rfl, rfl, trivial⟩ fun f1 => wk_then (wc_region (wl_val (at_add rfl rfl) rfl (wl_val (at_move rfl) rfl (wl_nil (wk_again ⟨((IntKind.wrap .i64 (s36.1 + 1)), (IntKind.wrap .i64 (s36.2.1 + 1)), (IntKind.wrap .i64 (s36.2.2 + 1))), _, ac_again ⟨rfl, rfl, rfl, rfl, rfl, rfl, rfl, trivial⟩, so, ⟨t_b1, trivial⟩, h⟩))))))))))))))))))))
   ·exact wc_exit (wk_thenE (wk_thenE (wk_blkE (wk_prune [(1, .pointer (some (⟨b1, 0, none⟩ : Addr))), (5, .pointer (some (⟨b9, 0, none⟩ : Addr))), (6, .int .i64 s36.1), (7, .int .i64 s36.2.1), (8, .int .i64 s13.2.2)] ⟨rfl, rfl, rfl, rfl, rfl, trivial⟩ fun f1 => wk_then (wc_region (wl_val (at_move rfl) rfl (wl_val (at_shl rfl rfl (by decide)) rfl (wl_val (at_assign rfl) rfl (wl_nil (wk_blkN (wk_prune [(1, .pointer (some (⟨b1, 0, none⟩ : Addr))), (5, .pointer (some (⟨b9, 0, none⟩ : Addr))), (6, .int .i64 (shlI .i64 s36.1 1)), (7, .int .i64 s36.2.1), (8, .int .i64 s13.2.2)] ⟨rfl, rfl, rfl, rfl, rfl, trivial⟩ fun f1 => wk_then (wc_region (wl_val (at_move rfl) rfl (wl_val (at_add rfl rfl) rfl (wl_val (at_assign rfl) rfl (wl_nil (wk_again ⟨((shlI .i64 s36.1 1), s36.2.1, (IntKind.wrap .i64 (s13.2.2 + 1))), _, ac_again ⟨rfl, rfl, rfl, rfl, rfl, trivial⟩, so, ⟨t_b1, trivial⟩, h⟩)))))))))))))))))
  ·exact wc_exit (wk_thenE (wk_thenE (wk_blkE (wk_prune [(5, .pointer (some (⟨b9, 0, none⟩ : Addr)))] ⟨rfl, trivial⟩ fun f1 => wk_then (wc_seq (wc_region (wl_val (at_move rfl) rfl (wl_val (at_assign rfl) rfl (wl_val (at_assign rfl) rfl (wl_nil (wk_prune [(2, .pointer (some (⟨b9, 0, none⟩ : Addr))), (3, .int .i64 0)] ⟨rfl, rfl, trivial⟩ fun f1 => wk_then (wc_ret (wk_ret2 (x := ((some (⟨b9, 0, none⟩ : Addr)), 0)) rfl (by decide) (by decide) rfl so h)))))))))))))
def huff_Table_Write.enc : Bool → Value := fun r => .bool r
def huff_Table_Write.s (a0 : Option Addr) (a1 : Option Addr) (a2 : Int) (H0 : Hp) (Q : Bool → Hp → Prop) : Prop :=
 Join (fun (s2 : Bool) (H3 : Hp) => if s2 = true then (Q false H3) else (someA a0 (fun p5 => 0 ≤ a2 ∧ a2 < (256 : Int) ∧ (0 ≤ a2 ∧ a2 < (256 : Int) ∧ (ldI .u16 H3 ((p5.add 0).add (Int.toNat a2 * 1)) (fun x11 => ldI .u8 H3 ((p5.add 256).add (Int.toNat a2 * 1)) (fun x13 => bits_Sink_Put.s a1 (IntKind.wrap .i64 x11) (IntKind.wrap .i64 x13) H3 (fun x15 H16 => Q x15 H16)))))))) (fun (J1 : Bool → Hp → Prop) => if a1.isNone = true then (J1 (true) H0) else (someA a0 (fun p17 => 0 ≤ a2 ∧ a2 < (256 : Int) ∧ (ldI .u8 H0 ((p17.add 256).add (Int.toNat a2 * 1)) (fun x21 => J1 ((x21 == 0)) H0)))))
theorem huff_Table_Write.calls (a0 : Option Addr) (a1 : Option Addr) (a2 : Int) (w0 : World) (Q : Bool → Hp → Prop) (h : huff_Table_Write.s a0 a1 a2 w0.heap Q) :
  Ca Try.prog 18 #[.pointer a0, .pointer a1, .int .u8 a2] w0 (Rt huff_Table_Write.enc Q w0) := by
 refine ca_start (c := _) Try.func18 rfl Try.ntmps18 rfl ?_
 have so : Sm w0 w0 := Sm.refl w0
 unfold huff_Table_Write.s at h
 refine wc_prune [(0, .pointer a0), (1, .pointer a1), (2, .int .u8 a2)] ⟨rfl, rfl, rfl, trivial⟩ (fun f1 => ?_)
 refine wc_seq (wc_region (wl_val (at_assign rfl) rfl (wl_nil (wk_prune [(0, .pointer a0), (1, .pointer a1), (2, .int .u8 a2)] ⟨rfl, rfl, rfl, trivial⟩ fun f1 => wk_then (wc_seq (wc_seq (wc_join (w0 := w0) (fun (s2 : Bool) => [(0, .pointer a0), (1, .pointer a1), (2, .int .u8 a2), (17, .bool s2)]) h ?_ ?_)))))))
 ·rintro s2 w3 f1 h so; refine wk_then ?_
  refine wc_cond rfl h (fun h => ?_) (fun h => ?_)
  ·exact wc_seq (wc_region (wl_val (at_assign rfl) rfl (wl_nil (wk_prune [(6, .bool false)] ⟨rfl, trivial⟩ fun f1 => wk_then (wc_ret (wk_thenR (wk_ret1 (x := false) rfl (by decide) rfl so h)))))))
  ·refine wc_skip (wk_prune [(0, .pointer a0), (1, .pointer a1), (2, .int .u8 a2)] ⟨rfl, rfl, rfl, trivial⟩ fun f1 => wk_then (wc_seq ?_))
   refine wc_wo [0, 0, 0, 2, 10, 30, 62, 126, 0, 0, 256, 1280, 3840, 7936, 16128, 32767, 65535] mixed (by kernel_rfl) so ?_; intro w4 hw so; rw [← hw] at h; clear hw
   refine wo_pure (m' := 1) 0 rfl (by kernel_rfl) rfl rfl (fun H => at_move rfl) (wo_pure (m' := 3) 1 rfl (by kernel_rfl) rfl rfl (fun H => at_move rfl) (wo_pure (m' := 7) 2 rfl (by kernel_rfl) rfl rfl (fun H => at_move rfl) ?_))
   obtain ⟨p5, q6, h⟩ := h
   refine wo_pure (m' := 15) 3 rfl (by kernel_rfl) rfl rfl (fun H => at_nilCheck (congrArg Value.pointer q6)) (wo_pure (m' := 31) 4 rfl (by kernel_rfl) rfl rfl (fun H => at_fieldAddr Try.underlying114 rfl rfl sz110 (by decide) rfl) ?_)
   obtain ⟨q7, q8, h⟩ := h
   refine wo_pure (m' := 63) 5 rfl (by kernel_rfl) rfl rfl (fun H => at_ixAddrA Try.underlying110 sz64 rfl rfl q7 q8) (wo_pure (m' := 319) 8 rfl (by kernel_rfl) rfl rfl (fun H => at_move rfl) (wo_pure (m' := 831) 9 rfl (by kernel_rfl) rfl rfl (fun H => at_move rfl) (wo_pure (m' := 1855) 10 rfl (by kernel_rfl) rfl rfl (fun H => at_nilCheck (congrArg Value.pointer q6)) (wo_pure (m' := 3903) 11 rfl (by kernel_rfl) rfl rfl (fun H => at_fieldAddr Try.underlying114 rfl rfl sz111 (by decide) rfl) ?_))))
   obtain ⟨q9, q10, h⟩ := h
   refine wo_pure (m' := 7999) 12 rfl (by kernel_rfl) rfl rfl (fun H => at_ixAddrA Try.underlying111 sz5 rfl rfl q9 q10) ?_
   obtain ⟨x11, q12, h⟩ := h
   refine wo_load (m' := 8063) 6 (fun H => cellAt H ((p5.add 0).add (Int.toNat a2 * 1)) = some (.int .u16 x11)) rfl (by kernel_rfl) rfl rfl (fun H q12 => at_load Try.underlying64 rfl rfl q12) q12 (wo_pure (m' := 8191) 7 rfl (by kernel_rfl) rfl rfl (fun H => at_conv Try.underlying64 Try.underlying3 rfl) ?_)
   obtain ⟨x13, q14, h⟩ := h
   refine wo_load (m' := 16383) 13 (fun H => cellAt H ((p5.add 256).add (Int.toNat a2 * 1)) = some (.int .u8 x13)) rfl (by kernel_rfl) rfl rfl (fun H q14 => at_load Try.underlying5 rfl rfl q14) q14 (wo_pure (m' := 32767) 14 rfl (by kernel_rfl) rfl rfl (fun H => at_conv Try.underlying5 Try.underlying3 rfl) (wo_take (m' := 65535) 15 [true, true] rfl (by kernel_rfl) rfl (by kernel_rfl) ?_))
   refine wl_callF (bits_Sink_Put.calls _ _ _ _ _ h) enter19 rfl trivial so ?_; intro x15 w16 h so
   refine wl_nil (wk_tq trivial ?_)
   exact wo_pure (m' := 131071) 16 rfl (by kernel_rfl) rfl rfl (fun H => at_assign rfl) (wo_done (by kernel_rfl) (wk_prune [(6, .bool x15)] ⟨rfl, trivial⟩ fun f1 => wk_then (wc_ret (wk_ret1 (x := x15) rfl (by decide) rfl so h))))
 ·intro J1 h hJ1
  refine wc_region (wl_val (at_move rfl) rfl (wl_val (at_eqlP Try.underlying61 rfl rfl) rfl (wl_val (at_move rfl) rfl (bif_ h (fun hb h => ?_) (fun hb h => ?_)))))
  ·refine wl_set (t := 9) (v := .bool true) (congrArg Value.bool hb) ?_; clear hb
   exact wl_off (t := 9) rfl (by decide) rfl (wl_off (t := 9) rfl (by decide) rfl (wl_off (t := 9) rfl (by decide) rfl (wl_off (t := 9) rfl (by decide) rfl (wl_off (t := 9) rfl (by decide) rfl (wl_off (t := 9) rfl (by decide) rfl (wl_off (t := 9) rfl (by decide) rfl (wl_val (at_pick_t rfl rfl) rfl (wl_nil (wk_prune [(0, .pointer a0), (1, .pointer a1), (2, .int .u8 a2), (17, .bool true)] ⟨rfl, rfl, rfl, rfl, trivial⟩ (fun f1 => hJ1 (true) _ f1 h so))))))))))
  ·refine wl_set (t := 9) (v := .bool false) (congrArg Value.bool hb) ?_; clear hb
   refine wl_on (t := 9) rfl (by decide) rfl (wl_val (at_move rfl) rfl (wl_on (t := 9) rfl (by decide) rfl (wl_val (at_move rfl) rfl (wl_on (t := 9) rfl (by decide) rfl ?_))))
   obtain ⟨p17, q18, h⟩ := h
   refine wl_val (at_nilCheck (congrArg Value.pointer q18)) rfl (wl_on (t := 9) rfl (by decide) rfl (wl_val (at_fieldAddr Try.underlying114 rfl rfl sz111 (by decide) rfl) rfl (wl_on (t := 9) rfl (by decide) rfl ?_)))
   obtain ⟨q19, q20, h⟩ := h
   refine wl_val (at_ixAddrA Try.underlying111 sz5 rfl rfl q19 q20) rfl (wl_on (t := 9) rfl (by decide) rfl ?_)
   obtain ⟨x21, q22, h⟩ := h
   exact wl_val (at_load Try.underlying5 rfl rfl q22) rfl (wl_on (t := 9) rfl (by decide) rfl (wl_val (at_eql rfl rfl) rfl (wl_val (at_pick_f rfl rfl) rfl (wl_nil (wk_prune [(0, .pointer a0), (1, .pointer a1), (2, .int .u8 a2), (17, .bool (x21 == 0))] ⟨rfl, rfl, rfl, rfl, trivial⟩ (fun f1 => hJ1 ((x21 == 0)) _ f1 h so))))))
def huff_Table_Code.enc : Int × Int → Value := fun r => .tuple #[.int .u16 r.1, .int .i64 r.2]
def huff_Table_begins.enc : Bool → Value := fun r => .bool r
def huff_Table_begins.s (a0 : Option Addr) (a1 : Int) (a2 : Int) (H0 : Hp) (Q : Bool → Hp → Prop) : Prop :=
 ∃ k1, Fix (fun (rec6 : Int → Hp → Prop) (s3 : Int) (H4 : Hp) => if decide (s3 ≤ 16) = true then (0 ≤ (IntKind.wrap .i64 (s3 - a2)) ∧ (0 ≤ (IntKind.wrap .i64 (s3 - a2)) ∧ (Lt ((Go.bits .or .i64 (shlI .i64 a1 (IntKind.wrap .i64 (s3 - a2))) (IntKind.wrap .i64 ((shlI .i64 1 (IntKind.wrap .i64 (s3 - a2))) - 1))) : Int) (fun x9 => Join (fun (s12 : Bool) (H13 : Hp) => if s12 = true then (Q true H13) else (rec6 ((IntKind.wrap .i64 (s3 + 1))) H13)) (fun (J11 : Bool → Hp → Prop) => someA a0 (fun p15 => 0 ≤ s3 ∧ s3 < (17 : Int) ∧ (ldI .i64 H4 ((p15.add 529).add (Int.toNat s3 * 1)) (fun x19 => if decide ((0 : Int) < x19) = true then (0 ≤ s3 ∧ s3 < (17 : Int) ∧ (0 ≤ s3 ∧ s3 < (17 : Int) ∧ (ldI .i64 H4 ((p15.add 512).add (Int.toNat s3 * 1)) (fun x25 => ldI .i64 H4 ((p15.add 529).add (Int.toNat s3 * 1)) (fun x27 => if decide ((shlI .i64 a1 (IntKind.wrap .i64 (s3 - a2))) < (IntKind.wrap .i64 (x25 + x27))) = true then (0 ≤ s3 ∧ s3 < (17 : Int) ∧ (ldI .i64 H4 ((p15.add 512).add (Int.toNat s3 * 1)) (fun x31 => J11 ((decide (x31 ≤ x9))) H4))) else (J11 (false) H4)))))) else (J11 (false) H4))))))))) else (Q false H4)) k1 ((IntKind.wrap .i64 (a2 + 1))) H0
theorem huff_Table_begins.calls (a0 : Option Addr) (a1 : Int) (a2 : Int) (w0 : World) (Q : Bool → Hp → Prop) (h : huff_Table_begins.s a0 a1 a2 w0.heap Q) :
  Ca Try.prog 68 #[.pointer a0, .int .i64 a1, .int .i64 a2] w0 (Rt huff_Table_begins.enc Q w0) := by
 refine ca_start (c := _) Try.func68 rfl Try.ntmps68 rfl ?_
 have so : Sm w0 w0 := Sm.refl w0
 unfold huff_Table_begins.s at h
 refine wc_prune [(0, .pointer a0), (1, .int .i64 a1), (2, .int .i64 a2)] ⟨rfl, rfl, rfl, trivial⟩ (fun f1 => ?_)
 refine wc_seq (wc_region (wl_val (at_assign rfl) rfl (wl_nil (wk_prune [(0, .pointer a0), (1, .int .i64 a1), (2, .int .i64 a2)] ⟨rfl, rfl, rfl, trivial⟩ fun f1 => wk_then (wc_seq (wc_seq (wc_region (wl_val (at_move rfl) rfl (wl_val (at_add rfl rfl) rfl (wl_val (at_assign rfl) rfl (wl_nil (wk_prune [(0, .pointer a0), (1, .int .i64 a1), (2, .int .i64 a2), (7, .int .i64 (IntKind.wrap .i64 (a2 + 1)))] ⟨rfl, rfl, rfl, rfl, trivial⟩ fun f1 => wk_then (wc_block ?_)))))))))))))
 obtain ⟨k1, h⟩ := h
 refine wc_loop (fun k a w => ∃ (s3 : Int) (f1 : Nat → Value), a = ac 62 (en f1 [(0, .pointer a0), (1, .int .i64 a1), (2, .int .i64 a2), (7, .int .i64 s3)]) [] ∧ Sm w0 w ∧ Fix _ k s3 w.heap) k1 ⟨((IntKind.wrap .i64 (a2 + 1))), _, ac_again ⟨rfl, rfl, rfl, rfl, trivial⟩, so, h⟩ ?_
 rintro k2 a5 w4 ⟨s3, f1, rfl, so, h⟩
 rcases k2 with _ | k2
 ·exact h.elim
 replace h := Fix.un h; refine wc_in ?_
 refine wc_seq (wc_seq (wc_region (wl_val (at_move rfl) rfl (wl_val (at_leq rfl rfl) rfl (wl_nil (wk_prune [(0, .pointer a0), (1, .int .i64 a1), (2, .int .i64 a2), (7, .int .i64 s3), (13, .bool (decide (s3 ≤ 16)))] ⟨rfl, rfl, rfl, rfl, rfl, trivial⟩ fun f1 => wk_then (wc_cond rfl h (fun h => ?_) (fun h => ?_))))))))
 ·refine wc_skip (wk_prune [(0, .pointer a0), (1, .int .i64 a1), (2, .int .i64 a2), (7, .int .i64 s3)] ⟨rfl, rfl, rfl, rfl, trivial⟩ fun f1 => wk_then (wc_seq (wc_block (wc_seq (wc_region (wl_val (at_move rfl) rfl (wl_val (at_move rfl) rfl (wl_val (at_move rfl) rfl (wl_val (at_sub rfl rfl) rfl ?_)))))))))
  obtain ⟨q7, h⟩ := h
  refine wl_val (at_shl rfl rfl q7) rfl (wl_val (at_assign rfl) rfl (wl_nil (wk_prune [(0, .pointer a0), (1, .int .i64 a1), (2, .int .i64 a2), (7, .int .i64 s3), (8, .int .i64 (shlI .i64 a1 (IntKind.wrap .i64 (s3 - a2))))] ⟨rfl, rfl, rfl, rfl, rfl, trivial⟩ fun f1 => wk_then (wc_seq (wc_region (wl_val (at_move rfl) rfl (wl_val (at_move rfl) rfl (wl_val (at_move rfl) rfl (wl_val (at_sub rfl rfl) rfl ?_)))))))))
  obtain ⟨q8, h⟩ := h
  refine wl_val (at_shl rfl rfl q8) rfl (wl_val (at_sub rfl rfl) rfl (wl_val (at_or rfl rfl) rfl (wl_val (at_assign rfl) rfl ?_)))
  obtain ⟨x9, e10⟩ : ∃ x : Int, x = (Go.bits .or .i64 (shlI .i64 a1 (IntKind.wrap .i64 (s3 - a2))) (IntKind.wrap .i64 ((shlI .i64 1 (IntKind.wrap .i64 (s3 - a2))) - 1))) := ⟨_, rfl⟩; replace h := h x9 e10
  refine wl_set (t := 9) (v := .int .i64 x9) (congrArg (Value.int .i64) e10.symm) (wl_nil (wk_prune [(0, .pointer a0), (1, .int .i64 a1), (2, .int .i64 a2), (7, .int .i64 s3), (8, .int .i64 (shlI .i64 a1 (IntKind.wrap .i64 (s3 - a2)))), (9, .int .i64 x9)] ⟨rfl, rfl, rfl, rfl, rfl, rfl, trivial⟩ fun f1 => wk_then (wc_seq (wc_join (w0 := w0) (fun (s12 : Bool) => [(0, .pointer a0), (1, .int .i64 a1), (2, .int .i64 a2), (7, .int .i64 s3), (61, .bool s12)]) h ?_ ?_))))
  ·rintro s12 w13 f1 h so; refine wk_then ?_
   refine wc_cond rfl h (fun h => ?_) (fun h => ?_)
   ·exact wc_seq (wc_region (wl_val (at_assign rfl) rfl (wl_nil (wk_prune [(6, .bool true)] ⟨rfl, trivial⟩ fun f1 => wk_then (wc_ret (wk_blkR (wk_thenR (wk_thenR (wk_blkR (wk_thenR (wk_ret1 (x := true) rfl (by decide) rfl so h)))))))))))
   ·exact wc_skip (wk_blkN (wk_prune [(0, .pointer a0), (1, .int .i64 a1), (2, .int .i64 a2), (7, .int .i64 s3)] ⟨rfl, rfl, rfl, rfl, trivial⟩ fun f1 => wk_then (wc_region (wl_val (at_move rfl) rfl (wl_val (at_add rfl rfl) rfl (wl_val (at_assign rfl) rfl (wl_nil (wk_again ⟨((IntKind.wrap .i64 (s3 + 1))), _, ac_again ⟨rfl, rfl, rfl, rfl, trivial⟩, so, h⟩))))))))
  ·intro J11 h hJ11
   refine wc_wo [0, 0, 1, 5, 15, 31, 63, 127, 255, 255, 255, 767, 2815, 7935, 16127, 255, 255, 33023, 164095, 491775, 1016063, 2096895, 4194303, 8388607, 16777215, 33554431, 33554431, 33554431, 100663295, 369098751, 1040187391, 2113929215, 4294967295, 8589934591] mixed (by kernel_rfl) so ?_; intro w14 hw so; rw [← hw] at h; clear hw
   refine wo_pure (m' := 1) 0 rfl (by kernel_rfl) rfl rfl (fun H => at_move rfl) (wo_pure (m' := 3) 1 rfl (by kernel_rfl) rfl rfl (fun H => at_move rfl) ?_)
   obtain ⟨p15, q16, h⟩ := h
   refine wo_pure (m' := 7) 2 rfl (by kernel_rfl) rfl rfl (fun H => at_nilCheck (congrArg Value.pointer q16)) (wo_pure (m' := 15) 3 rfl (by kernel_rfl) rfl rfl (fun H => at_fieldAddr Try.underlying114 rfl rfl sz112 (by decide) rfl) ?_)
   obtain ⟨q17, q18, h⟩ := h
   refine wo_pure (m' := 31) 4 rfl (by kernel_rfl) rfl rfl (fun H => at_ixAddrA Try.underlying112 sz3 rfl rfl q17 q18) ?_
   obtain ⟨x19, q20, h⟩ := h
   refine wo_load (m' := 63) 5 (fun H => cellAt H ((p15.add 529).add (Int.toNat s3 * 1)) = some (.int .i64 x19)) rfl (by kernel_rfl) rfl rfl (fun H q20 => at_load Try.underlying3 rfl rfl q20) q20 (wo_pure (m' := 127) 6 rfl (by kernel_rfl) rfl rfl (fun H => at_gtr rfl rfl) (wo_pure (m' := 255) 7 rfl (by kernel_rfl) rfl rfl (fun H => at_move rfl) (bif_ h (fun hb h => ?_) (fun hb h => ?_))))
   ·refine wo_set (t := 35) (v := .bool true) (congrArg Value.bool hb) ?_; clear hb
    refine wo_pureG (m' := 511) 8 rfl (by kernel_rfl) rfl (t := 35) rfl (by decide) rfl (fun H => at_move rfl) (wo_pureG (m' := 1023) 9 rfl (by kernel_rfl) rfl (t := 35) rfl (by decide) rfl (fun H => at_move rfl) (wo_pureG (m' := 2047) 10 rfl (by kernel_rfl) rfl (t := 35) rfl (by decide) rfl (fun H => at_move rfl) (wo_pureG (m' := 4095) 11 rfl (by kernel_rfl) rfl (t := 35) rfl (by decide) rfl (fun H => at_nilCheck (congrArg Value.pointer q16)) (wo_pureG (m' := 8191) 12 rfl (by kernel_rfl) rfl (t := 35) rfl (by decide) rfl (fun H => at_fieldAddr Try.underlying114 rfl rfl sz112 (by decide) rfl) ?_))))
    obtain ⟨q21, q22, h⟩ := h
    refine wo_pureG (m' := 16383) 13 rfl (by kernel_rfl) rfl (t := 35) rfl (by decide) rfl (fun H => at_ixAddrA Try.underlying112 sz3 rfl rfl q21 q22) (wo_pureG (m' := 49151) 15 rfl (by kernel_rfl) rfl (t := 35) rfl (by decide) rfl (fun H => at_move rfl) (wo_pureG (m' := 114687) 16 rfl (by kernel_rfl) rfl (t := 35) rfl (by decide) rfl (fun H => at_move rfl) (wo_pureG (m' := 245759) 17 rfl (by kernel_rfl) rfl (t := 35) rfl (by decide) rfl (fun H => at_nilCheck (congrArg Value.pointer q16)) (wo_pureG (m' := 507903) 18 rfl (by kernel_rfl) rfl (t := 35) rfl (by decide) rfl (fun H => at_fieldAddr Try.underlying114 rfl rfl sz112 (by decide) rfl) ?_))))
    obtain ⟨q23, q24, h⟩ := h
    refine wo_pureG (m' := 1032191) 19 rfl (by kernel_rfl) rfl (t := 35) rfl (by decide) rfl (fun H => at_ixAddrA Try.underlying112 sz3 rfl rfl q23 q24) ?_
    obtain ⟨x25, q26, h⟩ := h
    refine wo_loadG (m' := 1048575) 14 (fun H => cellAt H ((p15.add 512).add (Int.toNat s3 * 1)) = some (.int .i64 x25)) rfl (by kernel_rfl) rfl (t := 35) rfl (by decide) rfl (fun H q26 => at_load Try.underlying3 rfl rfl q26) q26 ?_
    obtain ⟨x27, q28, h⟩ := h
    refine wo_loadG (m' := 2097151) 20 (fun H => cellAt H ((p15.add 529).add (Int.toNat s3 * 1)) = some (.int .i64 x27)) rfl (by kernel_rfl) rfl (t := 35) rfl (by decide) rfl (fun H q28 => at_load Try.underlying3 rfl rfl q28) q28 (wo_pureG (m' := 4194303) 21 rfl (by kernel_rfl) rfl (t := 35) rfl (by decide) rfl (fun H => at_add rfl rfl) (wo_pureG (m' := 8388607) 22 rfl (by kernel_rfl) rfl (t := 35) rfl (by decide) rfl (fun H => at_lss rfl rfl) (wo_pure (m' := 16777215) 23 rfl (by kernel_rfl) rfl rfl (fun H => at_pick_t rfl rfl) (wo_pure (m' := 33554431) 24 rfl (by kernel_rfl) rfl rfl (fun H => at_move rfl) (bif_ h (fun hb h => ?_) (fun hb h => ?_))))))
    ·refine wo_set (t := 52) (v := .bool true) (congrArg Value.bool hb) ?_; clear hb
     refine wo_pureG (m' := 67108863) 25 rfl (by kernel_rfl) rfl (t := 52) rfl (by decide) rfl (fun H => at_move rfl) (wo_pureG (m' := 134217727) 26 rfl (by kernel_rfl) rfl (t := 52) rfl (by decide) rfl (fun H => at_move rfl) (wo_pureG (m' := 268435455) 27 rfl (by kernel_rfl) rfl (t := 52) rfl (by decide) rfl (fun H => at_move rfl) (wo_pureG (m' := 536870911) 28 rfl (by kernel_rfl) rfl (t := 52) rfl (by decide) rfl (fun H => at_nilCheck (congrArg Value.pointer q16)) (wo_pureG (m' := 1073741823) 29 rfl (by kernel_rfl) rfl (t := 52) rfl (by decide) rfl (fun H => at_fieldAddr Try.underlying114 rfl rfl sz112 (by decide) rfl) ?_))))
     obtain ⟨q29, q30, h⟩ := h
     refine wo_pureG (m' := 2147483647) 30 rfl (by kernel_rfl) rfl (t := 52) rfl (by decide) rfl (fun H => at_ixAddrA Try.underlying112 sz3 rfl rfl q29 q30) ?_
     obtain ⟨x31, q32, h⟩ := h
     exact wo_loadG (m' := 4294967295) 31 (fun H => cellAt H ((p15.add 512).add (Int.toNat s3 * 1)) = some (.int .i64 x31)) rfl (by kernel_rfl) rfl (t := 52) rfl (by decide) rfl (fun H q32 => at_load Try.underlying3 rfl rfl q32) q32 (wo_pureG (m' := 8589934591) 32 rfl (by kernel_rfl) rfl (t := 52) rfl (by decide) rfl (fun H => at_geq rfl rfl) (wo_pure (m' := 17179869183) 33 rfl (by kernel_rfl) rfl rfl (fun H => at_pick_t rfl rfl) (wo_done (by kernel_rfl) (wk_prune [(0, .pointer a0), (1, .int .i64 a1), (2, .int .i64 a2), (7, .int .i64 s3), (61, .bool (decide (x31 ≤ x9)))] ⟨rfl, rfl, rfl, rfl, rfl, trivial⟩ (fun f1 => hJ11 ((decide (x31 ≤ x9))) _ f1 h so)))))
    ·refine wo_set (t := 52) (v := .bool false) (congrArg Value.bool hb) ?_; clear hb
     exact wo_off (m' := 67108863) 25 rfl (by kernel_rfl) rfl (t := 52) rfl (by decide) rfl (wo_off (m' := 134217727) 26 rfl (by kernel_rfl) rfl (t := 52) rfl (by decide) rfl (wo_off (m' := 268435455) 27 rfl (by kernel_rfl) rfl (t := 52) rfl (by decide) rfl (wo_off (m' := 536870911) 28 rfl (by kernel_rfl) rfl (t := 52) rfl (by decide) rfl (wo_off (m' := 1073741823) 29 rfl (by kernel_rfl) rfl (t := 52) rfl (by decide) rfl (wo_off (m' := 2147483647) 30 rfl (by kernel_rfl) rfl (t := 52) rfl (by decide) rfl (wo_off (m' := 4294967295) 31 rfl (by kernel_rfl) rfl (t := 52) rfl (by decide) rfl (wo_off (m' := 8589934591) 32 rfl (by kernel_rfl) rfl (t := 52) rfl (by decide) rfl (wo_pure (m' := 17179869183) 33 rfl (by kernel_rfl) rfl rfl (fun H => at_pick_f rfl rfl) (wo_done (by kernel_rfl) (wk_prune [(0, .pointer a0), (1, .int .i64 a1), (2, .int .i64 a2), (7, .int .i64 s3), (61, .bool false)] ⟨rfl, rfl, rfl, rfl, rfl, trivial⟩ (fun f1 => hJ11 (false) _ f1 h so)))))))))))
   ·refine wo_set (t := 35) (v := .bool false) (congrArg Value.bool hb) ?_; clear hb
    exact wo_off (m' := 511) 8 rfl (by kernel_rfl) rfl (t := 35) rfl (by decide) rfl (wo_off (m' := 1023) 9 rfl (by kernel_rfl) rfl (t := 35) rfl (by decide) rfl (wo_off (m' := 2047) 10 rfl (by kernel_rfl) rfl (t := 35) rfl (by decide) rfl (wo_off (m' := 4095) 11 rfl (by kernel_rfl) rfl (t := 35) rfl (by decide) rfl (wo_off (m' := 8191) 12 rfl (by kernel_rfl) rfl (t := 35) rfl (by decide) rfl (wo_off (m' := 16383) 13 rfl (by kernel_rfl) rfl (t := 35) rfl (by decide) rfl (wo_off (m' := 32767) 14 rfl (by kernel_rfl) rfl (t := 35) rfl (by decide) rfl (wo_off (m' := 65535) 15 rfl (by kernel_rfl) rfl (t := 35) rfl (by decide) rfl (wo_off (m' := 131071) 16 rfl (by kernel_rfl) rfl (t := 35) rfl (by decide) rfl (wo_off (m' := 262143) 17 rfl (by kernel_rfl) rfl (t := 35) rfl (by decide) rfl (wo_off (m' := 524287) 18 rfl (by kernel_rfl) rfl (t := 35) rfl (by decide) rfl (wo_off (m' := 1048575) 19 rfl (by kernel_rfl) rfl (t := 35) rfl (by decide) rfl (wo_off (m' := 2097151) 20 rfl (by kernel_rfl) rfl (t := 35) rfl (by decide) rfl (wo_off (m' := 4194303) 21 rfl (by kernel_rfl) rfl (t := 35) rfl (by decide) rfl (wo_off (m' := 8388607) 22 rfl (by kernel_rfl) rfl (t := 35) rfl (by decide) rfl (wo_pure (m' := 16777215) 23 rfl (by kernel_rfl) rfl rfl (fun H => at_pick_f rfl rfl) (wo_pure (m' := 33554431) 24 rfl (by kernel_rfl) rfl rfl (fun H => at_move rfl) (wo_off (m' := 67108863) 25 rfl (by kernel_rfl) rfl (t := 52) rfl (by decide) rfl (wo_off (m' := 134217727) 26 rfl (by kernel_rfl) rfl (t := 52) rfl (by decide) rfl (wo_off (m' := 268435455) 27 rfl (by kernel_rfl) rfl (t := 52) rfl (by decide) rfl (wo_off (m' := 536870911) 28 rfl (by kernel_rfl) rfl (t := 52) rfl (by decide) rfl (wo_off (m' := 1073741823) 29 rfl (by kernel_rfl) rfl (t := 52) rfl (by decide) rfl (wo_off (m' := 2147483647) 30 rfl (by kernel_rfl) rfl (t := 52) rfl (by decide) rfl (wo_off (m' := 4294967295) 31 rfl (by kernel_rfl) rfl (t := 52) rfl (by decide) rfl (wo_off (m' := 8589934591) 32 rfl (by kernel_rfl) rfl (t := 52) rfl (by decide) rfl (wo_pure (m' := 17179869183) 33 rfl (by kernel_rfl) rfl rfl (fun H => at_pick_f rfl rfl) (wo_done (by kernel_rfl) (wk_prune [(0, .pointer a0), (1, .int .i64 a1), (2, .int .i64 a2), (7, .int .i64 s3), (61, .bool false)] ⟨rfl, rfl, rfl, rfl, rfl, trivial⟩ (fun f1 => hJ11 (false) _ f1 h so))))))))))))))))))))))))))))
 ·exact wc_exit (wk_thenE (wk_thenE (wk_blkE (wk_prune [] trivial fun f1 => wk_then (wc_seq (wc_region (wl_val (at_assign rfl) rfl (wl_nil (wk_prune [(6, .bool false)] ⟨rfl, trivial⟩ fun f1 => wk_then (wc_ret (wk_ret1 (x := false) rfl (by decide) rfl so h)))))))))))
def huff_Table_Read.enc : Int × Int → Value := fun r => .tuple #[.int .u8 r.1, .int .i64 r.2]
def huff_Table_Read.s (a0 : Option Addr) (a1 : Option Addr) (H0 : Hp) (Q : (Int × Int) → Hp → Prop) : Prop :=
 if a1.isNone = true then (Q (0, 2) H0) else (bits_Source_Peek.s a1 16 H0 (fun x1 H2 => bits_Source_Left.s a1 H2 (fun x3 H4 => ∃ k5, Fix (fun (rec10 : Int → Hp → Prop) (s7 : Int) (H8 : Hp) => if decide (s7 ≤ (if 16 < x3 then 16 else x3)) = true then (0 ≤ (IntKind.wrap .i64 ((16 : Int) - s7)) ∧ (someA a0 (fun p12 => 0 ≤ s7 ∧ s7 < (17 : Int) ∧ (ldI .i64 H8 ((p12.add 512).add (Int.toNat s7 * 1)) (fun x16 => Join (fun (s20 : Bool) (H21 : Hp) => if s20 = true then (bits_Source_Skip.s a1 s7 H21 (fun x22 H23 => ldL H23 (p12.add 563) (fun x24 => 0 ≤ s7 ∧ s7 < (17 : Int) ∧ (ldI .i64 H23 ((p12.add 546).add (Int.toNat s7 * 1)) (fun x28 => 0 ≤ (IntKind.wrap .i64 (x28 + (IntKind.wrap .i64 ((shrI .i64 x1.1 (IntKind.wrap .i64 ((16 : Int) - s7))) - x16)))) ∧ (IntKind.wrap .i64 (x28 + (IntKind.wrap .i64 ((shrI .i64 x1.1 (IntKind.wrap .i64 ((16 : Int) - s7))) - x16)))) < (x24.n : Int) ∧ someA x24.a (fun p32 => ldI .u8 H23 (p32.add (Int.toNat (IntKind.wrap .i64 (x28 + (IntKind.wrap .i64 ((shrI .i64 x1.1 (IntKind.wrap .i64 ((16 : Int) - s7))) - x16)))) * 1)) (fun x34 => Q (x34, 0) H23))))))) else (rec10 ((IntKind.wrap .i64 (s7 + 1))) H21)) (fun (J19 : Bool → Hp → Prop) => if decide ((0 : Int) ≤ (IntKind.wrap .i64 ((shrI .i64 x1.1 (IntKind.wrap .i64 ((16 : Int) - s7))) - x16))) = true then (0 ≤ s7 ∧ s7 < (17 : Int) ∧ (ldI .i64 H8 ((p12.add 529).add (Int.toNat s7 * 1)) (fun x39 => J19 ((decide ((IntKind.wrap .i64 ((shrI .i64 x1.1 (IntKind.wrap .i64 ((16 : Int) - s7))) - x16)) < x39))) H8))) else (J19 (false) H8))))))) else (Join (fun (s42 : Bool) (H43 : Hp) => if s42 = true then (Q (0, 44) H43) else (Q (0, 43) H43)) (fun (J41 : Bool → Hp → Prop) => if decide ((if 16 < x3 then 16 else x3) < 16) = true then (0 ≤ (IntKind.wrap .i64 ((16 : Int) - (if 16 < x3 then 16 else x3))) ∧ (huff_Table_begins.s a0 (shrI .i64 x1.1 (IntKind.wrap .i64 ((16 : Int) - (if 16 < x3 then 16 else x3)))) (if 16 < x3 then 16 else x3) H8 (fun x45 H46 => J41 (x45) H46))) else (J41 (false) H8)))) k5 (1) H4)))
theorem huff_Table_Read.calls (a0 : Option Addr) (a1 : Option Addr) (w0 : World) (Q : (Int × Int) → Hp → Prop) (h : huff_Table_Read.s a0 a1 w0.heap Q) :
  Ca Try.prog 47 #[.pointer a0, .pointer a1] w0 (Rt huff_Table_Read.enc Q w0) := by
 refine ca_start (c := _) Try.func47 rfl Try.ntmps47 rfl ?_
 have so : Sm w0 w0 := Sm.refl w0
 unfold huff_Table_Read.s at h
 refine wc_prune [(0, .pointer a0), (1, .pointer a1)] ⟨rfl, rfl, trivial⟩ (fun f1 => ?_)
 refine wc_seq (wc_region (wl_val (at_assign rfl) rfl (wl_val (at_assign rfl) rfl (wl_nil (wk_prune [(0, .pointer a0), (1, .pointer a1)] ⟨rfl, rfl, trivial⟩ fun f1 => wk_then (wc_seq (wc_seq (wc_region (wl_val (at_move rfl) rfl (wl_val (at_eqlP Try.underlying85 rfl rfl) rfl (wl_nil (wk_prune [(0, .pointer a0), (1, .pointer a1), (12, .bool a1.isNone)] ⟨rfl, rfl, rfl, trivial⟩ fun f1 => wk_then (wc_cond rfl h (fun h => ?_) (fun h => ?_))))))))))))))
 ·exact wc_seq (wc_region (wl_val (at_assign rfl) rfl (wl_val (at_assign rfl) rfl (wl_nil (wk_prune [(4, .int .u8 0), (5, .int .i64 2)] ⟨rfl, rfl, trivial⟩ fun f1 => wk_then (wc_ret (wk_thenR (wk_ret2 (x := (0, 2)) rfl (by decide) (by decide) rfl so h))))))))
 ·refine wc_skip (wk_prune [(0, .pointer a0), (1, .pointer a1)] ⟨rfl, rfl, trivial⟩ fun f1 => wk_then (wc_seq (wc_region (wl_val (at_move rfl) rfl ?_))))
  refine wl_callF (bits_Source_Peek.calls _ _ _ _ h) enter52 rfl trivial so ?_; intro x1 w2 h so
  refine wl_val (at_move rfl) rfl (wl_val (at_extract rfl rfl) rfl (wl_val (at_extract rfl rfl) rfl (wl_val (at_assign rfl) rfl (wl_val (at_assign rfl) rfl (wl_nil (wk_prune [(0, .pointer a0), (1, .pointer a1), (6, .int .i64 x1.1)] ⟨rfl, rfl, rfl, trivial⟩ fun f1 => wk_then (wc_seq (wc_region (wl_val (at_move rfl) rfl ?_)))))))))
  refine wl_callF (bits_Source_Left.calls _ _ _ h) enter31 rfl trivial so ?_; intro x3 w4 h so
  refine wl_val (at_min rfl rfl) rfl (wl_val (at_assign rfl) rfl (wl_nil (wk_prune [(0, .pointer a0), (1, .pointer a1), (6, .int .i64 x1.1), (8, .int .i64 (if 16 < x3 then 16 else x3))] ⟨rfl, rfl, rfl, rfl, trivial⟩ fun f1 => wk_then (wc_seq (wc_seq (wc_region (wl_val (at_assign rfl) rfl (wl_nil (wk_prune [(0, .pointer a0), (1, .pointer a1), (6, .int .i64 x1.1), (8, .int .i64 (if 16 < x3 then 16 else x3)), (9, .int .i64 1)] ⟨rfl, rfl, rfl, rfl, rfl, trivial⟩ fun f1 => wk_then (wc_block ?_))))))))))
  obtain ⟨k5, h⟩ := h
  refine wc_loop (fun k a w => ∃ (s7 : Int) (f1 : Nat → Value), a = ac 77 (en f1 [(0, .pointer a0), (1, .pointer a1), (6, .int .i64 x1.1), (8, .int .i64 (if 16 < x3 then 16 else x3)), (9, .int .i64 s7)]) [] ∧ Sm w0 w ∧ Fix _ k s7 w.heap) k5 ⟨(1), _, ac_again ⟨rfl, rfl, rfl, rfl, rfl, trivial⟩, so, h⟩ ?_
  rintro k6 a9 w8 ⟨s7, f1, rfl, so, h⟩
  rcases k6 with _ | k6
  ·exact h.elim
  replace h := Fix.un h; refine wc_in ?_
  refine wc_seq (wc_seq (wc_region (wl_val (at_move rfl) rfl (wl_val (at_move rfl) rfl (wl_val (at_leq rfl rfl) rfl (wl_nil (wk_prune [(0, .pointer a0), (1, .pointer a1), (6, .int .i64 x1.1), (8, .int .i64 (if 16 < x3 then 16 else x3)), (9, .int .i64 s7), (23, .bool (decide (s7 ≤ (if 16 < x3 then 16 else x3))))] ⟨rfl, rfl, rfl, rfl, rfl, rfl, trivial⟩ fun f1 => wk_then (wc_cond rfl h (fun h => ?_) (fun h => ?_)))))))))
  ·refine wc_skip (wk_prune [(0, .pointer a0), (1, .pointer a1), (6, .int .i64 x1.1), (8, .int .i64 (if 16 < x3 then 16 else x3)), (9, .int .i64 s7)] ⟨rfl, rfl, rfl, rfl, rfl, trivial⟩ fun f1 => wk_then (wc_seq (wc_block (wc_seq (wc_draw mixed (by kernel_rfl) so (wq_val (at_move rfl) rfl (wq_val (at_move rfl) rfl (wq_val (at_sub rfl rfl) rfl ?_))))))))
   obtain ⟨q11, h⟩ := h
   refine wq_val (at_shr rfl rfl q11) rfl (wq_val (at_move rfl) rfl (wq_val (at_move rfl) rfl ?_))
   obtain ⟨p12, q13, h⟩ := h
   refine wq_val (at_nilCheck (congrArg Value.pointer q13)) rfl (wq_val (at_fieldAddr Try.underlying114 rfl rfl sz112 (by decide) rfl) rfl ?_)
   obtain ⟨q14, q15, h⟩ := h
   refine wq_val (at_ixAddrA Try.underlying112 sz3 rfl rfl q14 q15) rfl ?_
   obtain ⟨x16, q17, h⟩ := h
   refine wq_val (at_load Try.underlying3 rfl rfl q17) rfl (wq_val (at_sub rfl rfl) rfl (wq_val (at_assign rfl) rfl ?_))
   refine wq_nil ?_; intro w18 hw so; rw [← hw] at h; clear hw
   refine wk_prune [(0, .pointer a0), (1, .pointer a1), (6, .int .i64 x1.1), (8, .int .i64 (if 16 < x3 then 16 else x3)), (9, .int .i64 s7), (10, .int .i64 (IntKind.wrap .i64 ((shrI .i64 x1.1 (IntKind.wrap .i64 ((16 : Int) - s7))) - x16)))] ⟨rfl, rfl, rfl, rfl, rfl, rfl, trivial⟩ fun f1 => wk_then (wc_seq (wc_join (w0 := w0) (fun (s20 : Bool) => [(0, .pointer a0), (1, .pointer a1), (6, .int .i64 x1.1), (8, .int .i64 (if 16 < x3 then 16 else x3)), (9, .int .i64 s7), (10, .int .i64 (IntKind.wrap .i64 ((shrI .i64 x1.1 (IntKind.wrap .i64 ((16 : Int) - s7))) - x16))), (48, .bool s20)]) h ?_ ?_))
   ·rintro s20 w21 f1 h so; refine wk_then ?_
    refine wc_cond rfl h (fun h => ?_) (fun h => ?_)
    ·refine wc_seq (wc_region (wl_val (at_move rfl) rfl (wl_val (at_move rfl) rfl ?_)))
     refine wl_callF (bits_Source_Skip.calls _ _ _ _ h) enter30 rfl trivial so ?_; intro x22 w23 h so
     refine wl_nil (wk_prune [(0, .pointer a0), (9, .int .i64 s7), (10, .int .i64 (IntKind.wrap .i64 ((shrI .i64 x1.1 (IntKind.wrap .i64 ((16 : Int) - s7))) - x16)))] ⟨rfl, rfl, rfl, trivial⟩ fun f1 => wk_then (wc_seq (wc_draw mixed (by kernel_rfl) so (wq_val (at_move rfl) rfl (wq_val (at_nilCheck (congrArg Value.pointer q13)) rfl (wq_val (at_fieldAddr Try.underlying114 rfl rfl sz27 (by decide) rfl) rfl ?_))))))
     obtain ⟨x24, q25, h⟩ := h
     refine wq_val (at_load Try.underlying27 rfl rfl q25) rfl (wq_val (at_move rfl) rfl (wq_val (at_move rfl) rfl (wq_val (at_nilCheck (congrArg Value.pointer q13)) rfl (wq_val (at_fieldAddr Try.underlying114 rfl rfl sz112 (by decide) rfl) rfl ?_))))
     obtain ⟨q26, q27, h⟩ := h
     refine wq_val (at_ixAddrA Try.underlying112 sz3 rfl rfl q26 q27) rfl ?_
     obtain ⟨x28, q29, h⟩ := h
     refine wq_val (at_load Try.underlying3 rfl rfl q29) rfl (wq_val (at_move rfl) rfl (wq_val (at_add rfl rfl) rfl ?_))
     obtain ⟨q30, q31, p32, q33, h⟩ := h
     refine wq_val (at_ixAddrL Try.underlying27 sz5 (sl_some q33) rfl q30 q31) rfl ?_
     obtain ⟨x34, q35, h⟩ := h
     refine wq_val (at_load Try.underlying5 rfl rfl q35) rfl (wq_val (at_assign rfl) rfl (wq_val (at_assign rfl) rfl ?_))
     refine wq_nil ?_; intro w36 hw so; rw [← hw] at h; clear hw
     exact wk_prune [(4, .int .u8 x34), (5, .int .i64 0)] ⟨rfl, rfl, trivial⟩ fun f1 => wk_then (wc_ret (wk_blkR (wk_thenR (wk_thenR (wk_blkR (wk_thenR (wk_ret2 (x := (x34, 0)) rfl (by decide) (by decide) rfl so h)))))))
    ·exact wc_skip (wk_blkN (wk_prune [(0, .pointer a0), (1, .pointer a1), (6, .int .i64 x1.1), (8, .int .i64 (if 16 < x3 then 16 else x3)), (9, .int .i64 s7)] ⟨rfl, rfl, rfl, rfl, rfl, trivial⟩ fun f1 => wk_then (wc_region (wl_val (at_move rfl) rfl (wl_val (at_add rfl rfl) rfl (wl_val (at_assign rfl) rfl (wl_nil (wk_again ⟨((IntKind.wrap .i64 (s7 + 1))), _, ac_again ⟨rfl, rfl, rfl, rfl, rfl, trivial⟩, so, h⟩))))))))
   ·intro J19 h hJ19
    refine wc_region (wl_val (at_move rfl) rfl (wl_val (at_geq rfl rfl) rfl (wl_val (at_move rfl) rfl (bif_ h (fun hb h => ?_) (fun hb h => ?_)))))
    ·refine wl_set (t := 39) (v := .bool true) (congrArg Value.bool hb) ?_; clear hb
     refine wl_on (t := 39) rfl (by decide) rfl (wl_val (at_move rfl) rfl (wl_on (t := 39) rfl (by decide) rfl (wl_val (at_move rfl) rfl (wl_on (t := 39) rfl (by decide) rfl (wl_val (at_move rfl) rfl (wl_on (t := 39) rfl (by decide) rfl (wl_val (at_nilCheck (congrArg Value.pointer q13)) rfl (wl_on (t := 39) rfl (by decide) rfl (wl_val (at_fieldAddr Try.underlying114 rfl rfl sz112 (by decide) rfl) rfl (wl_on (t := 39) rfl (by decide) rfl ?_))))))))))
     obtain ⟨q37, q38, h⟩ := h
     refine wl_val (at_ixAddrA Try.underlying112 sz3 rfl rfl q37 q38) rfl (wl_on (t := 39) rfl (by decide) rfl ?_)
     obtain ⟨x39, q40, h⟩ := h
     exact wl_val (at_load Try.underlying3 rfl rfl q40) rfl (wl_on (t := 39) rfl (by decide) rfl (wl_val (at_lss rfl rfl) rfl (wl_val (at_pick_t rfl rfl) rfl (wl_nil (wk_prune [(0, .pointer a0), (1, .pointer a1), (6, .int .i64 x1.1), (8, .int .i64 (if 16 < x3 then 16 else x3)), (9, .int .i64 s7), (10, .int .i64 (IntKind.wrap .i64 ((shrI .i64 x1.1 (IntKind.wrap .i64 ((16 : Int) - s7))) - x16))), (48, .bool (decide ((IntKind.wrap .i64 ((shrI .i64 x1.1 (IntKind.wrap .i64 ((16 : Int) - s7))) - x16)) < x39)))] ⟨rfl, rfl, rfl, rfl, rfl, rfl, rfl, trivial⟩ (fun f1 => hJ19 ((decide ((IntKind.wrap .i64 ((shrI .i64 x1.1 (IntKind.wrap .i64 ((16 : Int) - s7))) - x16)) < x39))) _ f1 h so))))))
    ·refine wl_set (t := 39) (v := .bool false) (congrArg Value.bool hb) ?_; clear hb
     exact wl_off (t := 39) rfl (by decide) rfl (wl_off (t := 39) rfl (by decide) rfl (wl_off (t := 39) rfl (by decide) rfl (wl_off (t := 39) rfl (by decide) rfl (wl_off (t := 39) rfl (by decide) rfl (wl_off (t := 39) rfl (by decide) rfl (wl_off (t := 39) rfl (by decide) rfl (wl_off (t := 39) rfl (by decide) rfl (wl_val (at_pick_f rfl rfl) rfl (wl_nil (wk_prune [(0, .pointer a0), (1, .pointer a1), (6, .int .i64 x1.1), (8, .int .i64 (if 16 < x3 then 16 else x3)), (9, .int .i64 s7), (10, .int .i64 (IntKind.wrap .i64 ((shrI .i64 x1.1 (IntKind.wrap .i64 ((16 : Int) - s7))) - x16))), (48, .bool false)] ⟨rfl, rfl, rfl, rfl, rfl, rfl, rfl, trivial⟩ (fun f1 => hJ19 (false) _ f1 h so)))))))))))
  ·refine wc_exit (wk_thenE (wk_thenE (wk_blkE (wk_prune [(0, .pointer a0), (6, .int .i64 x1.1), (8, .int .i64 (if 16 < x3 then 16 else x3))] ⟨rfl, rfl, rfl, trivial⟩ fun f1 => wk_then (wc_seq (wc_seq (wc_join (w0 := w0) (fun (s42 : Bool) => [(76, .bool s42)]) h ?_ ?_)))))))
   ·rintro s42 w43 f1 h so; refine wk_then ?_
    refine wc_cond rfl h (fun h => ?_) (fun h => ?_)
    ·exact wc_seq (wc_region (wl_val (at_assign rfl) rfl (wl_val (at_assign rfl) rfl (wl_nil (wk_prune [(4, .int .u8 0), (5, .int .i64 44)] ⟨rfl, rfl, trivial⟩ fun f1 => wk_then (wc_ret (wk_thenR (wk_ret2 (x := (0, 44)) rfl (by decide) (by decide) rfl so h))))))))
    ·exact wc_skip (wk_prune [] trivial fun f1 => wk_then (wc_seq (wc_region (wl_val (at_assign rfl) rfl (wl_val (at_assign rfl) rfl (wl_nil (wk_prune [(4, .int .u8 0), (5, .int .i64 43)] ⟨rfl, rfl, trivial⟩ fun f1 => wk_then (wc_ret (wk_ret2 (x := (0, 43)) rfl (by decide) (by decide) rfl so h)))))))))
   ·intro J41 h hJ41
    refine wc_region (wl_val (at_move rfl) rfl (wl_val (at_lss rfl rfl) rfl (wl_val (at_move rfl) rfl (bif_ h (fun hb h => ?_) (fun hb h => ?_)))))
    ·refine wl_set (t := 68) (v := .bool true) (congrArg Value.bool hb) ?_; clear hb
     refine wl_on (t := 68) rfl (by decide) rfl (wl_val (at_move rfl) rfl (wl_on (t := 68) rfl (by decide) rfl (wl_val (at_move rfl) rfl (wl_on (t := 68) rfl (by decide) rfl (wl_val (at_move rfl) rfl (wl_on (t := 68) rfl (by decide) rfl (wl_val (at_sub rfl rfl) rfl (wl_on (t := 68) rfl (by decide) rfl ?_))))))))
     obtain ⟨q44, h⟩ := h
     refine wl_val (at_shr rfl rfl q44) rfl (wl_on (t := 68) rfl (by decide) rfl (wl_val (at_move rfl) rfl (wl_on (t := 68) rfl (by decide) rfl ?_)))
     refine wl_callF (huff_Table_begins.calls _ _ _ _ _ h) enter68 rfl trivial so ?_; intro x45 w46 h so
     exact wl_val (at_pick_t rfl rfl) rfl (wl_nil (wk_prune [(76, .bool x45)] ⟨rfl, trivial⟩ (fun f1 => hJ41 (x45) _ f1 h so)))
    ·refine wl_set (t := 68) (v := .bool false) (congrArg Value.bool hb) ?_; clear hb
     exact wl_off (t := 68) rfl (by decide) rfl (wl_off (t := 68) rfl (by decide) rfl (wl_off (t := 68) rfl (by decide) rfl (wl_off (t := 68) rfl (by decide) rfl (wl_off (t := 68) rfl (by decide) rfl (wl_off (t := 68) rfl (by decide) rfl (wl_off (t := 68) rfl (by decide) rfl (wl_val (at_pick_f rfl rfl) rfl (wl_nil (wk_prune [(76, .bool false)] ⟨rfl, trivial⟩ (fun f1 => hJ41 (false) _ f1 h so))))))))))
end Go.Proofs.Ytmnoecpnoofdjaa.G
