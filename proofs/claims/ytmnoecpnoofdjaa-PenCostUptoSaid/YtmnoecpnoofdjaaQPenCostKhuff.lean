/- Of this text what the row needs. -/
import Derived.Test.YtmnoecpnoofdjaaQPenCostKshelf
import Derived.Test.YtmnoecpnoofdjaaQPenCostKbits
import Derived.Test.YtmnoecpnoofdjaaQPenCostKslices
namespace Go.Proofs.Ytmnoecpnoofdjaa.G
open Go.RowKit
set_option linter.unusedVariables false
set_option linter.unusedSimpArgs false
def huff_weight.enc : Int × Int → Value := fun r => .tuple #[.int .i64 r.1, .int .i64 r.2]
def huff_weight.s (a0_0 : Ints 16) (a0_1 : Sl) (H0 : Hp) (Q : (Int × Int) → Hp → Prop) : Prop :=
  Gn [] H0 (fun (b1 : Nat) (H2 : Hp) => ∃ k3, Fix (fun (rec8 : (Int × Int × Int) → Hp → Prop) (s5 : Int × Int × Int) (H6 : Hp) => if decide (s5.2.2 < 16) = true then (0 ≤ s5.2.2 ∧ s5.2.2 < (16 : Int) ∧ (0 ≤ (IntKind.wrap .i64 ((15 : Int) - s5.2.2)) ∧ (Lt ((IntKind.wrap .i64 (s5.1 + (shlI .i64 (IntKind.wrap .i64 (ixI a0_0 s5.2.2)) (IntKind.wrap .i64 ((15 : Int) - s5.2.2))))) : Int) (fun x12 => Lt ((IntKind.wrap .i64 (s5.2.1 + (IntKind.wrap .i64 (ixI a0_0 s5.2.2)))) : Int) (fun x14 => rec8 (x12, x14, (IntKind.wrap .i64 (s5.2.2 + 1))) H6))))) else (Q (s5.1, s5.2.1) H6)) k3 (0, 0, 0) H2)
set_option maxRecDepth 20000 in
set_option maxHeartbeats 4000000 in
theorem huff_weight.calls (a0_0 : Ints 16) (a0_1 : Sl) (w0 : World) (Q : (Int × Int) → Hp → Prop) (h : huff_weight.s a0_0 a0_1 w0.heap Q) :
    Ca Try.prog 65 #[.agg (c29 a0_0 a0_1).toArray] w0 (Rt huff_weight.enc Q w0) := by
  refine ca_start (c := _) Try.func65 rfl Try.ntmps65 rfl ?_
  have so : Sm w0 w0 := Sm.refl w0
  unfold huff_weight.s at h
  refine wc_prune [(0, .agg (c29 a0_0 a0_1).toArray)] ⟨rfl, trivial⟩ (fun f1 => ?_)
  refine wc_seq ?_
  refine wc_region ?_
  refine wl_newT (T := 29) (cs := (c29 a0_0 a0_1)) (ef_box rfl rfl) rfl so ?_; intro b1 w2 hb_b1 t_b1 k_b1 so
  have g_b1 := Nat.le_of_eq hb_b1.symm
  have hc := k_b1.ch (F := [])
  refine wl_val (at_assign rfl) rfl ?_
  refine wl_val (at_assign rfl) rfl ?_
  refine wl_nil ?_
  refine wk_prune [(1, .pointer (some (⟨b1, 0, none⟩ : Addr)))] ⟨rfl, trivial⟩ (fun f1 => ?_)
  refine wk_then ?_
  refine wc_seq ?_
  refine wc_region ?_
  refine wl_val (at_assign rfl) rfl ?_
  refine wl_val (at_assign rfl) rfl ?_
  refine wl_nil ?_
  refine wk_prune [(1, .pointer (some (⟨b1, 0, none⟩ : Addr))), (4, .int .i64 0), (5, .int .i64 0)] ⟨rfl, rfl, rfl, trivial⟩ (fun f1 => ?_)
  refine wk_then ?_
  refine wc_seq ?_
  refine wc_seq ?_
  refine wc_region ?_
  refine wl_val (at_fieldAddr Try.underlying29 rfl rfl sz26 (by decide) rfl) rfl ?_
  refine wl_val (at_loadA (cs := (c26 a0_0)) Try.underlying26 rfl (by rw [len26]; exact sz26) rfl (ldA_sub (pre := []) (sub := (c26 a0_0)) (post := ([.slice a0_1.a a0_1.n a0_1.c])) (by first | exact t_b1 | (have q := t_b1; simp only [List.append_assoc, List.cons_append, List.nil_append, List.append_nil] at q ⊢; exact q)) (by first | rfl | simp [ints_len, bools_len]))) rfl ?_
  refine wl_val (at_move rfl) rfl ?_
  refine wl_nil ?_
  refine wk_prune [(4, .int .i64 0), (5, .int .i64 0), (9, .agg (c26 a0_0).toArray), (10, .int .i64 0)] ⟨rfl, rfl, rfl, rfl, trivial⟩ (fun f1 => ?_)
  refine wk_then ?_
  refine wc_block ?_
  replace h := h b1 _ hc g_b1 t_b1.lt; clear hc
  obtain ⟨k3, h⟩ := h
  refine wc_loop (fun k a w => ∃ (s5 : Int × Int × Int) (f1 : Nat → Value), a = ac 28 (en f1 [(4, .int .i64 s5.1), (5, .int .i64 s5.2.1), (9, .agg (c26 a0_0).toArray), (10, .int .i64 s5.2.2)]) [] ∧ Sm w0 w ∧ Fix _ k s5 w.heap) k3 ⟨(0, 0, 0), _, ac_again ⟨rfl, rfl, rfl, rfl, trivial⟩, so, h⟩ ?_
  rintro k4 a7 w6 ⟨s5, f1, rfl, so, h⟩
  rcases k4 with _ | k4
  · exact h.elim
  replace h := Fix.un h; refine wc_in ?_
  refine wc_seq ?_
  refine wc_region ?_
  refine wl_val (at_lss rfl rfl) rfl ?_
  refine wl_nil ?_
  refine wk_prune [(4, .int .i64 s5.1), (5, .int .i64 s5.2.1), (9, .agg (c26 a0_0).toArray), (10, .int .i64 s5.2.2), (11, .bool (decide (s5.2.2 < 16)))] ⟨rfl, rfl, rfl, rfl, rfl, trivial⟩ (fun f1 => ?_)
  refine wk_then ?_
  refine wc_seq ?_
  refine wc_cond rfl h (fun h => ?_) (fun h => ?_)
  · refine wc_skip ?_
    refine wk_prune [(4, .int .i64 s5.1), (5, .int .i64 s5.2.1), (9, .agg (c26 a0_0).toArray), (10, .int .i64 s5.2.2)] ⟨rfl, rfl, rfl, rfl, trivial⟩ (fun f1 => ?_)
    refine wk_then ?_
    refine wc_seq ?_
    refine wc_block ?_
    refine wc_seq ?_
    refine wc_region ?_
    refine wl_val (at_move rfl) rfl ?_
    obtain ⟨q9, q10, h⟩ := h
    refine wl_val (at_ixI Try.underlying26 Try.underlying5 sz5 rfl rfl q9 q10) rfl ?_
    refine wl_val (at_assign rfl) rfl ?_
    refine wl_val (at_assign rfl) rfl ?_
    refine wl_nil ?_
    refine wk_prune [(4, .int .i64 s5.1), (5, .int .i64 s5.2.1), (6, .int .i64 s5.2.2), (7, .int .u8 (ixI a0_0 s5.2.2)), (9, .agg (c26 a0_0).toArray), (10, .int .i64 s5.2.2)] ⟨rfl, rfl, rfl, rfl, rfl, rfl, trivial⟩ (fun f1 => ?_)
    refine wk_then ?_
    refine wc_seq ?_
    refine wc_region ?_
    refine wl_val (at_move rfl) rfl ?_
    refine wl_val (at_move rfl) rfl ?_
    refine wl_val (at_conv Try.underlying5 Try.underlying3 rfl) rfl ?_
    refine wl_val (at_move rfl) rfl ?_
    refine wl_val (at_sub rfl rfl) rfl ?_
    obtain ⟨q11, h⟩ := h
    refine wl_val (at_shl rfl rfl q11) rfl ?_
    refine wl_val (at_add rfl rfl) rfl ?_
    refine wl_val (at_assign rfl) rfl ?_
    obtain ⟨x12, e13⟩ : ∃ x : Int, x = (IntKind.wrap .i64 (s5.1 + (shlI .i64 (IntKind.wrap .i64 (ixI a0_0 s5.2.2)) (IntKind.wrap .i64 ((15 : Int) - s5.2.2))))) := ⟨_, rfl⟩; replace h := h x12 e13
    refine wl_set (t := 4) (v := .int .i64 x12) (congrArg (Value.int .i64) e13.symm) ?_
    refine wl_nil ?_
    refine wk_prune [(4, .int .i64 x12), (5, .int .i64 s5.2.1), (7, .int .u8 (ixI a0_0 s5.2.2)), (9, .agg (c26 a0_0).toArray), (10, .int .i64 s5.2.2)] ⟨rfl, rfl, rfl, rfl, rfl, trivial⟩ (fun f1 => ?_)
    refine wk_then ?_
    refine wc_region ?_
    refine wl_val (at_move rfl) rfl ?_
    refine wl_val (at_move rfl) rfl ?_
    refine wl_val (at_conv Try.underlying5 Try.underlying3 rfl) rfl ?_
    refine wl_val (at_add rfl rfl) rfl ?_
    refine wl_val (at_assign rfl) rfl ?_
    obtain ⟨x14, e15⟩ : ∃ x : Int, x = (IntKind.wrap .i64 (s5.2.1 + (IntKind.wrap .i64 (ixI a0_0 s5.2.2)))) := ⟨_, rfl⟩; replace h := h x14 e15
    refine wl_set (t := 5) (v := .int .i64 x14) (congrArg (Value.int .i64) e15.symm) ?_
    refine wl_nil ?_
    refine wk_blkN ?_
    refine wk_prune [(4, .int .i64 x12), (5, .int .i64 x14), (9, .agg (c26 a0_0).toArray), (10, .int .i64 s5.2.2)] ⟨rfl, rfl, rfl, rfl, trivial⟩ (fun f1 => ?_)
    refine wk_then ?_
    refine wc_region ?_
    refine wl_val (at_add rfl rfl) rfl ?_
    refine wl_val (at_move rfl) rfl ?_
    refine wl_nil ?_
    exact wk_again ⟨(x12, x14, (IntKind.wrap .i64 (s5.2.2 + 1))), _, ac_again ⟨rfl, rfl, rfl, rfl, trivial⟩, so, h⟩
  · refine wc_exit ?_
    refine wk_thenE ?_
    refine wk_thenE ?_
    refine wk_blkE ?_
    refine wk_prune [(4, .int .i64 s5.1), (5, .int .i64 s5.2.1)] ⟨rfl, rfl, trivial⟩ (fun f1 => ?_)
    refine wk_then ?_
    refine wc_seq ?_
    refine wc_region ?_
    refine wl_val (at_move rfl) rfl ?_
    refine wl_val (at_move rfl) rfl ?_
    refine wl_val (at_assign rfl) rfl ?_
    refine wl_val (at_assign rfl) rfl ?_
    refine wl_nil ?_
    refine wk_prune [(2, .int .i64 s5.1), (3, .int .i64 s5.2.1)] ⟨rfl, rfl, trivial⟩ (fun f1 => ?_)
    refine wk_then ?_
    refine wc_ret ?_
    exact wk_ret2 (x := (s5.1, s5.2.1)) rfl (by decide) (by decide) rfl so h
def huff_Check.enc : Int → Value := fun r => .int .i64 r
def huff_Check.s (a0_0 : Ints 16) (a0_1 : Sl) (H0 : Hp) (Q : Int → Hp → Prop) : Prop :=
  Gn [] H0 (fun (b1 : Nat) (H2 : Hp) => huff_weight.s a0_0 a0_1 H2 (fun x3 H4 => Pv [b1] H2 H4 ∧ (Join (fun (s7 : Bool) (H8 : Hp) => if s7 = true then (Q 40 H8) else (if decide ((65535 : Int) < x3.1) = true then (Q 41 H8) else (Gn [] H8 (fun (b9 : Nat) (H10 : Hp) => Bk H10 b9 148 (c148 (zBools 256)) → (∃ k11, Fix (fun (rec16 : Int → Hp → Prop) (s13 : Int) (H14 : Hp) => if decide (s13 < (a0_1.n : Int)) = true then (0 ≤ s13 ∧ s13 < (a0_1.n : Int) ∧ someA a0_1.a (fun p19 => ldI .u8 H14 (p19.add (Int.toNat s13 * 1)) (fun x21 => 0 ≤ x21 ∧ x21 < (256 : Int) ∧ (ldB H14 ((⟨b9, 0, none⟩ : Addr).add (Int.toNat x21 * 1)) (fun x25 => if x25 = true then (Q 42 H14) else (0 ≤ x21 ∧ x21 < (256 : Int) ∧ (st H14 ((⟨b9, 0, none⟩ : Addr).add (Int.toNat x21 * 1)) (.bool true) (fun H29 => rec16 ((IntKind.wrap .i64 (s13 + 1))) H29)))))))) else (Q 0 H14)) k11 (0) H10))))) (fun (J6 : Bool → Hp → Prop) => if (x3.2 == 0) = true then (J6 (true) H4) else (if decide ((256 : Int) < x3.2) = true then (J6 (true) H4) else (J6 ((x3.2 != (a0_1.n : Int))) H4))))))
set_option maxRecDepth 20000 in
set_option maxHeartbeats 4000000 in
theorem huff_Check.calls (a0_0 : Ints 16) (a0_1 : Sl) (w0 : World) (Q : Int → Hp → Prop) (h : huff_Check.s a0_0 a0_1 w0.heap Q) :
    Ca Try.prog 39 #[.agg (c29 a0_0 a0_1).toArray] w0 (Rt huff_Check.enc Q w0) := by
  refine ca_start (c := _) Try.func39 rfl Try.ntmps39 rfl ?_
  have so : Sm w0 w0 := Sm.refl w0
  unfold huff_Check.s at h
  refine wc_prune [(0, .agg (c29 a0_0 a0_1).toArray)] ⟨rfl, trivial⟩ (fun f1 => ?_)
  refine wc_seq ?_
  refine wc_region ?_
  refine wl_newT (T := 29) (cs := (c29 a0_0 a0_1)) (ef_box rfl rfl) rfl so ?_; intro b1 w2 hb_b1 t_b1 k_b1 so
  have g_b1 := Nat.le_of_eq hb_b1.symm
  have hc := k_b1.ch (F := [])
  refine wl_val (at_assign rfl) rfl ?_
  refine wl_nil ?_
  refine wk_prune [(1, .pointer (some (⟨b1, 0, none⟩ : Addr)))] ⟨rfl, trivial⟩ (fun f1 => ?_)
  refine wk_then ?_
  refine wc_seq ?_
  refine wc_region ?_
  refine wl_val (at_loadA (cs := (c29 a0_0 a0_1)) Try.underlying29 rfl (by rw [len29]; exact sz29) rfl (ldA_full t_b1)) rfl ?_
  replace h := h b1 _ hc g_b1 t_b1.lt; clear hc
  refine wl_callF (huff_weight.calls _ _ _ _ h) enter65 rfl trivial so ?_; intro x3 w4 h so
  obtain ⟨q5, h⟩ := h
  replace t_b1 := pv_bk q5 t_b1 (by simp)
  refine wl_val (at_move rfl) rfl ?_
  refine wl_val (at_extract rfl rfl) rfl ?_
  refine wl_val (at_extract rfl rfl) rfl ?_
  refine wl_val (at_assign rfl) rfl ?_
  refine wl_val (at_assign rfl) rfl ?_
  refine wl_nil ?_
  refine wk_prune [(1, .pointer (some (⟨b1, 0, none⟩ : Addr))), (3, .int .i64 x3.1), (4, .int .i64 x3.2)] ⟨rfl, rfl, rfl, trivial⟩ (fun f1 => ?_)
  refine wk_then ?_
  refine wc_seq ?_
  refine wc_seq ?_
  refine wc_joinG (w0 := w0) (fun (H : Hp) => Bk H b1 29 (c29 a0_0 a0_1) ∧ True) (fun (s7 : Bool) => [(1, .pointer (some (⟨b1, 0, none⟩ : Addr))), (3, .int .i64 x3.1), (25, .bool s7)]) (fun (s7 : Bool) => []) h ?_ ?_
  · rintro s7 w8 f1 h ⟨t_b1, _⟩ so; refine wk_then ?_
    refine wc_cond rfl h (fun h => ?_) (fun h => ?_)
    · refine wc_seq ?_
      refine wc_region ?_
      refine wl_val (at_assign rfl) rfl ?_
      refine wl_nil ?_
      refine wk_prune [(2, .int .i64 40)] ⟨rfl, trivial⟩ (fun f1 => ?_)
      refine wk_then ?_
      refine wc_ret ?_
      refine wk_thenR ?_
      exact wk_ret1 (x := 40) rfl (by decide) rfl so h
    · refine wc_skip ?_
      refine wk_prune [(1, .pointer (some (⟨b1, 0, none⟩ : Addr))), (3, .int .i64 x3.1)] ⟨rfl, rfl, trivial⟩ (fun f1 => ?_)
      refine wk_then ?_
      refine wc_seq ?_
      refine wc_seq ?_
      refine wc_region ?_
      refine wl_val (at_move rfl) rfl ?_
      refine wl_val (at_gtr rfl rfl) rfl ?_
      refine wl_nil ?_
      refine wk_prune [(1, .pointer (some (⟨b1, 0, none⟩ : Addr))), (27, .bool (decide ((65535 : Int) < x3.1)))] ⟨rfl, rfl, trivial⟩ (fun f1 => ?_)
      refine wk_then ?_
      refine wc_cond rfl h (fun h => ?_) (fun h => ?_)
      · refine wc_seq ?_
        refine wc_region ?_
        refine wl_val (at_assign rfl) rfl ?_
        refine wl_nil ?_
        refine wk_prune [(2, .int .i64 41)] ⟨rfl, trivial⟩ (fun f1 => ?_)
        refine wk_then ?_
        refine wc_ret ?_
        refine wk_thenR ?_
        exact wk_ret1 (x := 41) rfl (by decide) rfl so h
      · refine wc_skip ?_
        refine wk_prune [(1, .pointer (some (⟨b1, 0, none⟩ : Addr)))] ⟨rfl, trivial⟩ (fun f1 => ?_)
        refine wk_then ?_
        refine wc_seq ?_
        refine wc_region ?_
        refine wl_newT (T := 148) (cs := (c148 (zBools 256))) (ef_alloc zero148 rfl) rfl so ?_; intro b9 w10 hb_b9 t_b9 k_b9 so
        have g_b9 := Nat.le_of_eq hb_b9.symm
        have hc := k_b9.ch (F := [])
        have n_b1_b9 : b1 ≠ b9 := fun e => by have := t_b1.lt; omega
        replace t_b1 := t_b1.keep k_b9
        refine wl_nil ?_
        refine wk_prune [(1, .pointer (some (⟨b1, 0, none⟩ : Addr))), (5, .pointer (some (⟨b9, 0, none⟩ : Addr)))] ⟨rfl, rfl, trivial⟩ (fun f1 => ?_)
        refine wk_then ?_
        refine wc_seq ?_
        refine wc_seq ?_
        refine wc_region ?_
        refine wl_val (at_fieldAddr Try.underlying29 rfl rfl sz27 (by decide) rfl) rfl ?_
        refine wl_val (at_load (v := .slice a0_1.a a0_1.n a0_1.c) Try.underlying27 rfl rfl ((t_b1.cell 16).trans (by first | rfl | simp [List.getElem?_append, ints_len, bools_len]))) rfl ?_
        refine wl_val (at_lenL Try.underlying27 rfl) rfl ?_
        refine wl_val (at_move rfl) rfl ?_
        refine wl_nil ?_
        refine wk_prune [(5, .pointer (some (⟨b9, 0, none⟩ : Addr))), (29, .slice a0_1.a a0_1.n a0_1.c), (30, .int .i64 (a0_1.n : Int)), (31, .int .i64 0)] ⟨rfl, rfl, rfl, rfl, trivial⟩ (fun f1 => ?_)
        refine wk_then ?_
        refine wc_block ?_
        replace h := h b9 _ hc g_b9 t_b9.lt; clear hc
        replace h := h t_b9
        obtain ⟨k11, h⟩ := h
        refine wc_loop (fun k a w => ∃ (s13 : Int) (f1 : Nat → Value), a = ac 41 (en f1 [(5, .pointer (some (⟨b9, 0, none⟩ : Addr))), (29, .slice a0_1.a a0_1.n a0_1.c), (30, .int .i64 (a0_1.n : Int)), (31, .int .i64 s13)]) [] ∧ Sm w0 w ∧ Fix _ k s13 w.heap) k11 ⟨(0), _, ac_again ⟨rfl, rfl, rfl, rfl, trivial⟩, so, h⟩ ?_
        rintro k12 a15 w14 ⟨s13, f1, rfl, so, h⟩
        rcases k12 with _ | k12
        · exact h.elim
        replace h := Fix.un h; refine wc_in ?_
        refine wc_seq ?_
        refine wc_region ?_
        refine wl_val (at_lss rfl rfl) rfl ?_
        refine wl_nil ?_
        refine wk_prune [(5, .pointer (some (⟨b9, 0, none⟩ : Addr))), (29, .slice a0_1.a a0_1.n a0_1.c), (30, .int .i64 (a0_1.n : Int)), (31, .int .i64 s13), (32, .bool (decide (s13 < (a0_1.n : Int))))] ⟨rfl, rfl, rfl, rfl, rfl, trivial⟩ (fun f1 => ?_)
        refine wk_then ?_
        refine wc_seq ?_
        refine wc_cond rfl h (fun h => ?_) (fun h => ?_)
        · refine wc_skip ?_
          refine wk_prune [(5, .pointer (some (⟨b9, 0, none⟩ : Addr))), (29, .slice a0_1.a a0_1.n a0_1.c), (30, .int .i64 (a0_1.n : Int)), (31, .int .i64 s13)] ⟨rfl, rfl, rfl, rfl, trivial⟩ (fun f1 => ?_)
          refine wk_then ?_
          refine wc_seq ?_
          refine wc_block ?_
          refine wc_seq ?_
          refine wc_region ?_
          obtain ⟨q17, q18, p19, q20, h⟩ := h
          refine wl_val (at_ixAddrL Try.underlying27 sz5 (sl_some q20) rfl q17 q18) rfl ?_
          obtain ⟨x21, q22, h⟩ := h
          refine wl_val (at_load Try.underlying5 rfl rfl q22) rfl ?_
          refine wl_val (at_assign rfl) rfl ?_
          refine wl_nil ?_
          refine wk_prune [(5, .pointer (some (⟨b9, 0, none⟩ : Addr))), (7, .int .u8 x21), (29, .slice a0_1.a a0_1.n a0_1.c), (30, .int .i64 (a0_1.n : Int)), (31, .int .i64 s13)] ⟨rfl, rfl, rfl, rfl, rfl, trivial⟩ (fun f1 => ?_)
          refine wk_then ?_
          refine wc_seq ?_
          refine wc_seq ?_
          refine wc_region ?_
          refine wl_val (at_move rfl) rfl ?_
          obtain ⟨q23, q24, h⟩ := h
          refine wl_val (at_ixAddrA Try.underlying148 sz4 rfl rfl q23 q24) rfl ?_
          obtain ⟨x25, q26, h⟩ := h
          refine wl_val (at_load Try.underlying4 rfl rfl q26) rfl ?_
          refine wl_nil ?_
          refine wk_prune [(5, .pointer (some (⟨b9, 0, none⟩ : Addr))), (7, .int .u8 x21), (29, .slice a0_1.a a0_1.n a0_1.c), (30, .int .i64 (a0_1.n : Int)), (31, .int .i64 s13), (37, .bool x25)] ⟨rfl, rfl, rfl, rfl, rfl, rfl, trivial⟩ (fun f1 => ?_)
          refine wk_then ?_
          refine wc_cond rfl h (fun h => ?_) (fun h => ?_)
          · refine wc_seq ?_
            refine wc_region ?_
            refine wl_val (at_assign rfl) rfl ?_
            refine wl_nil ?_
            refine wk_prune [(2, .int .i64 42)] ⟨rfl, trivial⟩ (fun f1 => ?_)
            refine wk_then ?_
            refine wc_ret ?_
            refine wk_thenR ?_
            refine wk_blkR ?_
            refine wk_thenR ?_
            refine wk_thenR ?_
            refine wk_blkR ?_
            refine wk_thenR ?_
            exact wk_ret1 (x := 42) rfl (by decide) rfl so h
          · refine wc_skip ?_
            refine wk_prune [(5, .pointer (some (⟨b9, 0, none⟩ : Addr))), (7, .int .u8 x21), (29, .slice a0_1.a a0_1.n a0_1.c), (30, .int .i64 (a0_1.n : Int)), (31, .int .i64 s13)] ⟨rfl, rfl, rfl, rfl, rfl, trivial⟩ (fun f1 => ?_)
            refine wk_then ?_
            refine wc_region ?_
            refine wl_val (at_move rfl) rfl ?_
            obtain ⟨q27, q28, h⟩ := h
            refine wl_val (at_ixAddrA Try.underlying148 sz4 rfl rfl q27 q28) rfl ?_
            refine wl_st (v := .bool true) h rfl so (fun q1 q2 => ef_store (sz := sz4) rfl rfl rfl q1 q2) ?_; intro w29 h so
            refine wl_nil ?_
            refine wk_blkN ?_
            refine wk_prune [(5, .pointer (some (⟨b9, 0, none⟩ : Addr))), (29, .slice a0_1.a a0_1.n a0_1.c), (30, .int .i64 (a0_1.n : Int)), (31, .int .i64 s13)] ⟨rfl, rfl, rfl, rfl, trivial⟩ (fun f1 => ?_)
            refine wk_then ?_
            refine wc_region ?_
            refine wl_val (at_add rfl rfl) rfl ?_
            refine wl_val (at_move rfl) rfl ?_
            refine wl_nil ?_
            exact wk_again ⟨((IntKind.wrap .i64 (s13 + 1))), _, ac_again ⟨rfl, rfl, rfl, rfl, trivial⟩, so, h⟩
        · refine wc_exit ?_
          refine wk_thenE ?_
          refine wk_thenE ?_
          refine wk_blkE ?_
          refine wk_prune [] trivial (fun f1 => ?_)
          refine wk_then ?_
          refine wc_seq ?_
          refine wc_region ?_
          refine wl_val (at_assign rfl) rfl ?_
          refine wl_nil ?_
          refine wk_prune [(2, .int .i64 0)] ⟨rfl, trivial⟩ (fun f1 => ?_)
          refine wk_then ?_
          refine wc_ret ?_
          exact wk_ret1 (x := 0) rfl (by decide) rfl so h
  · intro J6 h hJ6
    refine wc_region ?_
    refine wl_val (at_move rfl) rfl ?_
    refine wl_val (at_eql rfl rfl) rfl ?_
    refine wl_val (at_move rfl) rfl ?_
    refine bif_ h (fun hb h => ?_) (fun hb h => ?_)
    · refine wl_set (t := 15) (v := .bool true) (congrArg Value.bool hb) ?_; clear hb
      refine wl_off (t := 15) rfl (by decide) rfl ?_
      refine wl_off (t := 15) rfl (by decide) rfl ?_
      refine wl_val (at_pick_t rfl rfl) rfl ?_
      refine wl_val (at_move rfl) rfl ?_
      refine wl_off (t := 19) rfl (by decide) rfl ?_
      refine wl_off (t := 19) rfl (by decide) rfl ?_
      refine wl_off (t := 19) rfl (by decide) rfl ?_
      refine wl_off (t := 19) rfl (by decide) rfl ?_
      refine wl_off (t := 19) rfl (by decide) rfl ?_
      refine wl_val (at_pick_t rfl rfl) rfl ?_
      refine wl_nil ?_
      exact wk_prune [(1, .pointer (some (⟨b1, 0, none⟩ : Addr))), (3, .int .i64 x3.1), (25, .bool true)] ⟨rfl, rfl, rfl, trivial⟩ (fun f1 => hJ6 (true) _ f1 h ⟨t_b1, trivial⟩ so)
    · refine wl_set (t := 15) (v := .bool false) (congrArg Value.bool hb) ?_; clear hb
      refine wl_on (t := 15) rfl (by decide) rfl ?_
      refine wl_val (at_move rfl) rfl ?_
      refine wl_on (t := 15) rfl (by decide) rfl ?_
      refine wl_val (at_gtr rfl rfl) rfl ?_
      refine wl_val (at_pick_f rfl rfl) rfl ?_
      refine wl_val (at_move rfl) rfl ?_
      refine bif_ h (fun hb h => ?_) (fun hb h => ?_)
      · refine wl_set (t := 19) (v := .bool true) (congrArg Value.bool hb) ?_; clear hb
        refine wl_off (t := 19) rfl (by decide) rfl ?_
        refine wl_off (t := 19) rfl (by decide) rfl ?_
        refine wl_off (t := 19) rfl (by decide) rfl ?_
        refine wl_off (t := 19) rfl (by decide) rfl ?_
        refine wl_off (t := 19) rfl (by decide) rfl ?_
        refine wl_val (at_pick_t rfl rfl) rfl ?_
        refine wl_nil ?_
        exact wk_prune [(1, .pointer (some (⟨b1, 0, none⟩ : Addr))), (3, .int .i64 x3.1), (25, .bool true)] ⟨rfl, rfl, rfl, trivial⟩ (fun f1 => hJ6 (true) _ f1 h ⟨t_b1, trivial⟩ so)
      · refine wl_set (t := 19) (v := .bool false) (congrArg Value.bool hb) ?_; clear hb
        refine wl_on (t := 19) rfl (by decide) rfl ?_
        refine wl_val (at_move rfl) rfl ?_
        refine wl_on (t := 19) rfl (by decide) rfl ?_
        refine wl_val (at_fieldAddr Try.underlying29 rfl rfl sz27 (by decide) rfl) rfl ?_
        refine wl_on (t := 19) rfl (by decide) rfl ?_
        refine wl_val (at_load (v := .slice a0_1.a a0_1.n a0_1.c) Try.underlying27 rfl rfl ((t_b1.cell 16).trans (by first | rfl | simp [List.getElem?_append, ints_len, bools_len]))) rfl ?_
        refine wl_on (t := 19) rfl (by decide) rfl ?_
        refine wl_val (at_lenL Try.underlying27 rfl) rfl ?_
        refine wl_on (t := 19) rfl (by decide) rfl ?_
        refine wl_val (at_neq rfl rfl) rfl ?_
        refine wl_val (at_pick_f rfl rfl) rfl ?_
        refine wl_nil ?_
        exact wk_prune [(1, .pointer (some (⟨b1, 0, none⟩ : Addr))), (3, .int .i64 x3.1), (25, .bool (x3.2 != (a0_1.n : Int)))] ⟨rfl, rfl, rfl, trivial⟩ (fun f1 => hJ6 ((x3.2 != (a0_1.n : Int))) _ f1 h ⟨t_b1, trivial⟩ so)
def huff_New.enc : (Option Addr) × Int → Value := fun r => .tuple #[.pointer r.1, .int .i64 r.2]
def huff_New.s (a0_0 : Ints 16) (a0_1 : Sl) (H0 : Hp) (Q : ((Option Addr) × Int) → Hp → Prop) : Prop :=
  Gn [] H0 (fun (b1 : Nat) (H2 : Hp) => huff_Check.s a0_0 a0_1 H2 (fun x3 H4 => Pv [b1] H2 H4 ∧ (if (x3 != 0) = true then (Q (none, x3) H4) else (slices_Clone_uint8_uint8.s a0_1 H4 (fun x6 H7 => Pv [b1] H4 H7 ∧ (Gn [] H7 (fun (b9 : Nat) (H10 : Hp) => Bk H10 b9 114 (c114 (zInts 256) (zInts 256) (zInts 17) (zInts 17) (zInts 17) x6) → (∃ k11, Fix (fun (rec16 : (Int × Int × Int) → Hp → Prop) (s13 : Int × Int × Int) (H14 : Hp) => if decide (s13.2.2 ≤ 16) = true then (0 ≤ (IntKind.wrap .i64 (s13.2.2 - 1)) ∧ (IntKind.wrap .i64 (s13.2.2 - 1)) < (16 : Int) ∧ (Lt ((IntKind.wrap .i64 (ixI a0_0 (IntKind.wrap .i64 (s13.2.2 - 1)))) : Int) (fun x19 => 0 ≤ s13.2.2 ∧ s13.2.2 < (17 : Int) ∧ (st H14 ((⟨b9, 512, none⟩ : Addr).add (Int.toNat s13.2.2 * 1)) (.int .i64 s13.1) (fun H24 => Pv [b1] H14 H24 ∧ (0 ≤ s13.2.2 ∧ s13.2.2 < (17 : Int) ∧ (st H24 ((⟨b9, 529, none⟩ : Addr).add (Int.toNat s13.2.2 * 1)) (.int .i64 x19) (fun H28 => Pv [b1] H24 H28 ∧ (0 ≤ s13.2.2 ∧ s13.2.2 < (17 : Int) ∧ (st H28 ((⟨b9, 546, none⟩ : Addr).add (Int.toNat s13.2.2 * 1)) (.int .i64 s13.2.1) (fun H32 => Pv [b1] H28 H32 ∧ (∃ k34, Fix (fun (rec39 : (Int × Int × Int) → Hp → Prop) (s36 : Int × Int × Int) (H37 : Hp) => if decide (s36.2.2 < x19) = true then (ldL H37 (⟨b9, 563, none⟩ : Addr) (fun x40 => 0 ≤ s36.2.1 ∧ s36.2.1 < (x40.n : Int) ∧ someA x40.a (fun p44 => ldI .u8 H37 (p44.add (Int.toNat s36.2.1 * 1)) (fun x46 => 0 ≤ x46 ∧ x46 < (256 : Int) ∧ (st H37 ((⟨b9, 0, none⟩ : Addr).add (Int.toNat x46 * 1)) (.int .u16 (IntKind.wrap .u16 s36.1)) (fun H51 => Pv [b1] H37 H51 ∧ (0 ≤ x46 ∧ x46 < (256 : Int) ∧ (st H51 ((⟨b9, 256, none⟩ : Addr).add (Int.toNat x46 * 1)) (.int .u8 (IntKind.wrap .u8 s13.2.2)) (fun H55 => Pv [b1] H51 H55 ∧ (rec39 ((IntKind.wrap .i64 (s36.1 + 1)), (IntKind.wrap .i64 (s36.2.1 + 1)), (IntKind.wrap .i64 (s36.2.2 + 1))) H55)))))))))) else (rec16 ((shlI .i64 s36.1 1), s36.2.1, (IntKind.wrap .i64 (s13.2.2 + 1))) H37)) k34 (s13.1, s13.2.1, 0) H32)))))))))))) else (Q ((some (⟨b9, 0, none⟩ : Addr)), 0) H14)) k11 (0, 0, 1) H10))))))))
set_option maxRecDepth 20000 in
set_option maxHeartbeats 4000000 in
theorem huff_New.calls (a0_0 : Ints 16) (a0_1 : Sl) (w0 : World) (Q : ((Option Addr) × Int) → Hp → Prop) (h : huff_New.s a0_0 a0_1 w0.heap Q) :
    Ca Try.prog 23 #[.agg (c29 a0_0 a0_1).toArray] w0 (Rt huff_New.enc Q w0) := by
  refine ca_start (c := _) Try.func23 rfl Try.ntmps23 rfl ?_
  have so : Sm w0 w0 := Sm.refl w0
  unfold huff_New.s at h
  refine wc_prune [(0, .agg (c29 a0_0 a0_1).toArray)] ⟨rfl, trivial⟩ (fun f1 => ?_)
  refine wc_seq ?_
  refine wc_region ?_
  refine wl_newT (T := 29) (cs := (c29 a0_0 a0_1)) (ef_box rfl rfl) rfl so ?_; intro b1 w2 hb_b1 t_b1 k_b1 so
  have g_b1 := Nat.le_of_eq hb_b1.symm
  have hc := k_b1.ch (F := [])
  refine wl_val (at_assign rfl) rfl ?_
  refine wl_val (at_assign rfl) rfl ?_
  refine wl_nil ?_
  refine wk_prune [(1, .pointer (some (⟨b1, 0, none⟩ : Addr)))] ⟨rfl, trivial⟩ (fun f1 => ?_)
  refine wk_then ?_
  refine wc_seq ?_
  refine wc_seq ?_
  refine wc_region ?_
  refine wl_val (at_loadA (cs := (c29 a0_0 a0_1)) Try.underlying29 rfl (by rw [len29]; exact sz29) rfl (ldA_full t_b1)) rfl ?_
  replace h := h b1 _ hc g_b1 t_b1.lt; clear hc
  refine wl_callF (huff_Check.calls _ _ _ _ h) enter39 rfl trivial so ?_; intro x3 w4 h so
  obtain ⟨q5, h⟩ := h
  replace t_b1 := pv_bk q5 t_b1 (by simp)
  refine wl_val (at_assign rfl) rfl ?_
  refine wl_nil ?_
  refine wk_prune [(1, .pointer (some (⟨b1, 0, none⟩ : Addr))), (4, .int .i64 x3)] ⟨rfl, rfl, trivial⟩ (fun f1 => ?_)
  refine wk_then ?_
  refine wc_seq ?_
  refine wc_region ?_
  refine wl_val (at_move rfl) rfl ?_
  refine wl_val (at_neq rfl rfl) rfl ?_
  refine wl_nil ?_
  refine wk_prune [(1, .pointer (some (⟨b1, 0, none⟩ : Addr))), (4, .int .i64 x3), (14, .bool (x3 != 0))] ⟨rfl, rfl, rfl, trivial⟩ (fun f1 => ?_)
  refine wk_then ?_
  refine wc_cond rfl h (fun h => ?_) (fun h => ?_)
  · refine wc_seq ?_
    refine wc_region ?_
    refine wl_val (at_move rfl) rfl ?_
    refine wl_val (at_assign rfl) rfl ?_
    refine wl_val (at_assign rfl) rfl ?_
    refine wl_nil ?_
    refine wk_prune [(2, .pointer none), (3, .int .i64 x3)] ⟨rfl, rfl, trivial⟩ (fun f1 => ?_)
    refine wk_then ?_
    refine wc_ret ?_
    refine wk_thenR ?_
    exact wk_ret2 (x := (none, x3)) rfl (by decide) (by decide) rfl so h
  · refine wc_skip ?_
    refine wk_prune [(1, .pointer (some (⟨b1, 0, none⟩ : Addr)))] ⟨rfl, trivial⟩ (fun f1 => ?_)
    refine wk_then ?_
    refine wc_seq ?_
    refine wc_region ?_
    refine wl_val (at_fieldAddr Try.underlying29 rfl rfl sz27 (by decide) rfl) rfl ?_
    refine wl_val (at_load (v := .slice a0_1.a a0_1.n a0_1.c) Try.underlying27 rfl rfl ((t_b1.cell 16).trans (by first | rfl | simp [List.getElem?_append, ints_len, bools_len]))) rfl ?_
    refine wl_callF (slices_Clone_uint8_uint8.calls _ _ _ h) enter40 rfl trivial so ?_; intro x6 w7 h so
    obtain ⟨q8, h⟩ := h
    replace t_b1 := pv_bk q8 t_b1 (by simp)
    refine wl_val (at_build (cs := (c114 (zInts 256) (zInts 256) (zInts 17) (zInts 17) (zInts 17) x6)) (ps := [(5, .slice x6.a x6.n x6.c)]) rfl (build_struct (szs := [256, 256, 17, 17, 17, 1]) (vs := [.agg (c110 (zInts 256)).toArray, .agg (c111 (zInts 256)).toArray, .agg (c112 (zInts 17)).toArray, .agg (c112 (zInts 17)).toArray, .agg (c112 (zInts 17)).toArray, .slice none 0 0]) (cs := (c114 (zInts 256) (zInts 256) (zInts 17) (zInts 17) (zInts 17) x6)) zero114 (by first | rfl | simp [z114, c114, c110, len110, c111, len111, c112, len112, Value.cells, ints_len, bools_len, List.flatMap]) Try.underlying114 (by kernel_rfl) (by simp [z114, c114, c110, len110, c111, len111, c112, len112, Value.cells, ints_len, bools_len]) (by simp [z114, c114, c110, len110, c111, len111, c112, len112, Value.cells, ints_len, bools_len]) (by first | rfl | simp [z114, c114, c110, len110, c111, len111, c112, len112, Value.cells, ints_len, bools_len, List.set, List.flatMap, mkI, mkB, ints, bools]))) rfl ?_
    refine wl_newT (T := 114) (cs := (c114 (zInts 256) (zInts 256) (zInts 17) (zInts 17) (zInts 17) x6)) (ef_box rfl rfl) rfl so ?_; intro b9 w10 hb_b9 t_b9 k_b9 so
    have g_b9 := Nat.le_of_eq hb_b9.symm
    have hc := k_b9.ch (F := [])
    have n_b1_b9 : b1 ≠ b9 := fun e => by have := t_b1.lt; omega
    replace t_b1 := t_b1.keep k_b9
    refine wl_val (at_assign rfl) rfl ?_
    refine wl_nil ?_
    refine wk_prune [(1, .pointer (some (⟨b1, 0, none⟩ : Addr))), (5, .pointer (some (⟨b9, 0, none⟩ : Addr)))] ⟨rfl, rfl, trivial⟩ (fun f1 => ?_)
    refine wk_then ?_
    refine wc_seq ?_
    refine wc_region ?_
    refine wl_val (at_assign rfl) rfl ?_
    refine wl_val (at_assign rfl) rfl ?_
    refine wl_nil ?_
    refine wk_prune [(1, .pointer (some (⟨b1, 0, none⟩ : Addr))), (5, .pointer (some (⟨b9, 0, none⟩ : Addr))), (6, .int .i64 0), (7, .int .i64 0)] ⟨rfl, rfl, rfl, rfl, trivial⟩ (fun f1 => ?_)
    refine wk_then ?_
    refine wc_seq ?_
    refine wc_seq ?_
    refine wc_region ?_
    refine wl_val (at_assign rfl) rfl ?_
    refine wl_nil ?_
    refine wk_prune [(1, .pointer (some (⟨b1, 0, none⟩ : Addr))), (5, .pointer (some (⟨b9, 0, none⟩ : Addr))), (6, .int .i64 0), (7, .int .i64 0), (8, .int .i64 1)] ⟨rfl, rfl, rfl, rfl, rfl, trivial⟩ (fun f1 => ?_)
    refine wk_then ?_
    refine wc_block ?_
    replace h := h b9 _ hc g_b9 t_b9.lt; clear hc
    replace h := h t_b9
    obtain ⟨k11, h⟩ := h
    refine wc_loop (fun k a w => ∃ (s13 : Int × Int × Int) (f1 : Nat → Value), a = ac 81 (en f1 [(1, .pointer (some (⟨b1, 0, none⟩ : Addr))), (5, .pointer (some (⟨b9, 0, none⟩ : Addr))), (6, .int .i64 s13.1), (7, .int .i64 s13.2.1), (8, .int .i64 s13.2.2)]) [] ∧ Sm w0 w ∧ (Bk w.heap b1 29 (c29 a0_0 a0_1) ∧ True) ∧ Fix _ k s13 w.heap) k11 ⟨(0, 0, 1), _, ac_again ⟨rfl, rfl, rfl, rfl, rfl, trivial⟩, so, ⟨t_b1, trivial⟩, h⟩ ?_
    rintro k12 a15 w14 ⟨s13, f1, rfl, so, ⟨t_b1, _⟩, h⟩
    rcases k12 with _ | k12
    · exact h.elim
    replace h := Fix.un h; refine wc_in ?_
    refine wc_seq ?_
    refine wc_seq ?_
    refine wc_region ?_
    refine wl_val (at_move rfl) rfl ?_
    refine wl_val (at_leq rfl rfl) rfl ?_
    refine wl_nil ?_
    refine wk_prune [(1, .pointer (some (⟨b1, 0, none⟩ : Addr))), (5, .pointer (some (⟨b9, 0, none⟩ : Addr))), (6, .int .i64 s13.1), (7, .int .i64 s13.2.1), (8, .int .i64 s13.2.2), (22, .bool (decide (s13.2.2 ≤ 16)))] ⟨rfl, rfl, rfl, rfl, rfl, rfl, trivial⟩ (fun f1 => ?_)
    refine wk_then ?_
    refine wc_cond rfl h (fun h => ?_) (fun h => ?_)
    · refine wc_skip ?_
      refine wk_prune [(1, .pointer (some (⟨b1, 0, none⟩ : Addr))), (5, .pointer (some (⟨b9, 0, none⟩ : Addr))), (6, .int .i64 s13.1), (7, .int .i64 s13.2.1), (8, .int .i64 s13.2.2)] ⟨rfl, rfl, rfl, rfl, rfl, trivial⟩ (fun f1 => ?_)
      refine wk_then ?_
      refine wc_seq ?_
      refine wc_block ?_
      refine wc_seq ?_
      refine wc_region ?_
      refine wl_val (at_move rfl) rfl ?_
      refine wl_val (at_sub rfl rfl) rfl ?_
      refine wl_val (at_fieldAddr Try.underlying29 rfl rfl sz26 (by decide) rfl) rfl ?_
      obtain ⟨q17, q18, h⟩ := h
      refine wl_val (at_ixAddrA Try.underlying26 sz5 rfl rfl q17 q18) rfl ?_
      refine wl_val (at_load (v := .int .u8 (ixI a0_0 (IntKind.wrap .i64 (s13.2.2 - 1)))) Try.underlying5 rfl rfl (ixT (pre := []) (l := a0_0) (post := ([.slice a0_1.a a0_1.n a0_1.c])) (by first | exact t_b1 | (have q := t_b1; simp only [List.append_assoc, List.cons_append, List.nil_append, List.append_nil] at q ⊢; exact q)) (by first | rfl | simp [ints_len, bools_len]) q17 q18)) rfl ?_
      refine wl_val (at_conv Try.underlying5 Try.underlying3 rfl) rfl ?_
      refine wl_val (at_assign rfl) rfl ?_
      obtain ⟨x19, e20⟩ : ∃ x : Int, x = (IntKind.wrap .i64 (ixI a0_0 (IntKind.wrap .i64 (s13.2.2 - 1)))) := ⟨_, rfl⟩; replace h := h x19 e20
      refine wl_set (t := 9) (v := .int .i64 x19) (congrArg (Value.int .i64) e20.symm) ?_
      refine wl_nil ?_
      refine wk_prune [(1, .pointer (some (⟨b1, 0, none⟩ : Addr))), (5, .pointer (some (⟨b9, 0, none⟩ : Addr))), (6, .int .i64 s13.1), (7, .int .i64 s13.2.1), (8, .int .i64 s13.2.2), (9, .int .i64 x19)] ⟨rfl, rfl, rfl, rfl, rfl, rfl, trivial⟩ (fun f1 => ?_)
      refine wk_then ?_
      refine wc_seq ?_
      refine wc_wo [0, 0, 0, 0, 0, 0, 0, 0, 0, 1, 513, 1603, 3651, 4, 8196, 32463, 65231, 16, 131088, 524287, 1048575] mixed (by kernel_rfl) so ?_; intro w21 hw so; rw [← hw] at h t_b1; clear hw
      refine wo_pure (m' := 1) 0 rfl (by kernel_rfl) rfl rfl (fun H => at_move rfl) ?_
      refine wo_pure (m' := 3) 1 rfl (by kernel_rfl) rfl rfl (fun H => at_move rfl) ?_
      refine wo_pure (m' := 7) 2 rfl (by kernel_rfl) rfl rfl (fun H => at_move rfl) ?_
      refine wo_pure (m' := 15) 3 rfl (by kernel_rfl) rfl rfl (fun H => at_move rfl) ?_
      refine wo_pure (m' := 31) 4 rfl (by kernel_rfl) rfl rfl (fun H => at_move rfl) ?_
      refine wo_pure (m' := 63) 5 rfl (by kernel_rfl) rfl rfl (fun H => at_move rfl) ?_
      refine wo_pure (m' := 127) 6 rfl (by kernel_rfl) rfl rfl (fun H => at_move rfl) ?_
      refine wo_pure (m' := 255) 7 rfl (by kernel_rfl) rfl rfl (fun H => at_move rfl) ?_
      refine wo_pure (m' := 511) 8 rfl (by kernel_rfl) rfl rfl (fun H => at_move rfl) ?_
      refine wo_pure (m' := 1023) 9 rfl (by kernel_rfl) rfl rfl (fun H => at_nilCheck rfl) ?_
      refine wo_pure (m' := 2047) 10 rfl (by kernel_rfl) rfl rfl (fun H => at_fieldAddr Try.underlying114 rfl rfl sz112 (by decide) rfl) ?_
      obtain ⟨q22, q23, h⟩ := h
      refine wo_pure (m' := 4095) 11 rfl (by kernel_rfl) rfl rfl (fun H => at_ixAddrA Try.underlying112 sz3 rfl rfl q22 q23) ?_
      refine wo_pure (m' := 12287) 13 rfl (by kernel_rfl) rfl rfl (fun H => at_nilCheck rfl) ?_
      refine wo_pure (m' := 28671) 14 rfl (by kernel_rfl) rfl rfl (fun H => at_fieldAddr Try.underlying114 rfl rfl sz112 (by decide) rfl) ?_
      refine wo_pure (m' := 159743) 17 rfl (by kernel_rfl) rfl rfl (fun H => at_nilCheck rfl) ?_
      refine wo_pure (m' := 421887) 18 rfl (by kernel_rfl) rfl rfl (fun H => at_fieldAddr Try.underlying114 rfl rfl sz112 (by decide) rfl) ?_
      refine wo_take (m' := 425983) 12 [] rfl (by kernel_rfl) rfl (by kernel_rfl) ?_
      refine wl_st (v := .int .i64 s13.1) h rfl so (fun q1 q2 => ef_store (sz := sz3) rfl rfl rfl q1 q2) ?_; intro w24 h so
      obtain ⟨q25, h⟩ := h
      replace t_b1 := pv_bk q25 t_b1 (by simp)
      refine wl_nil ?_
      refine wk_tq trivial ?_
      obtain ⟨q26, q27, h⟩ := h
      refine wo_pure (m' := 458751) 15 rfl (by kernel_rfl) rfl rfl (fun H => at_ixAddrA Try.underlying112 sz3 rfl rfl q26 q27) ?_
      refine wo_take (m' := 524287) 16 [] rfl (by kernel_rfl) rfl (by kernel_rfl) ?_
      refine wl_st (v := .int .i64 x19) h rfl so (fun q1 q2 => ef_store (sz := sz3) rfl rfl rfl q1 q2) ?_; intro w28 h so
      obtain ⟨q29, h⟩ := h
      replace t_b1 := pv_bk q29 t_b1 (by simp)
      refine wl_nil ?_
      refine wk_tq trivial ?_
      obtain ⟨q30, q31, h⟩ := h
      refine wo_pure (m' := 1048575) 19 rfl (by kernel_rfl) rfl rfl (fun H => at_ixAddrA Try.underlying112 sz3 rfl rfl q30 q31) ?_
      refine wo_take (m' := 2097151) 20 [] rfl (by kernel_rfl) rfl (by kernel_rfl) ?_
      refine wl_st (v := .int .i64 s13.2.1) h rfl so (fun q1 q2 => ef_store (sz := sz3) rfl rfl rfl q1 q2) ?_; intro w32 h so
      obtain ⟨q33, h⟩ := h
      replace t_b1 := pv_bk q33 t_b1 (by simp)
      refine wl_nil ?_
      refine wk_tq trivial ?_
      refine wo_done (by kernel_rfl) ?_
      refine wk_prune [(1, .pointer (some (⟨b1, 0, none⟩ : Addr))), (5, .pointer (some (⟨b9, 0, none⟩ : Addr))), (6, .int .i64 s13.1), (7, .int .i64 s13.2.1), (8, .int .i64 s13.2.2), (9, .int .i64 x19)] ⟨rfl, rfl, rfl, rfl, rfl, rfl, trivial⟩ (fun f1 => ?_)
      refine wk_then ?_
      refine wc_seq ?_
      refine wc_seq ?_
      refine wc_region ?_
      refine wl_val (at_move rfl) rfl ?_
      refine wl_val (at_move rfl) rfl ?_
      refine wl_nil ?_
      refine wk_prune [(1, .pointer (some (⟨b1, 0, none⟩ : Addr))), (5, .pointer (some (⟨b9, 0, none⟩ : Addr))), (6, .int .i64 s13.1), (7, .int .i64 s13.2.1), (8, .int .i64 s13.2.2), (49, .int .i64 x19), (50, .int .i64 0)] ⟨rfl, rfl, rfl, rfl, rfl, rfl, rfl, trivial⟩ (fun f1 => ?_)
      refine wk_then ?_
      refine wc_block ?_
      obtain ⟨k34, h⟩ := h
      refine wc_loop (fun k a w => ∃ (s36 : Int × Int × Int) (f1 : Nat → Value), a = ac 81 (en f1 [(1, .pointer (some (⟨b1, 0, none⟩ : Addr))), (5, .pointer (some (⟨b9, 0, none⟩ : Addr))), (6, .int .i64 s36.1), (7, .int .i64 s36.2.1), (8, .int .i64 s13.2.2), (49, .int .i64 x19), (50, .int .i64 s36.2.2)]) [] ∧ Sm w0 w ∧ (Bk w.heap b1 29 (c29 a0_0 a0_1) ∧ True) ∧ Fix _ k s36 w.heap) k34 ⟨(s13.1, s13.2.1, 0), _, ac_again ⟨rfl, rfl, rfl, rfl, rfl, rfl, rfl, trivial⟩, so, ⟨t_b1, trivial⟩, h⟩ ?_
      rintro k35 a38 w37 ⟨s36, f1, rfl, so, ⟨t_b1, _⟩, h⟩
      rcases k35 with _ | k35
      · exact h.elim
      replace h := Fix.un h; refine wc_in ?_
      refine wc_seq ?_
      refine wc_region ?_
      refine wl_val (at_lss rfl rfl) rfl ?_
      refine wl_nil ?_
      refine wk_prune [(1, .pointer (some (⟨b1, 0, none⟩ : Addr))), (5, .pointer (some (⟨b9, 0, none⟩ : Addr))), (6, .int .i64 s36.1), (7, .int .i64 s36.2.1), (8, .int .i64 s13.2.2), (49, .int .i64 x19), (50, .int .i64 s36.2.2), (51, .bool (decide (s36.2.2 < x19)))] ⟨rfl, rfl, rfl, rfl, rfl, rfl, rfl, rfl, trivial⟩ (fun f1 => ?_)
      refine wk_then ?_
      refine wc_seq ?_
      refine wc_cond rfl h (fun h => ?_) (fun h => ?_)
      · refine wc_skip ?_
        refine wk_prune [(1, .pointer (some (⟨b1, 0, none⟩ : Addr))), (5, .pointer (some (⟨b9, 0, none⟩ : Addr))), (6, .int .i64 s36.1), (7, .int .i64 s36.2.1), (8, .int .i64 s13.2.2), (49, .int .i64 x19), (50, .int .i64 s36.2.2)] ⟨rfl, rfl, rfl, rfl, rfl, rfl, rfl, trivial⟩ (fun f1 => ?_)
        refine wk_then ?_
        refine wc_seq ?_
        refine wc_block ?_
        refine wc_seq ?_
        refine wc_region ?_
        refine wl_val (at_move rfl) rfl ?_
        refine wl_val (at_nilCheck rfl) rfl ?_
        refine wl_val (at_fieldAddr Try.underlying114 rfl rfl sz27 (by decide) rfl) rfl ?_
        obtain ⟨x40, q41, h⟩ := h
        refine wl_val (at_load Try.underlying27 rfl rfl q41) rfl ?_
        refine wl_val (at_move rfl) rfl ?_
        obtain ⟨q42, q43, p44, q45, h⟩ := h
        refine wl_val (at_ixAddrL Try.underlying27 sz5 (sl_some q45) rfl q42 q43) rfl ?_
        obtain ⟨x46, q47, h⟩ := h
        refine wl_val (at_load Try.underlying5 rfl rfl q47) rfl ?_
        refine wl_val (at_assign rfl) rfl ?_
        refine wl_nil ?_
        refine wk_prune [(1, .pointer (some (⟨b1, 0, none⟩ : Addr))), (5, .pointer (some (⟨b9, 0, none⟩ : Addr))), (6, .int .i64 s36.1), (7, .int .i64 s36.2.1), (8, .int .i64 s13.2.2), (10, .int .u8 x46), (49, .int .i64 x19), (50, .int .i64 s36.2.2)] ⟨rfl, rfl, rfl, rfl, rfl, rfl, rfl, rfl, trivial⟩ (fun f1 => ?_)
        refine wk_then ?_
        refine wc_seq ?_
        refine wc_wo [0, 0, 0, 0, 0, 16, 0, 64, 1, 257, 819, 1843, 4, 4100, 16383, 32767] mixed (by kernel_rfl) so ?_; intro w48 hw so; rw [← hw] at h t_b1; clear hw
        refine wo_pure (m' := 1) 0 rfl (by kernel_rfl) rfl rfl (fun H => at_move rfl) ?_
        refine wo_pure (m' := 3) 1 rfl (by kernel_rfl) rfl rfl (fun H => at_move rfl) ?_
        refine wo_pure (m' := 7) 2 rfl (by kernel_rfl) rfl rfl (fun H => at_move rfl) ?_
        refine wo_pure (m' := 15) 3 rfl (by kernel_rfl) rfl rfl (fun H => at_move rfl) ?_
        refine wo_pure (m' := 31) 4 rfl (by kernel_rfl) rfl rfl (fun H => at_move rfl) ?_
        refine wo_pure (m' := 63) 5 rfl (by kernel_rfl) rfl rfl (fun H => at_conv Try.underlying3 Try.underlying64 rfl) ?_
        refine wo_pure (m' := 127) 6 rfl (by kernel_rfl) rfl rfl (fun H => at_move rfl) ?_
        refine wo_pure (m' := 255) 7 rfl (by kernel_rfl) rfl rfl (fun H => at_conv Try.underlying3 Try.underlying5 rfl) ?_
        refine wo_pure (m' := 511) 8 rfl (by kernel_rfl) rfl rfl (fun H => at_nilCheck rfl) ?_
        refine wo_pure (m' := 1023) 9 rfl (by kernel_rfl) rfl rfl (fun H => at_fieldAddr Try.underlying114 rfl rfl sz110 (by decide) rfl) ?_
        obtain ⟨q49, q50, h⟩ := h
        refine wo_pure (m' := 2047) 10 rfl (by kernel_rfl) rfl rfl (fun H => at_ixAddrA Try.underlying110 sz64 rfl rfl q49 q50) ?_
        refine wo_pure (m' := 6143) 12 rfl (by kernel_rfl) rfl rfl (fun H => at_nilCheck rfl) ?_
        refine wo_pure (m' := 14335) 13 rfl (by kernel_rfl) rfl rfl (fun H => at_fieldAddr Try.underlying114 rfl rfl sz111 (by decide) rfl) ?_
        refine wo_take (m' := 16383) 11 [] rfl (by kernel_rfl) rfl (by kernel_rfl) ?_
        refine wl_st (v := .int .u16 (IntKind.wrap .u16 s36.1)) h rfl so (fun q1 q2 => ef_store (sz := sz64) rfl rfl rfl q1 q2) ?_; intro w51 h so
        obtain ⟨q52, h⟩ := h
        replace t_b1 := pv_bk q52 t_b1 (by simp)
        refine wl_nil ?_
        refine wk_tq trivial ?_
        obtain ⟨q53, q54, h⟩ := h
        refine wo_pure (m' := 32767) 14 rfl (by kernel_rfl) rfl rfl (fun H => at_ixAddrA Try.underlying111 sz5 rfl rfl q53 q54) ?_
        refine wo_take (m' := 65535) 15 [] rfl (by kernel_rfl) rfl (by kernel_rfl) ?_
        refine wl_st (v := .int .u8 (IntKind.wrap .u8 s13.2.2)) h rfl so (fun q1 q2 => ef_store (sz := sz5) rfl rfl rfl q1 q2) ?_; intro w55 h so
        obtain ⟨q56, h⟩ := h
        replace t_b1 := pv_bk q56 t_b1 (by simp)
        refine wl_nil ?_
        refine wk_tq trivial ?_
        refine wo_done (by kernel_rfl) ?_
        refine wk_prune [(1, .pointer (some (⟨b1, 0, none⟩ : Addr))), (5, .pointer (some (⟨b9, 0, none⟩ : Addr))), (6, .int .i64 s36.1), (7, .int .i64 s36.2.1), (8, .int .i64 s13.2.2), (49, .int .i64 x19), (50, .int .i64 s36.2.2)] ⟨rfl, rfl, rfl, rfl, rfl, rfl, rfl, trivial⟩ (fun f1 => ?_)
        refine wk_then ?_
        refine wc_seq ?_
        refine wc_region ?_
        refine wl_val (at_move rfl) rfl ?_
        refine wl_val (at_add rfl rfl) rfl ?_
        refine wl_val (at_assign rfl) rfl ?_
        refine wl_nil ?_
        refine wk_prune [(1, .pointer (some (⟨b1, 0, none⟩ : Addr))), (5, .pointer (some (⟨b9, 0, none⟩ : Addr))), (6, .int .i64 (IntKind.wrap .i64 (s36.1 + 1))), (7, .int .i64 s36.2.1), (8, .int .i64 s13.2.2), (49, .int .i64 x19), (50, .int .i64 s36.2.2)] ⟨rfl, rfl, rfl, rfl, rfl, rfl, rfl, trivial⟩ (fun f1 => ?_)
        refine wk_then ?_
        refine wc_region ?_
        refine wl_val (at_move rfl) rfl ?_
        refine wl_val (at_add rfl rfl) rfl ?_
        refine wl_val (at_assign rfl) rfl ?_
        refine wl_nil ?_
        refine wk_blkN ?_
        refine wk_prune [(1, .pointer (some (⟨b1, 0, none⟩ : Addr))), (5, .pointer (some (⟨b9, 0, none⟩ : Addr))), (6, .int .i64 (IntKind.wrap .i64 (s36.1 + 1))), (7, .int .i64 (IntKind.wrap .i64 (s36.2.1 + 1))), (8, .int .i64 s13.2.2), (49, .int .i64 x19), (50, .int .i64 s36.2.2)] ⟨rfl, rfl, rfl, rfl, rfl, rfl, rfl, trivial⟩ (fun f1 => ?_)
        refine wk_then ?_
        refine wc_region ?_
        refine wl_val (at_add rfl rfl) rfl ?_
        refine wl_val (at_move rfl) rfl ?_
        refine wl_nil ?_
        exact wk_again ⟨((IntKind.wrap .i64 (s36.1 + 1)), (IntKind.wrap .i64 (s36.2.1 + 1)), (IntKind.wrap .i64 (s36.2.2 + 1))), _, ac_again ⟨rfl, rfl, rfl, rfl, rfl, rfl, rfl, trivial⟩, so, ⟨t_b1, trivial⟩, h⟩
      · refine wc_exit ?_
        refine wk_thenE ?_
        refine wk_thenE ?_
        refine wk_blkE ?_
        refine wk_prune [(1, .pointer (some (⟨b1, 0, none⟩ : Addr))), (5, .pointer (some (⟨b9, 0, none⟩ : Addr))), (6, .int .i64 s36.1), (7, .int .i64 s36.2.1), (8, .int .i64 s13.2.2)] ⟨rfl, rfl, rfl, rfl, rfl, trivial⟩ (fun f1 => ?_)
        refine wk_then ?_
        refine wc_region ?_
        refine wl_val (at_move rfl) rfl ?_
        refine wl_val (at_shl rfl rfl (by decide)) rfl ?_
        refine wl_val (at_assign rfl) rfl ?_
        refine wl_nil ?_
        refine wk_blkN ?_
        refine wk_prune [(1, .pointer (some (⟨b1, 0, none⟩ : Addr))), (5, .pointer (some (⟨b9, 0, none⟩ : Addr))), (6, .int .i64 (shlI .i64 s36.1 1)), (7, .int .i64 s36.2.1), (8, .int .i64 s13.2.2)] ⟨rfl, rfl, rfl, rfl, rfl, trivial⟩ (fun f1 => ?_)
        refine wk_then ?_
        refine wc_region ?_
        refine wl_val (at_move rfl) rfl ?_
        refine wl_val (at_add rfl rfl) rfl ?_
        refine wl_val (at_assign rfl) rfl ?_
        refine wl_nil ?_
        exact wk_again ⟨((shlI .i64 s36.1 1), s36.2.1, (IntKind.wrap .i64 (s13.2.2 + 1))), _, ac_again ⟨rfl, rfl, rfl, rfl, rfl, trivial⟩, so, ⟨t_b1, trivial⟩, h⟩
    · refine wc_exit ?_
      refine wk_thenE ?_
      refine wk_thenE ?_
      refine wk_blkE ?_
      refine wk_prune [(5, .pointer (some (⟨b9, 0, none⟩ : Addr)))] ⟨rfl, trivial⟩ (fun f1 => ?_)
      refine wk_then ?_
      refine wc_seq ?_
      refine wc_region ?_
      refine wl_val (at_move rfl) rfl ?_
      refine wl_val (at_assign rfl) rfl ?_
      refine wl_val (at_assign rfl) rfl ?_
      refine wl_nil ?_
      refine wk_prune [(2, .pointer (some (⟨b9, 0, none⟩ : Addr))), (3, .int .i64 0)] ⟨rfl, rfl, trivial⟩ (fun f1 => ?_)
      refine wk_then ?_
      refine wc_ret ?_
      exact wk_ret2 (x := ((some (⟨b9, 0, none⟩ : Addr)), 0)) rfl (by decide) (by decide) rfl so h
def huff_Table_Write.enc : Bool → Value := fun r => .bool r
def huff_Table_Write.s (a0 : Option Addr) (a1 : Option Addr) (a2 : Int) (H0 : Hp) (Q : Bool → Hp → Prop) : Prop :=
  Join (fun (s2 : Bool) (H3 : Hp) => if s2 = true then (Q false H3) else (someA a0 (fun p5 => 0 ≤ a2 ∧ a2 < (256 : Int) ∧ (0 ≤ a2 ∧ a2 < (256 : Int) ∧ (ldI .u16 H3 ((p5.add 0).add (Int.toNat a2 * 1)) (fun x11 => ldI .u8 H3 ((p5.add 256).add (Int.toNat a2 * 1)) (fun x13 => bits_Sink_Put.s a1 (IntKind.wrap .i64 x11) (IntKind.wrap .i64 x13) H3 (fun x15 H16 => Q x15 H16)))))))) (fun (J1 : Bool → Hp → Prop) => if a1.isNone = true then (J1 (true) H0) else (someA a0 (fun p17 => 0 ≤ a2 ∧ a2 < (256 : Int) ∧ (ldI .u8 H0 ((p17.add 256).add (Int.toNat a2 * 1)) (fun x21 => J1 ((x21 == 0)) H0)))))
set_option maxRecDepth 20000 in
set_option maxHeartbeats 4000000 in
theorem huff_Table_Write.calls (a0 : Option Addr) (a1 : Option Addr) (a2 : Int) (w0 : World) (Q : Bool → Hp → Prop) (h : huff_Table_Write.s a0 a1 a2 w0.heap Q) :
    Ca Try.prog 18 #[.pointer a0, .pointer a1, .int .u8 a2] w0 (Rt huff_Table_Write.enc Q w0) := by
  refine ca_start (c := _) Try.func18 rfl Try.ntmps18 rfl ?_
  have so : Sm w0 w0 := Sm.refl w0
  unfold huff_Table_Write.s at h
  refine wc_prune [(0, .pointer a0), (1, .pointer a1), (2, .int .u8 a2)] ⟨rfl, rfl, rfl, trivial⟩ (fun f1 => ?_)
  refine wc_seq ?_
  refine wc_region ?_
  refine wl_val (at_assign rfl) rfl ?_
  refine wl_nil ?_
  refine wk_prune [(0, .pointer a0), (1, .pointer a1), (2, .int .u8 a2)] ⟨rfl, rfl, rfl, trivial⟩ (fun f1 => ?_)
  refine wk_then ?_
  refine wc_seq ?_
  refine wc_seq ?_
  refine wc_join (w0 := w0) (fun (s2 : Bool) => [(0, .pointer a0), (1, .pointer a1), (2, .int .u8 a2), (17, .bool s2)]) h ?_ ?_
  · rintro s2 w3 f1 h so; refine wk_then ?_
    refine wc_cond rfl h (fun h => ?_) (fun h => ?_)
    · refine wc_seq ?_
      refine wc_region ?_
      refine wl_val (at_assign rfl) rfl ?_
      refine wl_nil ?_
      refine wk_prune [(6, .bool false)] ⟨rfl, trivial⟩ (fun f1 => ?_)
      refine wk_then ?_
      refine wc_ret ?_
      refine wk_thenR ?_
      exact wk_ret1 (x := false) rfl (by decide) rfl so h
    · refine wc_skip ?_
      refine wk_prune [(0, .pointer a0), (1, .pointer a1), (2, .int .u8 a2)] ⟨rfl, rfl, rfl, trivial⟩ (fun f1 => ?_)
      refine wk_then ?_
      refine wc_seq ?_
      refine wc_wo [0, 0, 0, 2, 10, 30, 62, 126, 0, 0, 256, 1280, 3840, 7936, 16128, 32767, 65535] mixed (by kernel_rfl) so ?_; intro w4 hw so; rw [← hw] at h; clear hw
      refine wo_pure (m' := 1) 0 rfl (by kernel_rfl) rfl rfl (fun H => at_move rfl) ?_
      refine wo_pure (m' := 3) 1 rfl (by kernel_rfl) rfl rfl (fun H => at_move rfl) ?_
      refine wo_pure (m' := 7) 2 rfl (by kernel_rfl) rfl rfl (fun H => at_move rfl) ?_
      obtain ⟨p5, q6, h⟩ := h
      refine wo_pure (m' := 15) 3 rfl (by kernel_rfl) rfl rfl (fun H => at_nilCheck (congrArg Value.pointer q6)) ?_
      refine wo_pure (m' := 31) 4 rfl (by kernel_rfl) rfl rfl (fun H => at_fieldAddr Try.underlying114 rfl rfl sz110 (by decide) rfl) ?_
      obtain ⟨q7, q8, h⟩ := h
      refine wo_pure (m' := 63) 5 rfl (by kernel_rfl) rfl rfl (fun H => at_ixAddrA Try.underlying110 sz64 rfl rfl q7 q8) ?_
      refine wo_pure (m' := 319) 8 rfl (by kernel_rfl) rfl rfl (fun H => at_move rfl) ?_
      refine wo_pure (m' := 831) 9 rfl (by kernel_rfl) rfl rfl (fun H => at_move rfl) ?_
      refine wo_pure (m' := 1855) 10 rfl (by kernel_rfl) rfl rfl (fun H => at_nilCheck (congrArg Value.pointer q6)) ?_
      refine wo_pure (m' := 3903) 11 rfl (by kernel_rfl) rfl rfl (fun H => at_fieldAddr Try.underlying114 rfl rfl sz111 (by decide) rfl) ?_
      obtain ⟨q9, q10, h⟩ := h
      refine wo_pure (m' := 7999) 12 rfl (by kernel_rfl) rfl rfl (fun H => at_ixAddrA Try.underlying111 sz5 rfl rfl q9 q10) ?_
      obtain ⟨x11, q12, h⟩ := h
      refine wo_load (m' := 8063) 6 (fun H => cellAt H ((p5.add 0).add (Int.toNat a2 * 1)) = some (.int .u16 x11)) rfl (by kernel_rfl) rfl rfl (fun H q12 => at_load Try.underlying64 rfl rfl q12) q12 ?_
      refine wo_pure (m' := 8191) 7 rfl (by kernel_rfl) rfl rfl (fun H => at_conv Try.underlying64 Try.underlying3 rfl) ?_
      obtain ⟨x13, q14, h⟩ := h
      refine wo_load (m' := 16383) 13 (fun H => cellAt H ((p5.add 256).add (Int.toNat a2 * 1)) = some (.int .u8 x13)) rfl (by kernel_rfl) rfl rfl (fun H q14 => at_load Try.underlying5 rfl rfl q14) q14 ?_
      refine wo_pure (m' := 32767) 14 rfl (by kernel_rfl) rfl rfl (fun H => at_conv Try.underlying5 Try.underlying3 rfl) ?_
      refine wo_take (m' := 65535) 15 [true, true] rfl (by kernel_rfl) rfl (by kernel_rfl) ?_
      refine wl_callF (bits_Sink_Put.calls _ _ _ _ _ h) enter19 rfl trivial so ?_; intro x15 w16 h so
      refine wl_nil ?_
      refine wk_tq trivial ?_
      refine wo_pure (m' := 131071) 16 rfl (by kernel_rfl) rfl rfl (fun H => at_assign rfl) ?_
      refine wo_done (by kernel_rfl) ?_
      refine wk_prune [(6, .bool x15)] ⟨rfl, trivial⟩ (fun f1 => ?_)
      refine wk_then ?_
      refine wc_ret ?_
      exact wk_ret1 (x := x15) rfl (by decide) rfl so h
  · intro J1 h hJ1
    refine wc_region ?_
    refine wl_val (at_move rfl) rfl ?_
    refine wl_val (at_eqlP Try.underlying61 rfl rfl) rfl ?_
    refine wl_val (at_move rfl) rfl ?_
    refine bif_ h (fun hb h => ?_) (fun hb h => ?_)
    · refine wl_set (t := 9) (v := .bool true) (congrArg Value.bool hb) ?_; clear hb
      refine wl_off (t := 9) rfl (by decide) rfl ?_
      refine wl_off (t := 9) rfl (by decide) rfl ?_
      refine wl_off (t := 9) rfl (by decide) rfl ?_
      refine wl_off (t := 9) rfl (by decide) rfl ?_
      refine wl_off (t := 9) rfl (by decide) rfl ?_
      refine wl_off (t := 9) rfl (by decide) rfl ?_
      refine wl_off (t := 9) rfl (by decide) rfl ?_
      refine wl_val (at_pick_t rfl rfl) rfl ?_
      refine wl_nil ?_
      exact wk_prune [(0, .pointer a0), (1, .pointer a1), (2, .int .u8 a2), (17, .bool true)] ⟨rfl, rfl, rfl, rfl, trivial⟩ (fun f1 => hJ1 (true) _ f1 h so)
    · refine wl_set (t := 9) (v := .bool false) (congrArg Value.bool hb) ?_; clear hb
      refine wl_on (t := 9) rfl (by decide) rfl ?_
      refine wl_val (at_move rfl) rfl ?_
      refine wl_on (t := 9) rfl (by decide) rfl ?_
      refine wl_val (at_move rfl) rfl ?_
      refine wl_on (t := 9) rfl (by decide) rfl ?_
      obtain ⟨p17, q18, h⟩ := h
      refine wl_val (at_nilCheck (congrArg Value.pointer q18)) rfl ?_
      refine wl_on (t := 9) rfl (by decide) rfl ?_
      refine wl_val (at_fieldAddr Try.underlying114 rfl rfl sz111 (by decide) rfl) rfl ?_
      refine wl_on (t := 9) rfl (by decide) rfl ?_
      obtain ⟨q19, q20, h⟩ := h
      refine wl_val (at_ixAddrA Try.underlying111 sz5 rfl rfl q19 q20) rfl ?_
      refine wl_on (t := 9) rfl (by decide) rfl ?_
      obtain ⟨x21, q22, h⟩ := h
      refine wl_val (at_load Try.underlying5 rfl rfl q22) rfl ?_
      refine wl_on (t := 9) rfl (by decide) rfl ?_
      refine wl_val (at_eql rfl rfl) rfl ?_
      refine wl_val (at_pick_f rfl rfl) rfl ?_
      refine wl_nil ?_
      exact wk_prune [(0, .pointer a0), (1, .pointer a1), (2, .int .u8 a2), (17, .bool (x21 == 0))] ⟨rfl, rfl, rfl, rfl, trivial⟩ (fun f1 => hJ1 ((x21 == 0)) _ f1 h so)
def huff_Table_Code.enc : Int × Int → Value := fun r => .tuple #[.int .u16 r.1, .int .i64 r.2]
def huff_Table_Code.s (a0 : Option Addr) (a1 : Int) (H0 : Hp) (Q : (Int × Int) → Hp → Prop) : Prop :=
  someA a0 (fun p1 => 0 ≤ a1 ∧ a1 < (256 : Int) ∧ (ldI .u16 H0 ((p1.add 0).add (Int.toNat a1 * 1)) (fun x5 => 0 ≤ a1 ∧ a1 < (256 : Int) ∧ (ldI .u8 H0 ((p1.add 256).add (Int.toNat a1 * 1)) (fun x9 => Q (x5, (IntKind.wrap .i64 x9)) H0)))))
set_option maxRecDepth 20000 in
set_option maxHeartbeats 4000000 in
theorem huff_Table_Code.calls (a0 : Option Addr) (a1 : Int) (w0 : World) (Q : (Int × Int) → Hp → Prop) (h : huff_Table_Code.s a0 a1 w0.heap Q) :
    Ca Try.prog 24 #[.pointer a0, .int .u8 a1] w0 (Rt huff_Table_Code.enc Q w0) := by
  refine ca_start (c := _) Try.func24 rfl Try.ntmps24 rfl ?_
  have so : Sm w0 w0 := Sm.refl w0
  unfold huff_Table_Code.s at h
  refine wc_prune [(0, .pointer a0), (1, .int .u8 a1)] ⟨rfl, rfl, trivial⟩ (fun f1 => ?_)
  refine wc_seq ?_
  refine wc_region ?_
  refine wl_val (at_assign rfl) rfl ?_
  refine wl_val (at_assign rfl) rfl ?_
  refine wl_nil ?_
  refine wk_prune [(0, .pointer a0), (1, .int .u8 a1)] ⟨rfl, rfl, trivial⟩ (fun f1 => ?_)
  refine wk_then ?_
  refine wc_seq ?_
  refine wc_draw mixed (by kernel_rfl) so ?_
  refine wq_val (at_move rfl) rfl ?_
  refine wq_val (at_move rfl) rfl ?_
  obtain ⟨p1, q2, h⟩ := h
  refine wq_val (at_nilCheck (congrArg Value.pointer q2)) rfl ?_
  refine wq_val (at_fieldAddr Try.underlying114 rfl rfl sz110 (by decide) rfl) rfl ?_
  obtain ⟨q3, q4, h⟩ := h
  refine wq_val (at_ixAddrA Try.underlying110 sz64 rfl rfl q3 q4) rfl ?_
  obtain ⟨x5, q6, h⟩ := h
  refine wq_val (at_load Try.underlying64 rfl rfl q6) rfl ?_
  refine wq_val (at_move rfl) rfl ?_
  refine wq_val (at_move rfl) rfl ?_
  refine wq_val (at_nilCheck (congrArg Value.pointer q2)) rfl ?_
  refine wq_val (at_fieldAddr Try.underlying114 rfl rfl sz111 (by decide) rfl) rfl ?_
  obtain ⟨q7, q8, h⟩ := h
  refine wq_val (at_ixAddrA Try.underlying111 sz5 rfl rfl q7 q8) rfl ?_
  obtain ⟨x9, q10, h⟩ := h
  refine wq_val (at_load Try.underlying5 rfl rfl q10) rfl ?_
  refine wq_val (at_conv Try.underlying5 Try.underlying3 rfl) rfl ?_
  refine wq_val (at_assign rfl) rfl ?_
  refine wq_val (at_assign rfl) rfl ?_
  refine wq_nil ?_; intro w11 hw so; rw [← hw] at h; clear hw
  refine wk_prune [(4, .int .u16 x5), (5, .int .i64 (IntKind.wrap .i64 x9))] ⟨rfl, rfl, trivial⟩ (fun f1 => ?_)
  refine wk_then ?_
  refine wc_ret ?_
  exact wk_ret2 (x := (x5, (IntKind.wrap .i64 x9))) rfl (by decide) (by decide) rfl so h
def huff_Table_begins.enc : Bool → Value := fun r => .bool r
def huff_Table_Read.enc : Int × Int → Value := fun r => .tuple #[.int .u8 r.1, .int .i64 r.2]
end Go.Proofs.Ytmnoecpnoofdjaa.G
