import Derived.Test.YtlfdfikgbdgfdaaGF
namespace Go.Proofs.Ytlfdfikgbdgfdaa.G
open Go.RowKit
set_option linter.unusedVariables false
set_option linter.unusedSimpArgs false
/-- mosaic/mosaicref14.greatest -/
def mosaicref14_greatest.enc : Int × Int → Value := fun r => .tuple #[.int .i64 r.1, .int .i64 r.2]
def mosaicref14_greatest.s (a0_0 : Int) (a0_1 : Int) (a0_2 : Int) (a0_3 : Sl) (H0 : Hp) (Q : (Int × Int) → Hp → Prop) : Prop :=
  Gn [] H0 (fun (b1 : Nat) (H2 : Hp) => ∃ k3, Fix (fun (rec8 : (Int × Int × Int) → Hp → Prop) (s5 : Int × Int × Int) (H6 : Hp) => if decide (s5.2.2 < (a0_3.n : Int)) = true then (Join (fun (s10 : Int × Int) (H11 : Hp) => rec8 (s10.1, s10.2, (IntKind.wrap .i64 (s5.2.2 + 1))) H11) (fun (J9 : (Int × Int) → Hp → Prop) => Join (fun (s13 : Int) (H14 : Hp) => 0 ≤ s5.2.2 ∧ s5.2.2 < (a0_3.n : Int) ∧ someA a0_3.a (fun p17 => ldI .u8 H14 ((p17.add (Int.toNat s5.2.2 * 4)).add 2) (fun x19 => if decide (s5.2.1 < (IntKind.wrap .i64 x19)) = true then (0 ≤ s5.2.2 ∧ s5.2.2 < (a0_3.n : Int) ∧ (ldI .u8 H14 ((p17.add (Int.toNat s5.2.2 * 4)).add 2) (fun x23 => J9 (s13, (IntKind.wrap .i64 x23)) H14))) else (J9 (s13, s5.2.1) H14)))) (fun (J12 : Int → Hp → Prop) => 0 ≤ s5.2.2 ∧ s5.2.2 < (a0_3.n : Int) ∧ someA a0_3.a (fun p27 => ldI .u8 H6 ((p27.add (Int.toNat s5.2.2 * 4)).add 1) (fun x29 => if decide (s5.1 < (IntKind.wrap .i64 x29)) = true then (0 ≤ s5.2.2 ∧ s5.2.2 < (a0_3.n : Int) ∧ (ldI .u8 H6 ((p27.add (Int.toNat s5.2.2 * 4)).add 1) (fun x33 => J12 ((IntKind.wrap .i64 x33)) H6))) else (J12 (s5.1) H6)))))) else (Q (s5.1, s5.2.1) H6)) k3 (0, 0, 0) H2)
set_option maxRecDepth 20000 in
set_option maxHeartbeats 4000000 in
theorem mosaicref14_greatest.calls (a0_0 : Int) (a0_1 : Int) (a0_2 : Int) (a0_3 : Sl) (w0 : World) (Q : (Int × Int) → Hp → Prop) (h : mosaicref14_greatest.s a0_0 a0_1 a0_2 a0_3 w0.heap Q) :
    Ca Try.prog 42 #[.agg (c24 a0_0 a0_1 a0_2 a0_3).toArray] w0 (Rt mosaicref14_greatest.enc Q w0) := by
  refine ca_start (c := _) Try.func42 rfl Try.ntmps42 rfl ?_
  have so : Sm w0 w0 := Sm.refl w0
  unfold mosaicref14_greatest.s at h
  refine wc_prune [(0, .agg (c24 a0_0 a0_1 a0_2 a0_3).toArray)] ⟨rfl, trivial⟩ (fun f1 => ?_)
  refine wc_seq ?_
  refine wc_region ?_
  refine wl_newT (T := 24) (cs := (c24 a0_0 a0_1 a0_2 a0_3)) (ef_box rfl rfl) rfl so ?_; intro b1 w2 hb_b1 t_b1 k_b1 so
  have g_b1 := Nat.le_of_eq hb_b1.symm
  have hc := k_b1.ch (F := [])
  refine wl_val (at_assign rfl) rfl ?_
  refine wl_val (at_assign rfl) rfl ?_
  refine wl_nil ?_
  refine wk_prune [(1, .pointer (some (⟨b1, 0, none⟩ : Addr)))] ⟨rfl, trivial⟩ (fun f1 => ?_)
  refine wk_then ?_
  refine wc_seq ?_
  refine wc_region ?_
  refine wl_val (at_assign rfl) rfl ?_
  refine wl_nil ?_
  refine wk_prune [(1, .pointer (some (⟨b1, 0, none⟩ : Addr))), (4, .int .i64 0)] ⟨rfl, rfl, trivial⟩ (fun f1 => ?_)
  refine wk_then ?_
  refine wc_seq ?_
  refine wc_region ?_
  refine wl_val (at_assign rfl) rfl ?_
  refine wl_nil ?_
  refine wk_prune [(1, .pointer (some (⟨b1, 0, none⟩ : Addr))), (4, .int .i64 0), (5, .int .i64 0)] ⟨rfl, rfl, rfl, trivial⟩ (fun f1 => ?_)
  refine wk_then ?_
  refine wc_seq ?_
  refine wc_seq ?_
  refine wc_region ?_
  refine wl_val (at_assign rfl) rfl ?_
  refine wl_nil ?_
  refine wk_prune [(1, .pointer (some (⟨b1, 0, none⟩ : Addr))), (4, .int .i64 0), (5, .int .i64 0), (6, .int .i64 0)] ⟨rfl, rfl, rfl, rfl, trivial⟩ (fun f1 => ?_)
  refine wk_then ?_
  refine wc_block ?_
  replace h := h b1 _ hc g_b1 t_b1.lt; clear hc
  obtain ⟨k3, h⟩ := h
  refine wc_loop (fun k a w => ∃ (s5 : Int × Int × Int) (f1 : Nat → Value), a = ac 48 (en f1 [(1, .pointer (some (⟨b1, 0, none⟩ : Addr))), (4, .int .i64 s5.1), (5, .int .i64 s5.2.1), (6, .int .i64 s5.2.2)]) [] ∧ Sm w0 w ∧ (Bk w.heap b1 24 (c24 a0_0 a0_1 a0_2 a0_3) ∧ True) ∧ Fix _ k s5 w.heap) k3 ⟨(0, 0, 0), _, ac_again ⟨rfl, rfl, rfl, rfl, trivial⟩, so, ⟨t_b1, trivial⟩, h⟩ ?_
  rintro k4 a7 w6 ⟨s5, f1, rfl, so, ⟨t_b1, _⟩, h⟩
  rcases k4 with _ | k4
  · exact h.elim
  replace h := Fix.un h; refine wc_in ?_
  refine wc_seq ?_
  refine wc_seq ?_
  refine wc_region ?_
  refine wl_val (at_move rfl) rfl ?_
  refine wl_val (at_fieldAddr Try.underlying24 rfl rfl sz22 (by decide) rfl) rfl ?_
  refine wl_val (at_load (v := .slice a0_3.a a0_3.n a0_3.c) Try.underlying22 rfl rfl ((t_b1.cell 3).trans (by first | rfl | simp [List.getElem?_append, ints_len, bools_len]))) rfl ?_
  refine wl_val (at_lenL Try.underlying22 rfl) rfl ?_
  refine wl_val (at_lss rfl rfl) rfl ?_
  refine wl_nil ?_
  refine wk_prune [(1, .pointer (some (⟨b1, 0, none⟩ : Addr))), (4, .int .i64 s5.1), (5, .int .i64 s5.2.1), (6, .int .i64 s5.2.2), (11, .bool (decide (s5.2.2 < (a0_3.n : Int))))] ⟨rfl, rfl, rfl, rfl, rfl, trivial⟩ (fun f1 => ?_)
  refine wk_then ?_
  refine wc_cond rfl h (fun h => ?_) (fun h => ?_)
  · refine wc_skip ?_
    refine wk_prune [(1, .pointer (some (⟨b1, 0, none⟩ : Addr))), (4, .int .i64 s5.1), (5, .int .i64 s5.2.1), (6, .int .i64 s5.2.2)] ⟨rfl, rfl, rfl, rfl, trivial⟩ (fun f1 => ?_)
    refine wk_then ?_
    refine wc_seq ?_
    refine wc_joinG (w0 := w0) (fun (H : Hp) => Bk H b1 24 (c24 a0_0 a0_1 a0_2 a0_3) ∧ True) (fun (s10 : Int × Int) => [(1, .pointer (some (⟨b1, 0, none⟩ : Addr))), (4, .int .i64 s10.1), (5, .int .i64 s10.2), (6, .int .i64 s5.2.2)]) (fun (s10 : Int × Int) => []) h ?_ ?_
    · rintro s10 w11 f1 h ⟨t_b1, _⟩ so; refine wk_then ?_
      refine wc_region ?_
      refine wl_val (at_move rfl) rfl ?_
      refine wl_val (at_add rfl rfl) rfl ?_
      refine wl_val (at_assign rfl) rfl ?_
      refine wl_nil ?_
      exact wk_again ⟨(s10.1, s10.2, (IntKind.wrap .i64 (s5.2.2 + 1))), _, ac_again ⟨rfl, rfl, rfl, rfl, trivial⟩, so, ⟨t_b1, trivial⟩, h⟩
    · intro J9 h hJ9
      refine wc_block ?_
      refine wc_seq ?_
      refine wc_joinG (w0 := w0) (fun (H : Hp) => Bk H b1 24 (c24 a0_0 a0_1 a0_2 a0_3) ∧ True) (fun (s13 : Int) => [(1, .pointer (some (⟨b1, 0, none⟩ : Addr))), (4, .int .i64 s13), (5, .int .i64 s5.2.1), (6, .int .i64 s5.2.2)]) (fun (s13 : Int) => []) h ?_ ?_
      · rintro s13 w14 f1 h ⟨t_b1, _⟩ so; refine wk_then ?_
        refine wc_seq ?_
        refine wc_region ?_
        refine wl_val (at_fieldAddr Try.underlying24 rfl rfl sz22 (by decide) rfl) rfl ?_
        refine wl_val (at_load (v := .slice a0_3.a a0_3.n a0_3.c) Try.underlying22 rfl rfl ((t_b1.cell 3).trans (by first | rfl | simp [List.getElem?_append, ints_len, bools_len]))) rfl ?_
        refine wl_val (at_move rfl) rfl ?_
        obtain ⟨q15, q16, p17, q18, h⟩ := h
        refine wl_val (at_ixAddrL Try.underlying22 sz98 (sl_some q18) rfl q15 q16) rfl ?_
        refine wl_val (at_fieldAddr Try.underlying98 rfl rfl sz5 (by decide) rfl) rfl ?_
        obtain ⟨x19, q20, h⟩ := h
        refine wl_val (at_load Try.underlying5 rfl rfl q20) rfl ?_
        refine wl_val (at_conv Try.underlying5 Try.underlying3 rfl) rfl ?_
        refine wl_val (at_move rfl) rfl ?_
        refine wl_val (at_gtr rfl rfl) rfl ?_
        refine wl_nil ?_
        refine wk_prune [(1, .pointer (some (⟨b1, 0, none⟩ : Addr))), (4, .int .i64 s13), (5, .int .i64 s5.2.1), (6, .int .i64 s5.2.2), (38, .bool (decide (s5.2.1 < (IntKind.wrap .i64 x19))))] ⟨rfl, rfl, rfl, rfl, rfl, trivial⟩ (fun f1 => ?_)
        refine wk_then ?_
        refine wc_cond rfl h (fun h => ?_) (fun h => ?_)
        · refine wc_region ?_
          refine wl_val (at_fieldAddr Try.underlying24 rfl rfl sz22 (by decide) rfl) rfl ?_
          refine wl_val (at_load (v := .slice a0_3.a a0_3.n a0_3.c) Try.underlying22 rfl rfl ((t_b1.cell 3).trans (by first | rfl | simp [List.getElem?_append, ints_len, bools_len]))) rfl ?_
          refine wl_val (at_move rfl) rfl ?_
          obtain ⟨q21, q22, h⟩ := h
          refine wl_val (at_ixAddrL Try.underlying22 sz98 (sl_some q18) rfl q21 q22) rfl ?_
          refine wl_val (at_fieldAddr Try.underlying98 rfl rfl sz5 (by decide) rfl) rfl ?_
          obtain ⟨x23, q24, h⟩ := h
          refine wl_val (at_load Try.underlying5 rfl rfl q24) rfl ?_
          refine wl_val (at_conv Try.underlying5 Try.underlying3 rfl) rfl ?_
          refine wl_val (at_assign rfl) rfl ?_
          refine wl_nil ?_
          refine wk_blkN ?_
          exact wk_prune [(1, .pointer (some (⟨b1, 0, none⟩ : Addr))), (4, .int .i64 s13), (5, .int .i64 (IntKind.wrap .i64 x23)), (6, .int .i64 s5.2.2)] ⟨rfl, rfl, rfl, rfl, trivial⟩ (fun f1 => hJ9 (s13, (IntKind.wrap .i64 x23)) _ f1 h ⟨t_b1, trivial⟩ so)
        · refine wc_skip ?_
          refine wk_blkN ?_
          exact wk_prune [(1, .pointer (some (⟨b1, 0, none⟩ : Addr))), (4, .int .i64 s13), (5, .int .i64 s5.2.1), (6, .int .i64 s5.2.2)] ⟨rfl, rfl, rfl, rfl, trivial⟩ (fun f1 => hJ9 (s13, s5.2.1) _ f1 h ⟨t_b1, trivial⟩ so)
      · intro J12 h hJ12
        refine wc_seq ?_
        refine wc_region ?_
        refine wl_val (at_fieldAddr Try.underlying24 rfl rfl sz22 (by decide) rfl) rfl ?_
        refine wl_val (at_load (v := .slice a0_3.a a0_3.n a0_3.c) Try.underlying22 rfl rfl ((t_b1.cell 3).trans (by first | rfl | simp [List.getElem?_append, ints_len, bools_len]))) rfl ?_
        refine wl_val (at_move rfl) rfl ?_
        obtain ⟨q25, q26, p27, q28, h⟩ := h
        refine wl_val (at_ixAddrL Try.underlying22 sz98 (sl_some q28) rfl q25 q26) rfl ?_
        refine wl_val (at_fieldAddr Try.underlying98 rfl rfl sz5 (by decide) rfl) rfl ?_
        obtain ⟨x29, q30, h⟩ := h
        refine wl_val (at_load Try.underlying5 rfl rfl q30) rfl ?_
        refine wl_val (at_conv Try.underlying5 Try.underlying3 rfl) rfl ?_
        refine wl_val (at_move rfl) rfl ?_
        refine wl_val (at_gtr rfl rfl) rfl ?_
        refine wl_nil ?_
        refine wk_prune [(1, .pointer (some (⟨b1, 0, none⟩ : Addr))), (4, .int .i64 s5.1), (5, .int .i64 s5.2.1), (6, .int .i64 s5.2.2), (22, .bool (decide (s5.1 < (IntKind.wrap .i64 x29))))] ⟨rfl, rfl, rfl, rfl, rfl, trivial⟩ (fun f1 => ?_)
        refine wk_then ?_
        refine wc_cond rfl h (fun h => ?_) (fun h => ?_)
        · refine wc_region ?_
          refine wl_val (at_fieldAddr Try.underlying24 rfl rfl sz22 (by decide) rfl) rfl ?_
          refine wl_val (at_load (v := .slice a0_3.a a0_3.n a0_3.c) Try.underlying22 rfl rfl ((t_b1.cell 3).trans (by first | rfl | simp [List.getElem?_append, ints_len, bools_len]))) rfl ?_
          refine wl_val (at_move rfl) rfl ?_
          obtain ⟨q31, q32, h⟩ := h
          refine wl_val (at_ixAddrL Try.underlying22 sz98 (sl_some q28) rfl q31 q32) rfl ?_
          refine wl_val (at_fieldAddr Try.underlying98 rfl rfl sz5 (by decide) rfl) rfl ?_
          obtain ⟨x33, q34, h⟩ := h
          refine wl_val (at_load Try.underlying5 rfl rfl q34) rfl ?_
          refine wl_val (at_conv Try.underlying5 Try.underlying3 rfl) rfl ?_
          refine wl_val (at_assign rfl) rfl ?_
          refine wl_nil ?_
          exact wk_prune [(1, .pointer (some (⟨b1, 0, none⟩ : Addr))), (4, .int .i64 (IntKind.wrap .i64 x33)), (5, .int .i64 s5.2.1), (6, .int .i64 s5.2.2)] ⟨rfl, rfl, rfl, rfl, trivial⟩ (fun f1 => hJ12 ((IntKind.wrap .i64 x33)) _ f1 h ⟨t_b1, trivial⟩ so)
        · refine wc_skip ?_
          exact wk_prune [(1, .pointer (some (⟨b1, 0, none⟩ : Addr))), (4, .int .i64 s5.1), (5, .int .i64 s5.2.1), (6, .int .i64 s5.2.2)] ⟨rfl, rfl, rfl, rfl, trivial⟩ (fun f1 => hJ12 (s5.1) _ f1 h ⟨t_b1, trivial⟩ so)
  · refine wc_exit ?_
    refine wk_thenE ?_
    refine wk_thenE ?_
    refine wk_blkE ?_
    refine wk_prune [(4, .int .i64 s5.1), (5, .int .i64 s5.2.1)] ⟨rfl, rfl, trivial⟩ (fun f1 => ?_)
    refine wk_then ?_
    refine wc_seq ?_
    refine wc_region ?_
    refine wl_val (at_move rfl) rfl ?_
    refine wl_val (at_move rfl) rfl ?_
    refine wl_val (at_assign rfl) rfl ?_
    refine wl_val (at_assign rfl) rfl ?_
    refine wl_nil ?_
    refine wk_prune [(2, .int .i64 s5.1), (3, .int .i64 s5.2.1)] ⟨rfl, rfl, trivial⟩ (fun f1 => ?_)
    refine wk_then ?_
    refine wc_ret ?_
    exact wk_ret2 (x := (s5.1, s5.2.1)) rfl (by decide) (by decide) rfl so h

/-- mosaic/mosaicref14.ids -/
def mosaicref14_ids.enc : Bool → Value := fun r => .bool r
def mosaicref14_ids.s (a0_0 : Int) (a0_1 : Int) (a0_2 : Int) (a0_3 : Sl) (H0 : Hp) (Q : Bool → Hp → Prop) : Prop :=
  Gn [] H0 (fun (b1 : Nat) (H2 : Hp) => ∃ k3, Fix (fun (rec8 : Int → Hp → Prop) (s5 : Int) (H6 : Hp) => if decide (s5 < (a0_3.n : Int)) = true then (0 ≤ s5 ∧ s5 < (a0_3.n : Int) ∧ someA a0_3.a (fun p11 => ldI .u8 H6 ((p11.add (Int.toNat s5 * 4)).add 3) (fun x13 => if decide ((3 : Int) < x13) = true then (Q true H6) else (∃ k15, Fix (fun (rec20 : Int → Hp → Prop) (s17 : Int) (H18 : Hp) => if decide (s17 < s5) = true then (0 ≤ s17 ∧ s17 < (a0_3.n : Int) ∧ (ldI .u8 H18 ((p11.add (Int.toNat s17 * 4)).add 0) (fun x23 => 0 ≤ s5 ∧ s5 < (a0_3.n : Int) ∧ (ldI .u8 H18 ((p11.add (Int.toNat s5 * 4)).add 0) (fun x27 => if (x23 == x27) = true then (Q true H18) else (rec20 ((IntKind.wrap .i64 (s17 + 1))) H18)))))) else (rec8 ((IntKind.wrap .i64 (s5 + 1))) H18)) k15 (0) H6)))) else (Q false H6)) k3 (0) H2)
set_option maxRecDepth 20000 in
set_option maxHeartbeats 4000000 in
theorem mosaicref14_ids.calls (a0_0 : Int) (a0_1 : Int) (a0_2 : Int) (a0_3 : Sl) (w0 : World) (Q : Bool → Hp → Prop) (h : mosaicref14_ids.s a0_0 a0_1 a0_2 a0_3 w0.heap Q) :
    Ca Try.prog 66 #[.agg (c24 a0_0 a0_1 a0_2 a0_3).toArray] w0 (Rt mosaicref14_ids.enc Q w0) := by
  refine ca_start (c := _) Try.func66 rfl Try.ntmps66 rfl ?_
  have so : Sm w0 w0 := Sm.refl w0
  unfold mosaicref14_ids.s at h
  refine wc_prune [(0, .agg (c24 a0_0 a0_1 a0_2 a0_3).toArray)] ⟨rfl, trivial⟩ (fun f1 => ?_)
  refine wc_seq ?_
  refine wc_region ?_
  refine wl_newT (T := 24) (cs := (c24 a0_0 a0_1 a0_2 a0_3)) (ef_box rfl rfl) rfl so ?_; intro b1 w2 hb_b1 t_b1 k_b1 so
  have g_b1 := Nat.le_of_eq hb_b1.symm
  have hc := k_b1.ch (F := [])
  refine wl_val (at_assign rfl) rfl ?_
  refine wl_nil ?_
  refine wk_prune [(1, .pointer (some (⟨b1, 0, none⟩ : Addr)))] ⟨rfl, trivial⟩ (fun f1 => ?_)
  refine wk_then ?_
  refine wc_seq ?_
  refine wc_seq ?_
  refine wc_region ?_
  refine wl_val (at_assign rfl) rfl ?_
  refine wl_nil ?_
  refine wk_prune [(1, .pointer (some (⟨b1, 0, none⟩ : Addr))), (3, .int .i64 0)] ⟨rfl, rfl, trivial⟩ (fun f1 => ?_)
  refine wk_then ?_
  refine wc_block ?_
  replace h := h b1 _ hc g_b1 t_b1.lt; clear hc
  obtain ⟨k3, h⟩ := h
  refine wc_loop (fun k a w => ∃ (s5 : Int) (f1 : Nat → Value), a = ac 37 (en f1 [(1, .pointer (some (⟨b1, 0, none⟩ : Addr))), (3, .int .i64 s5)]) [] ∧ Sm w0 w ∧ (Bk w.heap b1 24 (c24 a0_0 a0_1 a0_2 a0_3) ∧ True) ∧ Fix _ k s5 w.heap) k3 ⟨(0), _, ac_again ⟨rfl, rfl, trivial⟩, so, ⟨t_b1, trivial⟩, h⟩ ?_
  rintro k4 a7 w6 ⟨s5, f1, rfl, so, ⟨t_b1, _⟩, h⟩
  rcases k4 with _ | k4
  · exact h.elim
  replace h := Fix.un h; refine wc_in ?_
  refine wc_seq ?_
  refine wc_seq ?_
  refine wc_region ?_
  refine wl_val (at_move rfl) rfl ?_
  refine wl_val (at_fieldAddr Try.underlying24 rfl rfl sz22 (by decide) rfl) rfl ?_
  refine wl_val (at_load (v := .slice a0_3.a a0_3.n a0_3.c) Try.underlying22 rfl rfl ((t_b1.cell 3).trans (by first | rfl | simp [List.getElem?_append, ints_len, bools_len]))) rfl ?_
  refine wl_val (at_lenL Try.underlying22 rfl) rfl ?_
  refine wl_val (at_lss rfl rfl) rfl ?_
  refine wl_nil ?_
  refine wk_prune [(1, .pointer (some (⟨b1, 0, none⟩ : Addr))), (3, .int .i64 s5), (9, .bool (decide (s5 < (a0_3.n : Int))))] ⟨rfl, rfl, rfl, trivial⟩ (fun f1 => ?_)
  refine wk_then ?_
  refine wc_cond rfl h (fun h => ?_) (fun h => ?_)
  · refine wc_skip ?_
    refine wk_prune [(1, .pointer (some (⟨b1, 0, none⟩ : Addr))), (3, .int .i64 s5)] ⟨rfl, rfl, trivial⟩ (fun f1 => ?_)
    refine wk_then ?_
    refine wc_seq ?_
    refine wc_block ?_
    refine wc_seq ?_
    refine wc_seq ?_
    refine wc_region ?_
    refine wl_val (at_fieldAddr Try.underlying24 rfl rfl sz22 (by decide) rfl) rfl ?_
    refine wl_val (at_load (v := .slice a0_3.a a0_3.n a0_3.c) Try.underlying22 rfl rfl ((t_b1.cell 3).trans (by first | rfl | simp [List.getElem?_append, ints_len, bools_len]))) rfl ?_
    refine wl_val (at_move rfl) rfl ?_
    obtain ⟨q9, q10, p11, q12, h⟩ := h
    refine wl_val (at_ixAddrL Try.underlying22 sz98 (sl_some q12) rfl q9 q10) rfl ?_
    refine wl_val (at_fieldAddr Try.underlying98 rfl rfl sz5 (by decide) rfl) rfl ?_
    obtain ⟨x13, q14, h⟩ := h
    refine wl_val (at_load Try.underlying5 rfl rfl q14) rfl ?_
    refine wl_val (at_gtr rfl rfl) rfl ?_
    refine wl_nil ?_
    refine wk_prune [(1, .pointer (some (⟨b1, 0, none⟩ : Addr))), (3, .int .i64 s5), (18, .bool (decide ((3 : Int) < x13)))] ⟨rfl, rfl, rfl, trivial⟩ (fun f1 => ?_)
    refine wk_then ?_
    refine wc_cond rfl h (fun h => ?_) (fun h => ?_)
    · refine wc_seq ?_
      refine wc_region ?_
      refine wl_val (at_assign rfl) rfl ?_
      refine wl_nil ?_
      refine wk_prune [(2, .bool true)] ⟨rfl, trivial⟩ (fun f1 => ?_)
      refine wk_then ?_
      refine wc_ret ?_
      refine wk_thenR ?_
      refine wk_blkR ?_
      refine wk_thenR ?_
      refine wk_thenR ?_
      refine wk_blkR ?_
      refine wk_thenR ?_
      exact wk_ret1 (x := true) rfl (by decide) rfl so h
    · refine wc_skip ?_
      refine wk_prune [(1, .pointer (some (⟨b1, 0, none⟩ : Addr))), (3, .int .i64 s5)] ⟨rfl, rfl, trivial⟩ (fun f1 => ?_)
      refine wk_then ?_
      refine wc_seq ?_
      refine wc_region ?_
      refine wl_val (at_assign rfl) rfl ?_
      refine wl_nil ?_
      refine wk_prune [(1, .pointer (some (⟨b1, 0, none⟩ : Addr))), (3, .int .i64 s5), (4, .int .i64 0)] ⟨rfl, rfl, rfl, trivial⟩ (fun f1 => ?_)
      refine wk_then ?_
      refine wc_block ?_
      obtain ⟨k15, h⟩ := h
      refine wc_loop (fun k a w => ∃ (s17 : Int) (f1 : Nat → Value), a = ac 37 (en f1 [(1, .pointer (some (⟨b1, 0, none⟩ : Addr))), (3, .int .i64 s5), (4, .int .i64 s17)]) [] ∧ Sm w0 w ∧ (Bk w.heap b1 24 (c24 a0_0 a0_1 a0_2 a0_3) ∧ True) ∧ Fix _ k s17 w.heap) k15 ⟨(0), _, ac_again ⟨rfl, rfl, rfl, trivial⟩, so, ⟨t_b1, trivial⟩, h⟩ ?_
      rintro k16 a19 w18 ⟨s17, f1, rfl, so, ⟨t_b1, _⟩, h⟩
      rcases k16 with _ | k16
      · exact h.elim
      replace h := Fix.un h; refine wc_in ?_
      refine wc_seq ?_
      refine wc_seq ?_
      refine wc_region ?_
      refine wl_val (at_move rfl) rfl ?_
      refine wl_val (at_move rfl) rfl ?_
      refine wl_val (at_lss rfl rfl) rfl ?_
      refine wl_nil ?_
      refine wk_prune [(1, .pointer (some (⟨b1, 0, none⟩ : Addr))), (3, .int .i64 s5), (4, .int .i64 s17), (21, .bool (decide (s17 < s5)))] ⟨rfl, rfl, rfl, rfl, trivial⟩ (fun f1 => ?_)
      refine wk_then ?_
      refine wc_cond rfl h (fun h => ?_) (fun h => ?_)
      · refine wc_skip ?_
        refine wk_prune [(1, .pointer (some (⟨b1, 0, none⟩ : Addr))), (3, .int .i64 s5), (4, .int .i64 s17)] ⟨rfl, rfl, rfl, trivial⟩ (fun f1 => ?_)
        refine wk_then ?_
        refine wc_seq ?_
        refine wc_block ?_
        refine wc_seq ?_
        refine wc_draw mixed (by kernel_rfl) so ?_
        refine wq_val (at_fieldAddr Try.underlying24 rfl rfl sz22 (by decide) rfl) rfl ?_
        refine wq_val (at_load (v := .slice a0_3.a a0_3.n a0_3.c) Try.underlying22 rfl rfl ((t_b1.cell 3).trans (by first | rfl | simp [List.getElem?_append, ints_len, bools_len]))) rfl ?_
        refine wq_val (at_move rfl) rfl ?_
        obtain ⟨q21, q22, h⟩ := h
        refine wq_val (at_ixAddrL Try.underlying22 sz98 (sl_some q12) rfl q21 q22) rfl ?_
        refine wq_val (at_fieldAddr Try.underlying98 rfl rfl sz5 (by decide) rfl) rfl ?_
        obtain ⟨x23, q24, h⟩ := h
        refine wq_val (at_load Try.underlying5 rfl rfl q24) rfl ?_
        refine wq_val (at_fieldAddr Try.underlying24 rfl rfl sz22 (by decide) rfl) rfl ?_
        refine wq_val (at_load (v := .slice a0_3.a a0_3.n a0_3.c) Try.underlying22 rfl rfl ((t_b1.cell 3).trans (by first | rfl | simp [List.getElem?_append, ints_len, bools_len]))) rfl ?_
        refine wq_val (at_move rfl) rfl ?_
        obtain ⟨q25, q26, h⟩ := h
        refine wq_val (at_ixAddrL Try.underlying22 sz98 (sl_some q12) rfl q25 q26) rfl ?_
        refine wq_val (at_fieldAddr Try.underlying98 rfl rfl sz5 (by decide) rfl) rfl ?_
        obtain ⟨x27, q28, h⟩ := h
        refine wq_val (at_load Try.underlying5 rfl rfl q28) rfl ?_
        refine wq_val (at_eql rfl rfl) rfl ?_
        refine wq_nil ?_; intro w29 hw so; rw [← hw] at h t_b1; clear hw
        refine wk_prune [(1, .pointer (some (⟨b1, 0, none⟩ : Addr))), (3, .int .i64 s5), (4, .int .i64 s17), (36, .bool (x23 == x27))] ⟨rfl, rfl, rfl, rfl, trivial⟩ (fun f1 => ?_)
        refine wk_then ?_
        refine wc_cond rfl h (fun h => ?_) (fun h => ?_)
        · refine wc_seq ?_
          refine wc_region ?_
          refine wl_val (at_assign rfl) rfl ?_
          refine wl_nil ?_
          refine wk_prune [(2, .bool true)] ⟨rfl, trivial⟩ (fun f1 => ?_)
          refine wk_then ?_
          refine wc_ret ?_
          refine wk_blkR ?_
          refine wk_thenR ?_
          refine wk_thenR ?_
          refine wk_blkR ?_
          refine wk_blkR ?_
          refine wk_thenR ?_
          refine wk_thenR ?_
          refine wk_blkR ?_
          refine wk_thenR ?_
          exact wk_ret1 (x := true) rfl (by decide) rfl so h
        · refine wc_skip ?_
          refine wk_blkN ?_
          refine wk_prune [(1, .pointer (some (⟨b1, 0, none⟩ : Addr))), (3, .int .i64 s5), (4, .int .i64 s17)] ⟨rfl, rfl, rfl, trivial⟩ (fun f1 => ?_)
          refine wk_then ?_
          refine wc_region ?_
          refine wl_val (at_move rfl) rfl ?_
          refine wl_val (at_add rfl rfl) rfl ?_
          refine wl_val (at_assign rfl) rfl ?_
          refine wl_nil ?_
          exact wk_again ⟨((IntKind.wrap .i64 (s17 + 1))), _, ac_again ⟨rfl, rfl, rfl, trivial⟩, so, ⟨t_b1, trivial⟩, h⟩
      · refine wc_exit ?_
        refine wk_thenE ?_
        refine wk_thenE ?_
        refine wk_blkE ?_
        refine wk_blkN ?_
        refine wk_prune [(1, .pointer (some (⟨b1, 0, none⟩ : Addr))), (3, .int .i64 s5)] ⟨rfl, rfl, trivial⟩ (fun f1 => ?_)
        refine wk_then ?_
        refine wc_region ?_
        refine wl_val (at_move rfl) rfl ?_
        refine wl_val (at_add rfl rfl) rfl ?_
        refine wl_val (at_assign rfl) rfl ?_
        refine wl_nil ?_
        exact wk_again ⟨((IntKind.wrap .i64 (s5 + 1))), _, ac_again ⟨rfl, rfl, trivial⟩, so, ⟨t_b1, trivial⟩, h⟩
  · refine wc_exit ?_
    refine wk_thenE ?_
    refine wk_thenE ?_
    refine wk_blkE ?_
    refine wk_prune [] trivial (fun f1 => ?_)
    refine wk_then ?_
    refine wc_seq ?_
    refine wc_region ?_
    refine wl_val (at_assign rfl) rfl ?_
    refine wl_nil ?_
    refine wk_prune [(2, .bool false)] ⟨rfl, trivial⟩ (fun f1 => ?_)
    refine wk_then ?_
    refine wc_ret ?_
    exact wk_ret1 (x := false) rfl (by decide) rfl so h

/-- mosaic/mosaicref14.Check -/
def mosaicref14_Check.enc : Int → Value := fun r => .int .i64 r
def mosaicref14_Check.s (a0_0 : Int) (a0_1 : Int) (a0_2 : Int) (a0_3 : Sl) (H0 : Hp) (Q : Int → Hp → Prop) : Prop :=
  Gn [] H0 (fun (b1 : Nat) (H2 : Hp) => Join (fun (s4 : Bool) (H5 : Hp) => if s4 = true then (Q 140 H5) else (mosaicref14_ids.s a0_0 a0_1 a0_2 a0_3 H5 (fun x6 H7 => Pv [b1] H5 H7 ∧ (Join (fun (s10 : Bool) (H11 : Hp) => if s10 = true then (Q 143 H11) else (mosaicref14_greatest.s a0_0 a0_1 a0_2 a0_3 H11 (fun x12 H13 => Pv [b1] H11 H13 ∧ (∃ k15, Fix (fun (rec20 : (Bool × Int) → Hp → Prop) (s17 : Bool × Int) (H18 : Hp) => if decide (s17.2 < (a0_3.n : Int)) = true then (Join (fun (s22 : Bool) (H23 : Hp) => rec20 (s22, (IntKind.wrap .i64 (s17.2 + 1))) H23) (fun (J21 : Bool → Hp → Prop) => 0 ≤ s17.2 ∧ s17.2 < (a0_3.n : Int) ∧ someA a0_3.a (fun p26 => ldI .u8 H18 ((p26.add (Int.toNat s17.2 * 4)).add 1) (fun x28 => 0 ≤ s17.2 ∧ s17.2 < (a0_3.n : Int) ∧ (ldI .u8 H18 ((p26.add (Int.toNat s17.2 * 4)).add 2) (fun x32 => Join (fun (s35 : Bool) (H36 : Hp) => if s35 = true then (Q 141 H36) else (if s17.1 = true then (J21 (true) H36) else ((IntKind.wrap .i64 x28) ≠ 0 ∧ (if ((Int.tmod x12.1 (IntKind.wrap .i64 x28)) != 0) = true then (J21 (true) H36) else ((IntKind.wrap .i64 x32) ≠ 0 ∧ (J21 (((Int.tmod x12.2 (IntKind.wrap .i64 x32)) != 0)) H36)))))) (fun (J34 : Bool → Hp → Prop) => if decide ((IntKind.wrap .i64 x28) < 1) = true then (J34 (true) H18) else (if decide ((4 : Int) < (IntKind.wrap .i64 x28)) = true then (J34 (true) H18) else (if decide ((IntKind.wrap .i64 x32) < 1) = true then (J34 (true) H18) else (J34 ((decide ((4 : Int) < (IntKind.wrap .i64 x32)))) H18)))))))))) else (if s17.1 = true then (Q 142 H18) else (Q 0 H18))) k15 (false, 0) H13)))) (fun (J9 : Bool → Hp → Prop) => if ((a0_3.n : Int) == 0) = true then (J9 (true) H7) else (if decide ((4 : Int) < (a0_3.n : Int)) = true then (J9 (true) H7) else (J9 (x6) H7))))))) (fun (J3 : Bool → Hp → Prop) => if decide (a0_1 < 1) = true then (J3 (true) H2) else (if decide ((65535 : Int) < a0_1) = true then (J3 (true) H2) else (if decide (a0_2 < 1) = true then (J3 (true) H2) else (J3 ((decide ((65535 : Int) < a0_2))) H2)))))
set_option maxRecDepth 20000 in
set_option maxHeartbeats 4000000 in
theorem mosaicref14_Check.calls (a0_0 : Int) (a0_1 : Int) (a0_2 : Int) (a0_3 : Sl) (w0 : World) (Q : Int → Hp → Prop) (h : mosaicref14_Check.s a0_0 a0_1 a0_2 a0_3 w0.heap Q) :
    Ca Try.prog 40 #[.agg (c24 a0_0 a0_1 a0_2 a0_3).toArray] w0 (Rt mosaicref14_Check.enc Q w0) := by
  refine ca_start (c := _) Try.func40 rfl Try.ntmps40 rfl ?_
  have so : Sm w0 w0 := Sm.refl w0
  unfold mosaicref14_Check.s at h
  refine wc_prune [(0, .agg (c24 a0_0 a0_1 a0_2 a0_3).toArray)] ⟨rfl, trivial⟩ (fun f1 => ?_)
  refine wc_seq ?_
  refine wc_region ?_
  refine wl_newT (T := 24) (cs := (c24 a0_0 a0_1 a0_2 a0_3)) (ef_box rfl rfl) rfl so ?_; intro b1 w2 hb_b1 t_b1 k_b1 so
  have g_b1 := Nat.le_of_eq hb_b1.symm
  have hc := k_b1.ch (F := [])
  refine wl_val (at_assign rfl) rfl ?_
  refine wl_nil ?_
  refine wk_prune [(1, .pointer (some (⟨b1, 0, none⟩ : Addr)))] ⟨rfl, trivial⟩ (fun f1 => ?_)
  refine wk_then ?_
  refine wc_seq ?_
  replace h := h b1 _ hc g_b1 t_b1.lt; clear hc
  refine wc_seq ?_
  refine wc_joinG (w0 := w0) (fun (H : Hp) => Bk H b1 24 (c24 a0_0 a0_1 a0_2 a0_3) ∧ True) (fun (s4 : Bool) => [(1, .pointer (some (⟨b1, 0, none⟩ : Addr))), (27, .bool s4)]) (fun (s4 : Bool) => []) h ?_ ?_
  · rintro s4 w5 f1 h ⟨t_b1, _⟩ so; refine wk_then ?_
    refine wc_cond rfl h (fun h => ?_) (fun h => ?_)
    · refine wc_seq ?_
      refine wc_region ?_
      refine wl_val (at_assign rfl) rfl ?_
      refine wl_nil ?_
      refine wk_prune [(2, .int .i64 140)] ⟨rfl, trivial⟩ (fun f1 => ?_)
      refine wk_then ?_
      refine wc_ret ?_
      refine wk_thenR ?_
      exact wk_ret1 (x := 140) rfl (by decide) rfl so h
    · refine wc_skip ?_
      refine wk_prune [(1, .pointer (some (⟨b1, 0, none⟩ : Addr)))] ⟨rfl, trivial⟩ (fun f1 => ?_)
      refine wk_then ?_
      refine wc_seq ?_
      refine wc_region ?_
      refine wl_val (at_loadA (cs := (c24 a0_0 a0_1 a0_2 a0_3)) Try.underlying24 rfl (by rw [len24]; exact sz24) rfl (ldA_full t_b1)) rfl ?_
      refine wl_callF (mosaicref14_ids.calls _ _ _ _ _ _ h) enter66 rfl trivial so ?_; intro x6 w7 h so
      obtain ⟨q8, h⟩ := h
      replace t_b1 := pv_bk q8 t_b1 (by simp)
      refine wl_val (at_assign rfl) rfl ?_
      refine wl_nil ?_
      refine wk_prune [(1, .pointer (some (⟨b1, 0, none⟩ : Addr))), (3, .bool x6)] ⟨rfl, rfl, trivial⟩ (fun f1 => ?_)
      refine wk_then ?_
      refine wc_seq ?_
      refine wc_seq ?_
      refine wc_joinG (w0 := w0) (fun (H : Hp) => Bk H b1 24 (c24 a0_0 a0_1 a0_2 a0_3) ∧ True) (fun (s10 : Bool) => [(1, .pointer (some (⟨b1, 0, none⟩ : Addr))), (42, .bool s10)]) (fun (s10 : Bool) => []) h ?_ ?_
      · rintro s10 w11 f1 h ⟨t_b1, _⟩ so; refine wk_then ?_
        refine wc_cond rfl h (fun h => ?_) (fun h => ?_)
        · refine wc_seq ?_
          refine wc_region ?_
          refine wl_val (at_assign rfl) rfl ?_
          refine wl_nil ?_
          refine wk_prune [(2, .int .i64 143)] ⟨rfl, trivial⟩ (fun f1 => ?_)
          refine wk_then ?_
          refine wc_ret ?_
          refine wk_thenR ?_
          exact wk_ret1 (x := 143) rfl (by decide) rfl so h
        · refine wc_skip ?_
          refine wk_prune [(1, .pointer (some (⟨b1, 0, none⟩ : Addr)))] ⟨rfl, trivial⟩ (fun f1 => ?_)
          refine wk_then ?_
          refine wc_seq ?_
          refine wc_region ?_
          refine wl_val (at_loadA (cs := (c24 a0_0 a0_1 a0_2 a0_3)) Try.underlying24 rfl (by rw [len24]; exact sz24) rfl (ldA_full t_b1)) rfl ?_
          refine wl_callF (mosaicref14_greatest.calls _ _ _ _ _ _ h) enter42 rfl trivial so ?_; intro x12 w13 h so
          obtain ⟨q14, h⟩ := h
          replace t_b1 := pv_bk q14 t_b1 (by simp)
          refine wl_val (at_move rfl) rfl ?_
          refine wl_val (at_extract rfl rfl) rfl ?_
          refine wl_val (at_extract rfl rfl) rfl ?_
          refine wl_val (at_assign rfl) rfl ?_
          refine wl_val (at_assign rfl) rfl ?_
          refine wl_nil ?_
          refine wk_prune [(1, .pointer (some (⟨b1, 0, none⟩ : Addr))), (4, .int .i64 x12.1), (5, .int .i64 x12.2)] ⟨rfl, rfl, rfl, trivial⟩ (fun f1 => ?_)
          refine wk_then ?_
          refine wc_seq ?_
          refine wc_region ?_
          refine wl_val (at_assign rfl) rfl ?_
          refine wl_nil ?_
          refine wk_prune [(1, .pointer (some (⟨b1, 0, none⟩ : Addr))), (4, .int .i64 x12.1), (5, .int .i64 x12.2), (6, .bool false)] ⟨rfl, rfl, rfl, rfl, trivial⟩ (fun f1 => ?_)
          refine wk_then ?_
          refine wc_seq ?_
          refine wc_seq ?_
          refine wc_region ?_
          refine wl_val (at_assign rfl) rfl ?_
          refine wl_nil ?_
          refine wk_prune [(1, .pointer (some (⟨b1, 0, none⟩ : Addr))), (4, .int .i64 x12.1), (5, .int .i64 x12.2), (6, .bool false), (7, .int .i64 0)] ⟨rfl, rfl, rfl, rfl, rfl, trivial⟩ (fun f1 => ?_)
          refine wk_then ?_
          refine wc_block ?_
          obtain ⟨k15, h⟩ := h
          refine wc_loop (fun k a w => ∃ (s17 : Bool × Int) (f1 : Nat → Value), a = ac 97 (en f1 [(1, .pointer (some (⟨b1, 0, none⟩ : Addr))), (4, .int .i64 x12.1), (5, .int .i64 x12.2), (6, .bool s17.1), (7, .int .i64 s17.2)]) [] ∧ Sm w0 w ∧ (Bk w.heap b1 24 (c24 a0_0 a0_1 a0_2 a0_3) ∧ True) ∧ Fix _ k s17 w.heap) k15 ⟨(false, 0), _, ac_again ⟨rfl, rfl, rfl, rfl, rfl, trivial⟩, so, ⟨t_b1, trivial⟩, h⟩ ?_
          rintro k16 a19 w18 ⟨s17, f1, rfl, so, ⟨t_b1, _⟩, h⟩
          rcases k16 with _ | k16
          · exact h.elim
          replace h := Fix.un h; refine wc_in ?_
          refine wc_seq ?_
          refine wc_seq ?_
          refine wc_region ?_
          refine wl_val (at_move rfl) rfl ?_
          refine wl_val (at_fieldAddr Try.underlying24 rfl rfl sz22 (by decide) rfl) rfl ?_
          refine wl_val (at_load (v := .slice a0_3.a a0_3.n a0_3.c) Try.underlying22 rfl rfl ((t_b1.cell 3).trans (by first | rfl | simp [List.getElem?_append, ints_len, bools_len]))) rfl ?_
          refine wl_val (at_lenL Try.underlying22 rfl) rfl ?_
          refine wl_val (at_lss rfl rfl) rfl ?_
          refine wl_nil ?_
          refine wk_prune [(1, .pointer (some (⟨b1, 0, none⟩ : Addr))), (4, .int .i64 x12.1), (5, .int .i64 x12.2), (6, .bool s17.1), (7, .int .i64 s17.2), (52, .bool (decide (s17.2 < (a0_3.n : Int))))] ⟨rfl, rfl, rfl, rfl, rfl, rfl, trivial⟩ (fun f1 => ?_)
          refine wk_then ?_
          refine wc_cond rfl h (fun h => ?_) (fun h => ?_)
          · refine wc_skip ?_
            refine wk_prune [(1, .pointer (some (⟨b1, 0, none⟩ : Addr))), (4, .int .i64 x12.1), (5, .int .i64 x12.2), (6, .bool s17.1), (7, .int .i64 s17.2)] ⟨rfl, rfl, rfl, rfl, rfl, trivial⟩ (fun f1 => ?_)
            refine wk_then ?_
            refine wc_seq ?_
            refine wc_joinG (w0 := w0) (fun (H : Hp) => Bk H b1 24 (c24 a0_0 a0_1 a0_2 a0_3) ∧ True) (fun (s22 : Bool) => [(1, .pointer (some (⟨b1, 0, none⟩ : Addr))), (4, .int .i64 x12.1), (5, .int .i64 x12.2), (6, .bool s22), (7, .int .i64 s17.2)]) (fun (s22 : Bool) => []) h ?_ ?_
            · rintro s22 w23 f1 h ⟨t_b1, _⟩ so; refine wk_then ?_
              refine wc_region ?_
              refine wl_val (at_move rfl) rfl ?_
              refine wl_val (at_add rfl rfl) rfl ?_
              refine wl_val (at_assign rfl) rfl ?_
              refine wl_nil ?_
              exact wk_again ⟨(s22, (IntKind.wrap .i64 (s17.2 + 1))), _, ac_again ⟨rfl, rfl, rfl, rfl, rfl, trivial⟩, so, ⟨t_b1, trivial⟩, h⟩
            · intro J21 h hJ21
              refine wc_block ?_
              refine wc_seq ?_
              refine wc_region ?_
              refine wl_val (at_fieldAddr Try.underlying24 rfl rfl sz22 (by decide) rfl) rfl ?_
              refine wl_val (at_load (v := .slice a0_3.a a0_3.n a0_3.c) Try.underlying22 rfl rfl ((t_b1.cell 3).trans (by first | rfl | simp [List.getElem?_append, ints_len, bools_len]))) rfl ?_
              refine wl_val (at_move rfl) rfl ?_
              obtain ⟨q24, q25, p26, q27, h⟩ := h
              refine wl_val (at_ixAddrL Try.underlying22 sz98 (sl_some q27) rfl q24 q25) rfl ?_
              refine wl_val (at_fieldAddr Try.underlying98 rfl rfl sz5 (by decide) rfl) rfl ?_
              obtain ⟨x28, q29, h⟩ := h
              refine wl_val (at_load Try.underlying5 rfl rfl q29) rfl ?_
              refine wl_val (at_conv Try.underlying5 Try.underlying3 rfl) rfl ?_
              refine wl_val (at_assign rfl) rfl ?_
              refine wl_nil ?_
              refine wk_prune [(1, .pointer (some (⟨b1, 0, none⟩ : Addr))), (4, .int .i64 x12.1), (5, .int .i64 x12.2), (6, .bool s17.1), (7, .int .i64 s17.2), (8, .int .i64 (IntKind.wrap .i64 x28))] ⟨rfl, rfl, rfl, rfl, rfl, rfl, trivial⟩ (fun f1 => ?_)
              refine wk_then ?_
              refine wc_seq ?_
              refine wc_region ?_
              refine wl_val (at_fieldAddr Try.underlying24 rfl rfl sz22 (by decide) rfl) rfl ?_
              refine wl_val (at_load (v := .slice a0_3.a a0_3.n a0_3.c) Try.underlying22 rfl rfl ((t_b1.cell 3).trans (by first | rfl | simp [List.getElem?_append, ints_len, bools_len]))) rfl ?_
              refine wl_val (at_move rfl) rfl ?_
              obtain ⟨q30, q31, h⟩ := h
              refine wl_val (at_ixAddrL Try.underlying22 sz98 (sl_some q27) rfl q30 q31) rfl ?_
              refine wl_val (at_fieldAddr Try.underlying98 rfl rfl sz5 (by decide) rfl) rfl ?_
              obtain ⟨x32, q33, h⟩ := h
              refine wl_val (at_load Try.underlying5 rfl rfl q33) rfl ?_
              refine wl_val (at_conv Try.underlying5 Try.underlying3 rfl) rfl ?_
              refine wl_val (at_assign rfl) rfl ?_
              refine wl_nil ?_
              refine wk_prune [(1, .pointer (some (⟨b1, 0, none⟩ : Addr))), (4, .int .i64 x12.1), (5, .int .i64 x12.2), (6, .bool s17.1), (7, .int .i64 s17.2), (8, .int .i64 (IntKind.wrap .i64 x28)), (9, .int .i64 (IntKind.wrap .i64 x32))] ⟨rfl, rfl, rfl, rfl, rfl, rfl, rfl, trivial⟩ (fun f1 => ?_)
              refine wk_then ?_
              refine wc_seq ?_
              refine wc_seq ?_
              refine wc_joinG (w0 := w0) (fun (H : Hp) => Bk H b1 24 (c24 a0_0 a0_1 a0_2 a0_3) ∧ True) (fun (s35 : Bool) => [(1, .pointer (some (⟨b1, 0, none⟩ : Addr))), (4, .int .i64 x12.1), (5, .int .i64 x12.2), (6, .bool s17.1), (7, .int .i64 s17.2), (8, .int .i64 (IntKind.wrap .i64 x28)), (9, .int .i64 (IntKind.wrap .i64 x32)), (82, .bool s35)]) (fun (s35 : Bool) => []) h ?_ ?_
              · rintro s35 w36 f1 h ⟨t_b1, _⟩ so; refine wk_then ?_
                refine wc_cond rfl h (fun h => ?_) (fun h => ?_)
                · refine wc_seq ?_
                  refine wc_region ?_
                  refine wl_val (at_assign rfl) rfl ?_
                  refine wl_nil ?_
                  refine wk_prune [(2, .int .i64 141)] ⟨rfl, trivial⟩ (fun f1 => ?_)
                  refine wk_then ?_
                  refine wc_ret ?_
                  refine wk_thenR ?_
                  refine wk_blkR ?_
                  refine wk_thenR ?_
                  refine wk_thenR ?_
                  refine wk_blkR ?_
                  refine wk_thenR ?_
                  exact wk_ret1 (x := 141) rfl (by decide) rfl so h
                · refine wc_skip ?_
                  refine wk_prune [(1, .pointer (some (⟨b1, 0, none⟩ : Addr))), (4, .int .i64 x12.1), (5, .int .i64 x12.2), (6, .bool s17.1), (7, .int .i64 s17.2), (8, .int .i64 (IntKind.wrap .i64 x28)), (9, .int .i64 (IntKind.wrap .i64 x32))] ⟨rfl, rfl, rfl, rfl, rfl, rfl, rfl, trivial⟩ (fun f1 => ?_)
                  refine wk_then ?_
                  refine wc_region ?_
                  refine wl_val (at_move rfl) rfl ?_
                  refine wl_val (at_move rfl) rfl ?_
                  refine bif_ h (fun hb h => ?_) (fun hb h => ?_)
                  · refine wl_set (t := 84) (v := .bool true) (congrArg Value.bool hb) ?_; clear hb
                    refine wl_off (t := 84) rfl (by decide) rfl ?_
                    refine wl_off (t := 84) rfl (by decide) rfl ?_
                    refine wl_off (t := 84) rfl (by decide) rfl ?_
                    refine wl_off (t := 84) rfl (by decide) rfl ?_
                    refine wl_val (at_pick_t rfl rfl) rfl ?_
                    refine wl_val (at_move rfl) rfl ?_
                    refine wl_off (t := 90) rfl (by decide) rfl ?_
                    refine wl_off (t := 90) rfl (by decide) rfl ?_
                    refine wl_off (t := 90) rfl (by decide) rfl ?_
                    refine wl_off (t := 90) rfl (by decide) rfl ?_
                    refine wl_val (at_pick_t rfl rfl) rfl ?_
                    refine wl_val (at_assign rfl) rfl ?_
                    refine wl_nil ?_
                    refine wk_blkN ?_
                    exact wk_prune [(1, .pointer (some (⟨b1, 0, none⟩ : Addr))), (4, .int .i64 x12.1), (5, .int .i64 x12.2), (6, .bool true), (7, .int .i64 s17.2)] ⟨rfl, rfl, rfl, rfl, rfl, trivial⟩ (fun f1 => hJ21 (true) _ f1 h ⟨t_b1, trivial⟩ so)
                  · refine wl_set (t := 84) (v := .bool false) (congrArg Value.bool hb) ?_; clear hb
                    refine wl_on (t := 84) rfl (by decide) rfl ?_
                    refine wl_val (at_move rfl) rfl ?_
                    refine wl_on (t := 84) rfl (by decide) rfl ?_
                    refine wl_val (at_move rfl) rfl ?_
                    refine wl_on (t := 84) rfl (by decide) rfl ?_
                    obtain ⟨q37, h⟩ := h
                    refine wl_val (at_rem rfl rfl q37) rfl ?_
                    refine wl_on (t := 84) rfl (by decide) rfl ?_
                    refine wl_val (at_neq rfl rfl) rfl ?_
                    refine wl_val (at_pick_f rfl rfl) rfl ?_
                    refine wl_val (at_move rfl) rfl ?_
                    refine bif_ h (fun hb h => ?_) (fun hb h => ?_)
                    · refine wl_set (t := 90) (v := .bool true) (congrArg Value.bool hb) ?_; clear hb
                      refine wl_off (t := 90) rfl (by decide) rfl ?_
                      refine wl_off (t := 90) rfl (by decide) rfl ?_
                      refine wl_off (t := 90) rfl (by decide) rfl ?_
                      refine wl_off (t := 90) rfl (by decide) rfl ?_
                      refine wl_val (at_pick_t rfl rfl) rfl ?_
                      refine wl_val (at_assign rfl) rfl ?_
                      refine wl_nil ?_
                      refine wk_blkN ?_
                      exact wk_prune [(1, .pointer (some (⟨b1, 0, none⟩ : Addr))), (4, .int .i64 x12.1), (5, .int .i64 x12.2), (6, .bool true), (7, .int .i64 s17.2)] ⟨rfl, rfl, rfl, rfl, rfl, trivial⟩ (fun f1 => hJ21 (true) _ f1 h ⟨t_b1, trivial⟩ so)
                    · refine wl_set (t := 90) (v := .bool false) (congrArg Value.bool hb) ?_; clear hb
                      refine wl_on (t := 90) rfl (by decide) rfl ?_
                      refine wl_val (at_move rfl) rfl ?_
                      refine wl_on (t := 90) rfl (by decide) rfl ?_
                      refine wl_val (at_move rfl) rfl ?_
                      refine wl_on (t := 90) rfl (by decide) rfl ?_
                      obtain ⟨q38, h⟩ := h
                      refine wl_val (at_rem rfl rfl q38) rfl ?_
                      refine wl_on (t := 90) rfl (by decide) rfl ?_
                      refine wl_val (at_neq rfl rfl) rfl ?_
                      refine wl_val (at_pick_f rfl rfl) rfl ?_
                      refine wl_val (at_assign rfl) rfl ?_
                      refine wl_nil ?_
                      refine wk_blkN ?_
                      exact wk_prune [(1, .pointer (some (⟨b1, 0, none⟩ : Addr))), (4, .int .i64 x12.1), (5, .int .i64 x12.2), (6, .bool ((Int.tmod x12.2 (IntKind.wrap .i64 x32)) != 0)), (7, .int .i64 s17.2)] ⟨rfl, rfl, rfl, rfl, rfl, trivial⟩ (fun f1 => hJ21 (((Int.tmod x12.2 (IntKind.wrap .i64 x32)) != 0)) _ f1 h ⟨t_b1, trivial⟩ so)
              · intro J34 h hJ34
                refine wc_region ?_
                refine wl_val (at_move rfl) rfl ?_
                refine wl_val (at_lss rfl rfl) rfl ?_
                refine wl_val (at_move rfl) rfl ?_
                refine bif_ h (fun hb h => ?_) (fun hb h => ?_)
                · refine wl_set (t := 71) (v := .bool true) (congrArg Value.bool hb) ?_; clear hb
                  refine wl_off (t := 71) rfl (by decide) rfl ?_
                  refine wl_off (t := 71) rfl (by decide) rfl ?_
                  refine wl_val (at_pick_t rfl rfl) rfl ?_
                  refine wl_val (at_move rfl) rfl ?_
                  refine wl_off (t := 75) rfl (by decide) rfl ?_
                  refine wl_off (t := 75) rfl (by decide) rfl ?_
                  refine wl_val (at_pick_t rfl rfl) rfl ?_
                  refine wl_val (at_move rfl) rfl ?_
                  refine wl_off (t := 79) rfl (by decide) rfl ?_
                  refine wl_off (t := 79) rfl (by decide) rfl ?_
                  refine wl_val (at_pick_t rfl rfl) rfl ?_
                  refine wl_nil ?_
                  exact wk_prune [(1, .pointer (some (⟨b1, 0, none⟩ : Addr))), (4, .int .i64 x12.1), (5, .int .i64 x12.2), (6, .bool s17.1), (7, .int .i64 s17.2), (8, .int .i64 (IntKind.wrap .i64 x28)), (9, .int .i64 (IntKind.wrap .i64 x32)), (82, .bool true)] ⟨rfl, rfl, rfl, rfl, rfl, rfl, rfl, rfl, trivial⟩ (fun f1 => hJ34 (true) _ f1 h ⟨t_b1, trivial⟩ so)
                · refine wl_set (t := 71) (v := .bool false) (congrArg Value.bool hb) ?_; clear hb
                  refine wl_on (t := 71) rfl (by decide) rfl ?_
                  refine wl_val (at_move rfl) rfl ?_
                  refine wl_on (t := 71) rfl (by decide) rfl ?_
                  refine wl_val (at_gtr rfl rfl) rfl ?_
                  refine wl_val (at_pick_f rfl rfl) rfl ?_
                  refine wl_val (at_move rfl) rfl ?_
                  refine bif_ h (fun hb h => ?_) (fun hb h => ?_)
                  · refine wl_set (t := 75) (v := .bool true) (congrArg Value.bool hb) ?_; clear hb
                    refine wl_off (t := 75) rfl (by decide) rfl ?_
                    refine wl_off (t := 75) rfl (by decide) rfl ?_
                    refine wl_val (at_pick_t rfl rfl) rfl ?_
                    refine wl_val (at_move rfl) rfl ?_
                    refine wl_off (t := 79) rfl (by decide) rfl ?_
                    refine wl_off (t := 79) rfl (by decide) rfl ?_
                    refine wl_val (at_pick_t rfl rfl) rfl ?_
                    refine wl_nil ?_
                    exact wk_prune [(1, .pointer (some (⟨b1, 0, none⟩ : Addr))), (4, .int .i64 x12.1), (5, .int .i64 x12.2), (6, .bool s17.1), (7, .int .i64 s17.2), (8, .int .i64 (IntKind.wrap .i64 x28)), (9, .int .i64 (IntKind.wrap .i64 x32)), (82, .bool true)] ⟨rfl, rfl, rfl, rfl, rfl, rfl, rfl, rfl, trivial⟩ (fun f1 => hJ34 (true) _ f1 h ⟨t_b1, trivial⟩ so)
                  · refine wl_set (t := 75) (v := .bool false) (congrArg Value.bool hb) ?_; clear hb
                    refine wl_on (t := 75) rfl (by decide) rfl ?_
                    refine wl_val (at_move rfl) rfl ?_
                    refine wl_on (t := 75) rfl (by decide) rfl ?_
                    refine wl_val (at_lss rfl rfl) rfl ?_
                    refine wl_val (at_pick_f rfl rfl) rfl ?_
                    refine wl_val (at_move rfl) rfl ?_
                    refine bif_ h (fun hb h => ?_) (fun hb h => ?_)
                    · refine wl_set (t := 79) (v := .bool true) (congrArg Value.bool hb) ?_; clear hb
                      refine wl_off (t := 79) rfl (by decide) rfl ?_
                      refine wl_off (t := 79) rfl (by decide) rfl ?_
                      refine wl_val (at_pick_t rfl rfl) rfl ?_
                      refine wl_nil ?_
                      exact wk_prune [(1, .pointer (some (⟨b1, 0, none⟩ : Addr))), (4, .int .i64 x12.1), (5, .int .i64 x12.2), (6, .bool s17.1), (7, .int .i64 s17.2), (8, .int .i64 (IntKind.wrap .i64 x28)), (9, .int .i64 (IntKind.wrap .i64 x32)), (82, .bool true)] ⟨rfl, rfl, rfl, rfl, rfl, rfl, rfl, rfl, trivial⟩ (fun f1 => hJ34 (true) _ f1 h ⟨t_b1, trivial⟩ so)
                    · refine wl_set (t := 79) (v := .bool false) (congrArg Value.bool hb) ?_; clear hb
                      refine wl_on (t := 79) rfl (by decide) rfl ?_
                      refine wl_val (at_move rfl) rfl ?_
                      refine wl_on (t := 79) rfl (by decide) rfl ?_
                      refine wl_val (at_gtr rfl rfl) rfl ?_
                      refine wl_val (at_pick_f rfl rfl) rfl ?_
                      refine wl_nil ?_
                      exact wk_prune [(1, .pointer (some (⟨b1, 0, none⟩ : Addr))), (4, .int .i64 x12.1), (5, .int .i64 x12.2), (6, .bool s17.1), (7, .int .i64 s17.2), (8, .int .i64 (IntKind.wrap .i64 x28)), (9, .int .i64 (IntKind.wrap .i64 x32)), (82, .bool (decide ((4 : Int) < (IntKind.wrap .i64 x32))))] ⟨rfl, rfl, rfl, rfl, rfl, rfl, rfl, rfl, trivial⟩ (fun f1 => hJ34 ((decide ((4 : Int) < (IntKind.wrap .i64 x32)))) _ f1 h ⟨t_b1, trivial⟩ so)
          · refine wc_exit ?_
            refine wk_thenE ?_
            refine wk_thenE ?_
            refine wk_blkE ?_
            refine wk_prune [(6, .bool s17.1)] ⟨rfl, trivial⟩ (fun f1 => ?_)
            refine wk_then ?_
            refine wc_seq ?_
            refine wc_seq ?_
            refine wc_region ?_
            refine wl_val (at_move rfl) rfl ?_
            refine wl_nil ?_
            refine wk_prune [(96, .bool s17.1)] ⟨rfl, trivial⟩ (fun f1 => ?_)
            refine wk_then ?_
            refine wc_cond rfl h (fun h => ?_) (fun h => ?_)
            · refine wc_seq ?_
              refine wc_region ?_
              refine wl_val (at_assign rfl) rfl ?_
              refine wl_nil ?_
              refine wk_prune [(2, .int .i64 142)] ⟨rfl, trivial⟩ (fun f1 => ?_)
              refine wk_then ?_
              refine wc_ret ?_
              refine wk_thenR ?_
              exact wk_ret1 (x := 142) rfl (by decide) rfl so h
            · refine wc_skip ?_
              refine wk_prune [] trivial (fun f1 => ?_)
              refine wk_then ?_
              refine wc_seq ?_
              refine wc_region ?_
              refine wl_val (at_assign rfl) rfl ?_
              refine wl_nil ?_
              refine wk_prune [(2, .int .i64 0)] ⟨rfl, trivial⟩ (fun f1 => ?_)
              refine wk_then ?_
              refine wc_ret ?_
              exact wk_ret1 (x := 0) rfl (by decide) rfl so h
      · intro J9 h hJ9
        refine wc_region ?_
        refine wl_val (at_fieldAddr Try.underlying24 rfl rfl sz22 (by decide) rfl) rfl ?_
        refine wl_val (at_load (v := .slice a0_3.a a0_3.n a0_3.c) Try.underlying22 rfl rfl ((t_b1.cell 3).trans (by first | rfl | simp [List.getElem?_append, ints_len, bools_len]))) rfl ?_
        refine wl_val (at_lenL Try.underlying22 rfl) rfl ?_
        refine wl_val (at_eql rfl rfl) rfl ?_
        refine wl_val (at_move rfl) rfl ?_
        refine bif_ h (fun hb h => ?_) (fun hb h => ?_)
        · refine wl_set (t := 34) (v := .bool true) (congrArg Value.bool hb) ?_; clear hb
          refine wl_off (t := 34) rfl (by decide) rfl ?_
          refine wl_off (t := 34) rfl (by decide) rfl ?_
          refine wl_off (t := 34) rfl (by decide) rfl ?_
          refine wl_off (t := 34) rfl (by decide) rfl ?_
          refine wl_val (at_pick_t rfl rfl) rfl ?_
          refine wl_val (at_move rfl) rfl ?_
          refine wl_off (t := 40) rfl (by decide) rfl ?_
          refine wl_val (at_pick_t rfl rfl) rfl ?_
          refine wl_nil ?_
          exact wk_prune [(1, .pointer (some (⟨b1, 0, none⟩ : Addr))), (42, .bool true)] ⟨rfl, rfl, trivial⟩ (fun f1 => hJ9 (true) _ f1 h ⟨t_b1, trivial⟩ so)
        · refine wl_set (t := 34) (v := .bool false) (congrArg Value.bool hb) ?_; clear hb
          refine wl_on (t := 34) rfl (by decide) rfl ?_
          refine wl_val (at_fieldAddr Try.underlying24 rfl rfl sz22 (by decide) rfl) rfl ?_
          refine wl_on (t := 34) rfl (by decide) rfl ?_
          refine wl_val (at_load (v := .slice a0_3.a a0_3.n a0_3.c) Try.underlying22 rfl rfl ((t_b1.cell 3).trans (by first | rfl | simp [List.getElem?_append, ints_len, bools_len]))) rfl ?_
          refine wl_on (t := 34) rfl (by decide) rfl ?_
          refine wl_val (at_lenL Try.underlying22 rfl) rfl ?_
          refine wl_on (t := 34) rfl (by decide) rfl ?_
          refine wl_val (at_gtr rfl rfl) rfl ?_
          refine wl_val (at_pick_f rfl rfl) rfl ?_
          refine wl_val (at_move rfl) rfl ?_
          refine bif_ h (fun hb h => ?_) (fun hb h => ?_)
          · refine wl_set (t := 40) (v := .bool true) (congrArg Value.bool hb) ?_; clear hb
            refine wl_off (t := 40) rfl (by decide) rfl ?_
            refine wl_val (at_pick_t rfl rfl) rfl ?_
            refine wl_nil ?_
            exact wk_prune [(1, .pointer (some (⟨b1, 0, none⟩ : Addr))), (42, .bool true)] ⟨rfl, rfl, trivial⟩ (fun f1 => hJ9 (true) _ f1 h ⟨t_b1, trivial⟩ so)
          · refine wl_set (t := 40) (v := .bool false) (congrArg Value.bool hb) ?_; clear hb
            refine wl_on (t := 40) rfl (by decide) rfl ?_
            refine wl_val (at_move rfl) rfl ?_
            refine wl_val (at_pick_f rfl rfl) rfl ?_
            refine wl_nil ?_
            exact wk_prune [(1, .pointer (some (⟨b1, 0, none⟩ : Addr))), (42, .bool x6)] ⟨rfl, rfl, trivial⟩ (fun f1 => hJ9 (x6) _ f1 h ⟨t_b1, trivial⟩ so)
  · intro J3 h hJ3
    refine wc_region ?_
    refine wl_val (at_fieldAddr Try.underlying24 rfl rfl sz3 (by decide) rfl) rfl ?_
    refine wl_val (at_load (v := .int .i64 a0_1) Try.underlying3 rfl rfl ((t_b1.cell 1).trans (by first | rfl | simp [List.getElem?_append, ints_len, bools_len]))) rfl ?_
    refine wl_val (at_lss rfl rfl) rfl ?_
    refine wl_val (at_move rfl) rfl ?_
    refine bif_ h (fun hb h => ?_) (fun hb h => ?_)
    · refine wl_set (t := 13) (v := .bool true) (congrArg Value.bool hb) ?_; clear hb
      refine wl_off (t := 13) rfl (by decide) rfl ?_
      refine wl_off (t := 13) rfl (by decide) rfl ?_
      refine wl_off (t := 13) rfl (by decide) rfl ?_
      refine wl_val (at_pick_t rfl rfl) rfl ?_
      refine wl_val (at_move rfl) rfl ?_
      refine wl_off (t := 18) rfl (by decide) rfl ?_
      refine wl_off (t := 18) rfl (by decide) rfl ?_
      refine wl_off (t := 18) rfl (by decide) rfl ?_
      refine wl_val (at_pick_t rfl rfl) rfl ?_
      refine wl_val (at_move rfl) rfl ?_
      refine wl_off (t := 23) rfl (by decide) rfl ?_
      refine wl_off (t := 23) rfl (by decide) rfl ?_
      refine wl_off (t := 23) rfl (by decide) rfl ?_
      refine wl_val (at_pick_t rfl rfl) rfl ?_
      refine wl_nil ?_
      exact wk_prune [(1, .pointer (some (⟨b1, 0, none⟩ : Addr))), (27, .bool true)] ⟨rfl, rfl, trivial⟩ (fun f1 => hJ3 (true) _ f1 h ⟨t_b1, trivial⟩ so)
    · refine wl_set (t := 13) (v := .bool false) (congrArg Value.bool hb) ?_; clear hb
      refine wl_on (t := 13) rfl (by decide) rfl ?_
      refine wl_val (at_fieldAddr Try.underlying24 rfl rfl sz3 (by decide) rfl) rfl ?_
      refine wl_on (t := 13) rfl (by decide) rfl ?_
      refine wl_val (at_load (v := .int .i64 a0_1) Try.underlying3 rfl rfl ((t_b1.cell 1).trans (by first | rfl | simp [List.getElem?_append, ints_len, bools_len]))) rfl ?_
      refine wl_on (t := 13) rfl (by decide) rfl ?_
      refine wl_val (at_gtr rfl rfl) rfl ?_
      refine wl_val (at_pick_f rfl rfl) rfl ?_
      refine wl_val (at_move rfl) rfl ?_
      refine bif_ h (fun hb h => ?_) (fun hb h => ?_)
      · refine wl_set (t := 18) (v := .bool true) (congrArg Value.bool hb) ?_; clear hb
        refine wl_off (t := 18) rfl (by decide) rfl ?_
        refine wl_off (t := 18) rfl (by decide) rfl ?_
        refine wl_off (t := 18) rfl (by decide) rfl ?_
        refine wl_val (at_pick_t rfl rfl) rfl ?_
        refine wl_val (at_move rfl) rfl ?_
        refine wl_off (t := 23) rfl (by decide) rfl ?_
        refine wl_off (t := 23) rfl (by decide) rfl ?_
        refine wl_off (t := 23) rfl (by decide) rfl ?_
        refine wl_val (at_pick_t rfl rfl) rfl ?_
        refine wl_nil ?_
        exact wk_prune [(1, .pointer (some (⟨b1, 0, none⟩ : Addr))), (27, .bool true)] ⟨rfl, rfl, trivial⟩ (fun f1 => hJ3 (true) _ f1 h ⟨t_b1, trivial⟩ so)
      · refine wl_set (t := 18) (v := .bool false) (congrArg Value.bool hb) ?_; clear hb
        refine wl_on (t := 18) rfl (by decide) rfl ?_
        refine wl_val (at_fieldAddr Try.underlying24 rfl rfl sz3 (by decide) rfl) rfl ?_
        refine wl_on (t := 18) rfl (by decide) rfl ?_
        refine wl_val (at_load (v := .int .i64 a0_2) Try.underlying3 rfl rfl ((t_b1.cell 2).trans (by first | rfl | simp [List.getElem?_append, ints_len, bools_len]))) rfl ?_
        refine wl_on (t := 18) rfl (by decide) rfl ?_
        refine wl_val (at_lss rfl rfl) rfl ?_
        refine wl_val (at_pick_f rfl rfl) rfl ?_
        refine wl_val (at_move rfl) rfl ?_
        refine bif_ h (fun hb h => ?_) (fun hb h => ?_)
        · refine wl_set (t := 23) (v := .bool true) (congrArg Value.bool hb) ?_; clear hb
          refine wl_off (t := 23) rfl (by decide) rfl ?_
          refine wl_off (t := 23) rfl (by decide) rfl ?_
          refine wl_off (t := 23) rfl (by decide) rfl ?_
          refine wl_val (at_pick_t rfl rfl) rfl ?_
          refine wl_nil ?_
          exact wk_prune [(1, .pointer (some (⟨b1, 0, none⟩ : Addr))), (27, .bool true)] ⟨rfl, rfl, trivial⟩ (fun f1 => hJ3 (true) _ f1 h ⟨t_b1, trivial⟩ so)
        · refine wl_set (t := 23) (v := .bool false) (congrArg Value.bool hb) ?_; clear hb
          refine wl_on (t := 23) rfl (by decide) rfl ?_
          refine wl_val (at_fieldAddr Try.underlying24 rfl rfl sz3 (by decide) rfl) rfl ?_
          refine wl_on (t := 23) rfl (by decide) rfl ?_
          refine wl_val (at_load (v := .int .i64 a0_2) Try.underlying3 rfl rfl ((t_b1.cell 2).trans (by first | rfl | simp [List.getElem?_append, ints_len, bools_len]))) rfl ?_
          refine wl_on (t := 23) rfl (by decide) rfl ?_
          refine wl_val (at_gtr rfl rfl) rfl ?_
          refine wl_val (at_pick_f rfl rfl) rfl ?_
          refine wl_nil ?_
          exact wk_prune [(1, .pointer (some (⟨b1, 0, none⟩ : Addr))), (27, .bool (decide ((65535 : Int) < a0_2)))] ⟨rfl, rfl, trivial⟩ (fun f1 => hJ3 ((decide ((65535 : Int) < a0_2))) _ f1 h ⟨t_b1, trivial⟩ so)

/-- mosaic/mosaicref14.Parts -/
def mosaicref14_Parts.enc : Int → Value := fun r => .int .i64 r
def mosaicref14_Parts.s (a0_0 : Int) (a0_1 : Int) (a0_2 : Int) (a0_3 : Sl) (a1 : Sl) (H0 : Hp) (Q : Int → Hp → Prop) : Prop :=
  Gn [] H0 (fun (b1 : Nat) (H2 : Hp) => mosaicref14_Check.s a0_0 a0_1 a0_2 a0_3 H2 (fun x3 H4 => Pv [b1] H2 H4 ∧ (if (x3 != 0) = true then (Q x3 H4) else (Join (fun (s7 : Bool) (H8 : Hp) => if s7 = true then (Q 143 H8) else (∃ k9, Fix (fun (rec14 : (Int × Int) → Hp → Prop) (s11 : Int × Int) (H12 : Hp) => if decide (s11.2 < (a1.n : Int)) = true then (0 ≤ s11.2 ∧ s11.2 < (a1.n : Int) ∧ someA a1.a (fun p17 => ∃ x19 : Int, ∃ x20 : Int, ∃ x21 : Int, ldA H12 (p17.add (Int.toNat s11.2 * 3)) (c67 x19 x20 x21) ∧ (Gn [] H12 (fun (b23 : Nat) (H25 : Hp) => Join (fun (s27 : Bool) (H28 : Hp) => if s27 = true then (Q 143 H28) else (0 ≤ x19 ∧ x19 < (a0_3.n : Int) ∧ someA a0_3.a (fun p31 => ldI .u8 H28 ((p31.add (Int.toNat x19 * 4)).add 1) (fun x33 => 0 ≤ x19 ∧ x19 < (a0_3.n : Int) ∧ (ldI .u8 H28 ((p31.add (Int.toNat x19 * 4)).add 2) (fun x37 => rec14 ((IntKind.wrap .i64 (s11.1 + (IntKind.wrap .i64 ((IntKind.wrap .i64 x33) * (IntKind.wrap .i64 x37))))), (IntKind.wrap .i64 (s11.2 + 1))) H28)))))) (fun (J26 : Bool → Hp → Prop) => if decide (x19 < 0) = true then (J26 (true) H25) else (if decide ((a0_3.n : Int) ≤ x19) = true then (J26 (true) H25) else (if decide ((0 : Int) < s11.2) = true then (0 ≤ (IntKind.wrap .i64 (s11.2 - 1)) ∧ (IntKind.wrap .i64 (s11.2 - 1)) < (a1.n : Int) ∧ (ldI .i64 H25 ((p17.add (Int.toNat (IntKind.wrap .i64 (s11.2 - 1)) * 3)).add 0) (fun x47 => if decide (x19 ≤ x47) = true then (J26 (true) H25) else (if decide ((3 : Int) < x20) = true then (J26 (true) H25) else (J26 ((decide ((3 : Int) < x21))) H25))))) else (if decide ((3 : Int) < x20) = true then (J26 (true) H25) else (J26 ((decide ((3 : Int) < x21))) H25))))))))) else (Join (fun (s54 : Bool) (H55 : Hp) => if s54 = true then (Q 143 H55) else (Q 0 H55)) (fun (J53 : Bool → Hp → Prop) => if decide ((1 : Int) < (a1.n : Int)) = true then (J53 ((decide ((10 : Int) < s11.1))) H12) else (J53 (false) H12)))) k9 (0, 0) H8)) (fun (J6 : Bool → Hp → Prop) => if ((a1.n : Int) == 0) = true then (J6 (true) H4) else (J6 ((decide ((4 : Int) < (a1.n : Int)))) H4))))))
set_option maxRecDepth 20000 in
set_option maxHeartbeats 4000000 in
theorem mosaicref14_Parts.calls (a0_0 : Int) (a0_1 : Int) (a0_2 : Int) (a0_3 : Sl) (a1 : Sl) (w0 : World) (Q : Int → Hp → Prop) (h : mosaicref14_Parts.s a0_0 a0_1 a0_2 a0_3 a1 w0.heap Q) :
    Ca Try.prog 20 #[.agg (c24 a0_0 a0_1 a0_2 a0_3).toArray, .slice a1.a a1.n a1.c] w0 (Rt mosaicref14_Parts.enc Q w0) := by
  refine ca_start (c := _) Try.func20 rfl Try.ntmps20 rfl ?_
  have so : Sm w0 w0 := Sm.refl w0
  unfold mosaicref14_Parts.s at h
  refine wc_prune [(0, .agg (c24 a0_0 a0_1 a0_2 a0_3).toArray), (1, .slice a1.a a1.n a1.c)] ⟨rfl, rfl, trivial⟩ (fun f1 => ?_)
  refine wc_seq ?_
  refine wc_region ?_
  refine wl_newT (T := 24) (cs := (c24 a0_0 a0_1 a0_2 a0_3)) (ef_box rfl rfl) rfl so ?_; intro b1 w2 hb_b1 t_b1 k_b1 so
  have g_b1 := Nat.le_of_eq hb_b1.symm
  have hc := k_b1.ch (F := [])
  refine wl_val (at_assign rfl) rfl ?_
  refine wl_nil ?_
  refine wk_prune [(1, .slice a1.a a1.n a1.c), (2, .pointer (some (⟨b1, 0, none⟩ : Addr)))] ⟨rfl, rfl, trivial⟩ (fun f1 => ?_)
  refine wk_then ?_
  refine wc_seq ?_
  refine wc_region ?_
  refine wl_val (at_loadA (cs := (c24 a0_0 a0_1 a0_2 a0_3)) Try.underlying24 rfl (by rw [len24]; exact sz24) rfl (ldA_full t_b1)) rfl ?_
  replace h := h b1 _ hc g_b1 t_b1.lt; clear hc
  refine wl_callF (mosaicref14_Check.calls _ _ _ _ _ _ h) enter40 rfl trivial so ?_; intro x3 w4 h so
  obtain ⟨q5, h⟩ := h
  replace t_b1 := pv_bk q5 t_b1 (by simp)
  refine wl_val (at_assign rfl) rfl ?_
  refine wl_nil ?_
  refine wk_prune [(1, .slice a1.a a1.n a1.c), (2, .pointer (some (⟨b1, 0, none⟩ : Addr))), (5, .int .i64 x3)] ⟨rfl, rfl, rfl, trivial⟩ (fun f1 => ?_)
  refine wk_then ?_
  refine wc_seq ?_
  refine wc_seq ?_
  refine wc_region ?_
  refine wl_val (at_move rfl) rfl ?_
  refine wl_val (at_neq rfl rfl) rfl ?_
  refine wl_nil ?_
  refine wk_prune [(1, .slice a1.a a1.n a1.c), (2, .pointer (some (⟨b1, 0, none⟩ : Addr))), (5, .int .i64 x3), (12, .bool (x3 != 0))] ⟨rfl, rfl, rfl, rfl, trivial⟩ (fun f1 => ?_)
  refine wk_then ?_
  refine wc_cond rfl h (fun h => ?_) (fun h => ?_)
  · refine wc_seq ?_
    refine wc_region ?_
    refine wl_val (at_move rfl) rfl ?_
    refine wl_val (at_assign rfl) rfl ?_
    refine wl_nil ?_
    refine wk_prune [(4, .int .i64 x3)] ⟨rfl, trivial⟩ (fun f1 => ?_)
    refine wk_then ?_
    refine wc_ret ?_
    refine wk_thenR ?_
    exact wk_ret1 (x := x3) rfl (by decide) rfl so h
  · refine wc_skip ?_
    refine wk_prune [(1, .slice a1.a a1.n a1.c), (2, .pointer (some (⟨b1, 0, none⟩ : Addr)))] ⟨rfl, rfl, trivial⟩ (fun f1 => ?_)
    refine wk_then ?_
    refine wc_seq ?_
    refine wc_seq ?_
    refine wc_joinG (w0 := w0) (fun (H : Hp) => Bk H b1 24 (c24 a0_0 a0_1 a0_2 a0_3) ∧ True) (fun (s7 : Bool) => [(1, .slice a1.a a1.n a1.c), (2, .pointer (some (⟨b1, 0, none⟩ : Addr))), (21, .bool s7)]) (fun (s7 : Bool) => []) h ?_ ?_
    · rintro s7 w8 f1 h ⟨t_b1, _⟩ so; refine wk_then ?_
      refine wc_cond rfl h (fun h => ?_) (fun h => ?_)
      · refine wc_seq ?_
        refine wc_region ?_
        refine wl_val (at_assign rfl) rfl ?_
        refine wl_nil ?_
        refine wk_prune [(4, .int .i64 143)] ⟨rfl, trivial⟩ (fun f1 => ?_)
        refine wk_then ?_
        refine wc_ret ?_
        refine wk_thenR ?_
        exact wk_ret1 (x := 143) rfl (by decide) rfl so h
      · refine wc_skip ?_
        refine wk_prune [(1, .slice a1.a a1.n a1.c), (2, .pointer (some (⟨b1, 0, none⟩ : Addr)))] ⟨rfl, rfl, trivial⟩ (fun f1 => ?_)
        refine wk_then ?_
        refine wc_seq ?_
        refine wc_region ?_
        refine wl_val (at_assign rfl) rfl ?_
        refine wl_nil ?_
        refine wk_prune [(1, .slice a1.a a1.n a1.c), (2, .pointer (some (⟨b1, 0, none⟩ : Addr))), (6, .int .i64 0)] ⟨rfl, rfl, rfl, trivial⟩ (fun f1 => ?_)
        refine wk_then ?_
        refine wc_seq ?_
        refine wc_seq ?_
        refine wc_region ?_
        refine wl_val (at_assign rfl) rfl ?_
        refine wl_nil ?_
        refine wk_prune [(1, .slice a1.a a1.n a1.c), (2, .pointer (some (⟨b1, 0, none⟩ : Addr))), (6, .int .i64 0), (7, .int .i64 0)] ⟨rfl, rfl, rfl, rfl, trivial⟩ (fun f1 => ?_)
        refine wk_then ?_
        refine wc_block ?_
        obtain ⟨k9, h⟩ := h
        refine wc_loop (fun k a w => ∃ (s11 : Int × Int) (f1 : Nat → Value), a = ac 94 (en f1 [(1, .slice a1.a a1.n a1.c), (2, .pointer (some (⟨b1, 0, none⟩ : Addr))), (6, .int .i64 s11.1), (7, .int .i64 s11.2)]) [] ∧ Sm w0 w ∧ (Bk w.heap b1 24 (c24 a0_0 a0_1 a0_2 a0_3) ∧ True) ∧ Fix _ k s11 w.heap) k9 ⟨(0, 0), _, ac_again ⟨rfl, rfl, rfl, rfl, trivial⟩, so, ⟨t_b1, trivial⟩, h⟩ ?_
        rintro k10 a13 w12 ⟨s11, f1, rfl, so, ⟨t_b1, _⟩, h⟩
        rcases k10 with _ | k10
        · exact h.elim
        replace h := Fix.un h; refine wc_in ?_
        refine wc_seq ?_
        refine wc_seq ?_
        refine wc_region ?_
        refine wl_val (at_move rfl) rfl ?_
        refine wl_val (at_move rfl) rfl ?_
        refine wl_val (at_lenL Try.underlying25 rfl) rfl ?_
        refine wl_val (at_lss rfl rfl) rfl ?_
        refine wl_nil ?_
        refine wk_prune [(1, .slice a1.a a1.n a1.c), (2, .pointer (some (⟨b1, 0, none⟩ : Addr))), (6, .int .i64 s11.1), (7, .int .i64 s11.2), (25, .bool (decide (s11.2 < (a1.n : Int))))] ⟨rfl, rfl, rfl, rfl, rfl, trivial⟩ (fun f1 => ?_)
        refine wk_then ?_
        refine wc_cond rfl h (fun h => ?_) (fun h => ?_)
        · refine wc_skip ?_
          refine wk_prune [(1, .slice a1.a a1.n a1.c), (2, .pointer (some (⟨b1, 0, none⟩ : Addr))), (6, .int .i64 s11.1), (7, .int .i64 s11.2)] ⟨rfl, rfl, rfl, rfl, trivial⟩ (fun f1 => ?_)
          refine wk_then ?_
          refine wc_seq ?_
          refine wc_block ?_
          refine wc_seq ?_
          refine wc_region ?_
          refine wl_val (at_move rfl) rfl ?_
          refine wl_val (at_move rfl) rfl ?_
          obtain ⟨q15, q16, p17, q18, h⟩ := h
          refine wl_val (at_ixAddrL Try.underlying25 sz67 (sl_some q18) rfl q15 q16) rfl ?_
          obtain ⟨x19, x20, x21, q22, h⟩ := h
          refine wl_val (at_loadA (cs := (c67 x19 x20 x21)) Try.underlying67 rfl (by rw [len67]; exact sz67) rfl q22) rfl ?_
          refine wl_newT (T := 67) (cs := (c67 0 0 0)) (ef_alloc zero67 rfl) rfl so ?_; intro b23 w24 hb_b23 t_b23 k_b23 so
          have g_b23 := Nat.le_of_eq hb_b23.symm
          have hc := k_b23.ch (F := [])
          have n_b1_b23 : b1 ≠ b23 := fun e => by have := t_b1.lt; omega
          replace t_b1 := t_b1.keep k_b23
          refine wl_stWT (vs := (c67 x19 x20 x21)) t_b23 (by first | (rw [len67, len67]) | (rw [len67]) | rfl) rfl so (fun q => ef_storeA (p := (⟨b23, 0, none⟩ : Addr)) (cs := (c67 x19 x20 x21)) (by rw [len67]; exact sz67) rfl rfl (one67 _ _ _) q) ?_; intro w25 t_b23 s_w25 so
          replace t_b1 := t_b1.same s_w25 (n_b1_b23)
          replace hc := ch_same hc s_w25 (.inr g_b23)
          refine wl_nil ?_
          refine wk_prune [(1, .slice a1.a a1.n a1.c), (2, .pointer (some (⟨b1, 0, none⟩ : Addr))), (6, .int .i64 s11.1), (7, .int .i64 s11.2), (8, .pointer (some (⟨b23, 0, none⟩ : Addr)))] ⟨rfl, rfl, rfl, rfl, rfl, trivial⟩ (fun f1 => ?_)
          refine wk_then ?_
          refine wc_seq ?_
          replace h := h b23 _ hc g_b23 t_b23.lt; clear hc
          refine wc_seq ?_
          refine wc_joinG (w0 := w0) (fun (H : Hp) => Bk H b1 24 (c24 a0_0 a0_1 a0_2 a0_3) ∧ Bk H b23 67 (c67 x19 x20 x21) ∧ True) (fun (s27 : Bool) => [(1, .slice a1.a a1.n a1.c), (2, .pointer (some (⟨b1, 0, none⟩ : Addr))), (6, .int .i64 s11.1), (7, .int .i64 s11.2), (8, .pointer (some (⟨b23, 0, none⟩ : Addr))), (67, .bool s27)]) (fun (s27 : Bool) => []) h ?_ ?_
          · rintro s27 w28 f1 h ⟨t_b1, t_b23, _⟩ so; refine wk_then ?_
            refine wc_cond rfl h (fun h => ?_) (fun h => ?_)
            · refine wc_seq ?_
              refine wc_region ?_
              refine wl_val (at_assign rfl) rfl ?_
              refine wl_nil ?_
              refine wk_prune [(4, .int .i64 143)] ⟨rfl, trivial⟩ (fun f1 => ?_)
              refine wk_then ?_
              refine wc_ret ?_
              refine wk_thenR ?_
              refine wk_blkR ?_
              refine wk_thenR ?_
              refine wk_thenR ?_
              refine wk_blkR ?_
              refine wk_thenR ?_
              exact wk_ret1 (x := 143) rfl (by decide) rfl so h
            · refine wc_skip ?_
              refine wk_prune [(1, .slice a1.a a1.n a1.c), (2, .pointer (some (⟨b1, 0, none⟩ : Addr))), (6, .int .i64 s11.1), (7, .int .i64 s11.2), (8, .pointer (some (⟨b23, 0, none⟩ : Addr)))] ⟨rfl, rfl, rfl, rfl, rfl, trivial⟩ (fun f1 => ?_)
              refine wk_then ?_
              refine wc_draw mixed (by kernel_rfl) so ?_
              refine wq_val (at_move rfl) rfl ?_
              refine wq_val (at_fieldAddr Try.underlying24 rfl rfl sz22 (by decide) rfl) rfl ?_
              refine wq_val (at_load (v := .slice a0_3.a a0_3.n a0_3.c) Try.underlying22 rfl rfl ((t_b1.cell 3).trans (by first | rfl | simp [List.getElem?_append, ints_len, bools_len]))) rfl ?_
              refine wq_val (at_fieldAddr Try.underlying67 rfl rfl sz3 (by decide) rfl) rfl ?_
              refine wq_val (at_load (v := .int .i64 x19) Try.underlying3 rfl rfl ((t_b23.cell 0).trans (by first | rfl | simp [List.getElem?_append, ints_len, bools_len]))) rfl ?_
              obtain ⟨q29, q30, p31, q32, h⟩ := h
              refine wq_val (at_ixAddrL Try.underlying22 sz98 (sl_some q32) rfl q29 q30) rfl ?_
              refine wq_val (at_fieldAddr Try.underlying98 rfl rfl sz5 (by decide) rfl) rfl ?_
              obtain ⟨x33, q34, h⟩ := h
              refine wq_val (at_load Try.underlying5 rfl rfl q34) rfl ?_
              refine wq_val (at_conv Try.underlying5 Try.underlying3 rfl) rfl ?_
              refine wq_val (at_fieldAddr Try.underlying24 rfl rfl sz22 (by decide) rfl) rfl ?_
              refine wq_val (at_load (v := .slice a0_3.a a0_3.n a0_3.c) Try.underlying22 rfl rfl ((t_b1.cell 3).trans (by first | rfl | simp [List.getElem?_append, ints_len, bools_len]))) rfl ?_
              refine wq_val (at_fieldAddr Try.underlying67 rfl rfl sz3 (by decide) rfl) rfl ?_
              refine wq_val (at_load (v := .int .i64 x19) Try.underlying3 rfl rfl ((t_b23.cell 0).trans (by first | rfl | simp [List.getElem?_append, ints_len, bools_len]))) rfl ?_
              obtain ⟨q35, q36, h⟩ := h
              refine wq_val (at_ixAddrL Try.underlying22 sz98 (sl_some q32) rfl q35 q36) rfl ?_
              refine wq_val (at_fieldAddr Try.underlying98 rfl rfl sz5 (by decide) rfl) rfl ?_
              obtain ⟨x37, q38, h⟩ := h
              refine wq_val (at_load Try.underlying5 rfl rfl q38) rfl ?_
              refine wq_val (at_conv Try.underlying5 Try.underlying3 rfl) rfl ?_
              refine wq_val (at_mul rfl rfl) rfl ?_
              refine wq_val (at_add rfl rfl) rfl ?_
              refine wq_val (at_assign rfl) rfl ?_
              refine wq_nil ?_; intro w39 hw so; rw [← hw] at h t_b1 t_b23; clear hw
              refine wk_blkN ?_
              refine wk_prune [(1, .slice a1.a a1.n a1.c), (2, .pointer (some (⟨b1, 0, none⟩ : Addr))), (6, .int .i64 (IntKind.wrap .i64 (s11.1 + (IntKind.wrap .i64 ((IntKind.wrap .i64 x33) * (IntKind.wrap .i64 x37)))))), (7, .int .i64 s11.2)] ⟨rfl, rfl, rfl, rfl, trivial⟩ (fun f1 => ?_)
              refine wk_then ?_
              refine wc_region ?_
              refine wl_val (at_move rfl) rfl ?_
              refine wl_val (at_add rfl rfl) rfl ?_
              refine wl_val (at_assign rfl) rfl ?_
              refine wl_nil ?_
              exact wk_again ⟨((IntKind.wrap .i64 (s11.1 + (IntKind.wrap .i64 ((IntKind.wrap .i64 x33) * (IntKind.wrap .i64 x37))))), (IntKind.wrap .i64 (s11.2 + 1))), _, ac_again ⟨rfl, rfl, rfl, rfl, trivial⟩, so, ⟨t_b1, trivial⟩, h⟩
          · intro J26 h hJ26
            refine wc_wo [0, 1, 3, 7, 15, 31, 15, 79, 207, 511, 1023, 2047, 4095, 8191, 16383, 32767, 65535, 32767, 32767, 294911, 950271, 1998847, 4095999, 8388607, 16777215, 33554431, 67108863, 134217727, 268435455, 536870911, 1073741823, 2147483647, 4294967295, 8589934591, 17179869183, 34359738367] mixed (by kernel_rfl) so ?_; intro w40 hw so; rw [← hw] at h t_b1 t_b23; clear hw
            refine wo_pure (m' := 1) 0 rfl (by kernel_rfl) rfl rfl (fun H => at_fieldAddr Try.underlying67 rfl rfl sz3 (by decide) rfl) ?_
            have q41 : cellAt w40.heap (⟨b23, 0, none⟩ : Addr) = some (.int .i64 x19) := (t_b23.cell 0).trans (by first | rfl | simp [List.getElem?_append, ints_len, bools_len])
            refine wo_load (m' := 3) 1 (fun H => cellAt H (⟨b23, 0, none⟩ : Addr) = some (.int .i64 x19)) rfl (by kernel_rfl) rfl rfl (fun H q41 => at_load (v := .int .i64 x19) Try.underlying3 rfl rfl (q41)) q41 ?_
            refine wo_pure (m' := 7) 2 rfl (by kernel_rfl) rfl rfl (fun H => at_lss rfl rfl) ?_
            refine wo_pure (m' := 15) 3 rfl (by kernel_rfl) rfl rfl (fun H => at_move rfl) ?_
            refine bif_ h (fun hb h => ?_) (fun hb h => ?_)
            · refine wo_set (t := 35) (v := .bool true) (congrArg Value.bool hb) ?_; clear hb
              refine wo_off (m' := 31) 4 rfl (by kernel_rfl) rfl (t := 35) rfl (by decide) rfl ?_
              refine wo_off (m' := 63) 5 rfl (by kernel_rfl) rfl (t := 35) rfl (by decide) rfl ?_
              refine wo_off (m' := 127) 6 rfl (by kernel_rfl) rfl (t := 35) rfl (by decide) rfl ?_
              refine wo_off (m' := 255) 7 rfl (by kernel_rfl) rfl (t := 35) rfl (by decide) rfl ?_
              refine wo_off (m' := 511) 8 rfl (by kernel_rfl) rfl (t := 35) rfl (by decide) rfl ?_
              refine wo_off (m' := 1023) 9 rfl (by kernel_rfl) rfl (t := 35) rfl (by decide) rfl ?_
              refine wo_pure (m' := 2047) 10 rfl (by kernel_rfl) rfl rfl (fun H => at_pick_t rfl rfl) ?_
              refine wo_pure (m' := 4095) 11 rfl (by kernel_rfl) rfl rfl (fun H => at_move rfl) ?_
              refine wo_off (m' := 8191) 12 rfl (by kernel_rfl) rfl (t := 43) rfl (by decide) rfl ?_
              refine wo_off (m' := 16383) 13 rfl (by kernel_rfl) rfl (t := 43) rfl (by decide) rfl ?_
              refine wo_off (m' := 32767) 14 rfl (by kernel_rfl) rfl (t := 43) rfl (by decide) rfl ?_
              refine wo_off' (m' := 65535) 15 rfl (by kernel_rfl) rfl (t := 46) rfl (by decide) rfl ?_
              refine wo_off' (m' := 131071) 16 rfl (by kernel_rfl) rfl (t := 46) rfl (by decide) rfl ?_
              refine wo_off' (m' := 262143) 17 rfl (by kernel_rfl) rfl (t := 46) rfl (by decide) rfl ?_
              refine wo_off' (m' := 524287) 18 rfl (by kernel_rfl) rfl (t := 46) rfl (by decide) rfl ?_
              refine wo_off' (m' := 1048575) 19 rfl (by kernel_rfl) rfl (t := 46) rfl (by decide) rfl ?_
              refine wo_off' (m' := 2097151) 20 rfl (by kernel_rfl) rfl (t := 46) rfl (by decide) rfl ?_
              refine wo_off' (m' := 4194303) 21 rfl (by kernel_rfl) rfl (t := 46) rfl (by decide) rfl ?_
              refine wo_off' (m' := 8388607) 22 rfl (by kernel_rfl) rfl (t := 46) rfl (by decide) rfl ?_
              refine wo_off' (m' := 16777215) 23 rfl (by kernel_rfl) rfl (t := 46) rfl (by decide) rfl ?_
              refine wo_off (m' := 33554431) 24 rfl (by kernel_rfl) rfl (t := 43) rfl (by decide) rfl ?_
              refine wo_pure (m' := 67108863) 25 rfl (by kernel_rfl) rfl rfl (fun H => at_pick_t rfl rfl) ?_
              refine wo_pure (m' := 134217727) 26 rfl (by kernel_rfl) rfl rfl (fun H => at_move rfl) ?_
              refine wo_off (m' := 268435455) 27 rfl (by kernel_rfl) rfl (t := 58) rfl (by decide) rfl ?_
              refine wo_off (m' := 536870911) 28 rfl (by kernel_rfl) rfl (t := 58) rfl (by decide) rfl ?_
              refine wo_off (m' := 1073741823) 29 rfl (by kernel_rfl) rfl (t := 58) rfl (by decide) rfl ?_
              refine wo_pure (m' := 2147483647) 30 rfl (by kernel_rfl) rfl rfl (fun H => at_pick_t rfl rfl) ?_
              refine wo_pure (m' := 4294967295) 31 rfl (by kernel_rfl) rfl rfl (fun H => at_move rfl) ?_
              refine wo_off (m' := 8589934591) 32 rfl (by kernel_rfl) rfl (t := 63) rfl (by decide) rfl ?_
              refine wo_off (m' := 17179869183) 33 rfl (by kernel_rfl) rfl (t := 63) rfl (by decide) rfl ?_
              refine wo_off (m' := 34359738367) 34 rfl (by kernel_rfl) rfl (t := 63) rfl (by decide) rfl ?_
              refine wo_pure (m' := 68719476735) 35 rfl (by kernel_rfl) rfl rfl (fun H => at_pick_t rfl rfl) ?_
              refine wo_done (by kernel_rfl) ?_
              exact wk_prune [(1, .slice a1.a a1.n a1.c), (2, .pointer (some (⟨b1, 0, none⟩ : Addr))), (6, .int .i64 s11.1), (7, .int .i64 s11.2), (8, .pointer (some (⟨b23, 0, none⟩ : Addr))), (67, .bool true)] ⟨rfl, rfl, rfl, rfl, rfl, rfl, trivial⟩ (fun f1 => hJ26 (true) _ f1 h ⟨t_b1, t_b23, trivial⟩ so)
            · refine wo_set (t := 35) (v := .bool false) (congrArg Value.bool hb) ?_; clear hb
              refine wo_pureG (m' := 31) 4 rfl (by kernel_rfl) rfl (t := 35) rfl (by decide) rfl (fun H => at_fieldAddr Try.underlying67 rfl rfl sz3 (by decide) rfl) ?_
              refine wo_pureG (m' := 95) 6 rfl (by kernel_rfl) rfl (t := 35) rfl (by decide) rfl (fun H => at_fieldAddr Try.underlying24 rfl rfl sz22 (by decide) rfl) ?_
              have q42 : cellAt w40.heap (⟨b23, 0, none⟩ : Addr) = some (.int .i64 x19) := (t_b23.cell 0).trans (by first | rfl | simp [List.getElem?_append, ints_len, bools_len])
              refine wo_loadG (m' := 127) 5 (fun H => cellAt H (⟨b23, 0, none⟩ : Addr) = some (.int .i64 x19)) rfl (by kernel_rfl) rfl (t := 35) rfl (by decide) rfl (fun H q42 => at_load (v := .int .i64 x19) Try.underlying3 rfl rfl (q42)) q42 ?_
              have q43 : cellAt w40.heap (⟨b1, 3, none⟩ : Addr) = some (.slice a0_3.a a0_3.n a0_3.c) := (t_b1.cell 3).trans (by first | rfl | simp [List.getElem?_append, ints_len, bools_len])
              refine wo_loadG (m' := 255) 7 (fun H => cellAt H (⟨b1, 3, none⟩ : Addr) = some (.slice a0_3.a a0_3.n a0_3.c)) rfl (by kernel_rfl) rfl (t := 35) rfl (by decide) rfl (fun H q43 => at_load (v := .slice a0_3.a a0_3.n a0_3.c) Try.underlying22 rfl rfl (q43)) q43 ?_
              refine wo_pureG (m' := 511) 8 rfl (by kernel_rfl) rfl (t := 35) rfl (by decide) rfl (fun H => at_lenL Try.underlying22 rfl) ?_
              refine wo_pureG (m' := 1023) 9 rfl (by kernel_rfl) rfl (t := 35) rfl (by decide) rfl (fun H => at_geq rfl rfl) ?_
              refine wo_pure (m' := 2047) 10 rfl (by kernel_rfl) rfl rfl (fun H => at_pick_f rfl rfl) ?_
              refine wo_pure (m' := 4095) 11 rfl (by kernel_rfl) rfl rfl (fun H => at_move rfl) ?_
              refine bif_ h (fun hb h => ?_) (fun hb h => ?_)
              · refine wo_set (t := 43) (v := .bool true) (congrArg Value.bool hb) ?_; clear hb
                refine wo_off (m' := 8191) 12 rfl (by kernel_rfl) rfl (t := 43) rfl (by decide) rfl ?_
                refine wo_off (m' := 16383) 13 rfl (by kernel_rfl) rfl (t := 43) rfl (by decide) rfl ?_
                refine wo_off (m' := 32767) 14 rfl (by kernel_rfl) rfl (t := 43) rfl (by decide) rfl ?_
                refine wo_off' (m' := 65535) 15 rfl (by kernel_rfl) rfl (t := 46) rfl (by decide) rfl ?_
                refine wo_off' (m' := 131071) 16 rfl (by kernel_rfl) rfl (t := 46) rfl (by decide) rfl ?_
                refine wo_off' (m' := 262143) 17 rfl (by kernel_rfl) rfl (t := 46) rfl (by decide) rfl ?_
                refine wo_off' (m' := 524287) 18 rfl (by kernel_rfl) rfl (t := 46) rfl (by decide) rfl ?_
                refine wo_off' (m' := 1048575) 19 rfl (by kernel_rfl) rfl (t := 46) rfl (by decide) rfl ?_
                refine wo_off' (m' := 2097151) 20 rfl (by kernel_rfl) rfl (t := 46) rfl (by decide) rfl ?_
                refine wo_off' (m' := 4194303) 21 rfl (by kernel_rfl) rfl (t := 46) rfl (by decide) rfl ?_
                refine wo_off' (m' := 8388607) 22 rfl (by kernel_rfl) rfl (t := 46) rfl (by decide) rfl ?_
                refine wo_off' (m' := 16777215) 23 rfl (by kernel_rfl) rfl (t := 46) rfl (by decide) rfl ?_
                refine wo_off (m' := 33554431) 24 rfl (by kernel_rfl) rfl (t := 43) rfl (by decide) rfl ?_
                refine wo_pure (m' := 67108863) 25 rfl (by kernel_rfl) rfl rfl (fun H => at_pick_t rfl rfl) ?_
                refine wo_pure (m' := 134217727) 26 rfl (by kernel_rfl) rfl rfl (fun H => at_move rfl) ?_
                refine wo_off (m' := 268435455) 27 rfl (by kernel_rfl) rfl (t := 58) rfl (by decide) rfl ?_
                refine wo_off (m' := 536870911) 28 rfl (by kernel_rfl) rfl (t := 58) rfl (by decide) rfl ?_
                refine wo_off (m' := 1073741823) 29 rfl (by kernel_rfl) rfl (t := 58) rfl (by decide) rfl ?_
                refine wo_pure (m' := 2147483647) 30 rfl (by kernel_rfl) rfl rfl (fun H => at_pick_t rfl rfl) ?_
                refine wo_pure (m' := 4294967295) 31 rfl (by kernel_rfl) rfl rfl (fun H => at_move rfl) ?_
                refine wo_off (m' := 8589934591) 32 rfl (by kernel_rfl) rfl (t := 63) rfl (by decide) rfl ?_
                refine wo_off (m' := 17179869183) 33 rfl (by kernel_rfl) rfl (t := 63) rfl (by decide) rfl ?_
                refine wo_off (m' := 34359738367) 34 rfl (by kernel_rfl) rfl (t := 63) rfl (by decide) rfl ?_
                refine wo_pure (m' := 68719476735) 35 rfl (by kernel_rfl) rfl rfl (fun H => at_pick_t rfl rfl) ?_
                refine wo_done (by kernel_rfl) ?_
                exact wk_prune [(1, .slice a1.a a1.n a1.c), (2, .pointer (some (⟨b1, 0, none⟩ : Addr))), (6, .int .i64 s11.1), (7, .int .i64 s11.2), (8, .pointer (some (⟨b23, 0, none⟩ : Addr))), (67, .bool true)] ⟨rfl, rfl, rfl, rfl, rfl, rfl, trivial⟩ (fun f1 => hJ26 (true) _ f1 h ⟨t_b1, t_b23, trivial⟩ so)
              · refine wo_set (t := 43) (v := .bool false) (congrArg Value.bool hb) ?_; clear hb
                refine wo_pureG (m' := 8191) 12 rfl (by kernel_rfl) rfl (t := 43) rfl (by decide) rfl (fun H => at_move rfl) ?_
                refine wo_pureG (m' := 16383) 13 rfl (by kernel_rfl) rfl (t := 43) rfl (by decide) rfl (fun H => at_gtr rfl rfl) ?_
                refine wo_pureG (m' := 32767) 14 rfl (by kernel_rfl) rfl (t := 43) rfl (by decide) rfl (fun H => at_move rfl) ?_
                refine bif_ h (fun hb h => ?_) (fun hb h => ?_)
                · refine wo_set (t := 46) (v := .bool true) (congrArg Value.bool hb) ?_; clear hb
                  refine wo_pureG (m' := 65535) 15 rfl (by kernel_rfl) rfl (t := 46) rfl (by decide) rfl (fun H => at_fieldAddr Try.underlying67 rfl rfl sz3 (by decide) rfl) ?_
                  refine wo_pureG (m' := 196607) 17 rfl (by kernel_rfl) rfl (t := 46) rfl (by decide) rfl (fun H => at_move rfl) ?_
                  refine wo_pureG (m' := 458751) 18 rfl (by kernel_rfl) rfl (t := 46) rfl (by decide) rfl (fun H => at_move rfl) ?_
                  refine wo_pureG (m' := 983039) 19 rfl (by kernel_rfl) rfl (t := 46) rfl (by decide) rfl (fun H => at_sub rfl rfl) ?_
                  obtain ⟨q44, q45, h⟩ := h
                  refine wo_pureG (m' := 2031615) 20 rfl (by kernel_rfl) rfl (t := 46) rfl (by decide) rfl (fun H => at_ixAddrL Try.underlying25 sz67 (sl_some q18) rfl q44 q45) ?_
                  refine wo_pureG (m' := 4128767) 21 rfl (by kernel_rfl) rfl (t := 46) rfl (by decide) rfl (fun H => at_fieldAddr Try.underlying67 rfl rfl sz3 (by decide) rfl) ?_
                  have q46 : cellAt w40.heap (⟨b23, 0, none⟩ : Addr) = some (.int .i64 x19) := (t_b23.cell 0).trans (by first | rfl | simp [List.getElem?_append, ints_len, bools_len])
                  refine wo_loadG (m' := 4194303) 16 (fun H => cellAt H (⟨b23, 0, none⟩ : Addr) = some (.int .i64 x19)) rfl (by kernel_rfl) rfl (t := 46) rfl (by decide) rfl (fun H q46 => at_load (v := .int .i64 x19) Try.underlying3 rfl rfl (q46)) q46 ?_
                  obtain ⟨x47, q48, h⟩ := h
                  refine wo_loadG (m' := 8388607) 22 (fun H => cellAt H ((p17.add (Int.toNat (IntKind.wrap .i64 (s11.2 - 1)) * 3)).add 0) = some (.int .i64 x47)) rfl (by kernel_rfl) rfl (t := 46) rfl (by decide) rfl (fun H q48 => at_load Try.underlying3 rfl rfl q48) q48 ?_
                  refine wo_pureG (m' := 16777215) 23 rfl (by kernel_rfl) rfl (t := 46) rfl (by decide) rfl (fun H => at_leq rfl rfl) ?_
                  refine wo_pureG (m' := 33554431) 24 rfl (by kernel_rfl) rfl (t := 43) rfl (by decide) rfl (fun H => at_pick_t rfl rfl) ?_
                  refine wo_pure (m' := 67108863) 25 rfl (by kernel_rfl) rfl rfl (fun H => at_pick_f rfl rfl) ?_
                  refine wo_pure (m' := 134217727) 26 rfl (by kernel_rfl) rfl rfl (fun H => at_move rfl) ?_
                  refine bif_ h (fun hb h => ?_) (fun hb h => ?_)
                  · refine wo_set (t := 58) (v := .bool true) (congrArg Value.bool hb) ?_; clear hb
                    refine wo_off (m' := 268435455) 27 rfl (by kernel_rfl) rfl (t := 58) rfl (by decide) rfl ?_
                    refine wo_off (m' := 536870911) 28 rfl (by kernel_rfl) rfl (t := 58) rfl (by decide) rfl ?_
                    refine wo_off (m' := 1073741823) 29 rfl (by kernel_rfl) rfl (t := 58) rfl (by decide) rfl ?_
                    refine wo_pure (m' := 2147483647) 30 rfl (by kernel_rfl) rfl rfl (fun H => at_pick_t rfl rfl) ?_
                    refine wo_pure (m' := 4294967295) 31 rfl (by kernel_rfl) rfl rfl (fun H => at_move rfl) ?_
                    refine wo_off (m' := 8589934591) 32 rfl (by kernel_rfl) rfl (t := 63) rfl (by decide) rfl ?_
                    refine wo_off (m' := 17179869183) 33 rfl (by kernel_rfl) rfl (t := 63) rfl (by decide) rfl ?_
                    refine wo_off (m' := 34359738367) 34 rfl (by kernel_rfl) rfl (t := 63) rfl (by decide) rfl ?_
                    refine wo_pure (m' := 68719476735) 35 rfl (by kernel_rfl) rfl rfl (fun H => at_pick_t rfl rfl) ?_
                    refine wo_done (by kernel_rfl) ?_
                    exact wk_prune [(1, .slice a1.a a1.n a1.c), (2, .pointer (some (⟨b1, 0, none⟩ : Addr))), (6, .int .i64 s11.1), (7, .int .i64 s11.2), (8, .pointer (some (⟨b23, 0, none⟩ : Addr))), (67, .bool true)] ⟨rfl, rfl, rfl, rfl, rfl, rfl, trivial⟩ (fun f1 => hJ26 (true) _ f1 h ⟨t_b1, t_b23, trivial⟩ so)
                  · refine wo_set (t := 58) (v := .bool false) (congrArg Value.bool hb) ?_; clear hb
                    refine wo_pureG (m' := 268435455) 27 rfl (by kernel_rfl) rfl (t := 58) rfl (by decide) rfl (fun H => at_fieldAddr Try.underlying67 rfl rfl sz5 (by decide) rfl) ?_
                    have q49 : cellAt w40.heap (⟨b23, 1, none⟩ : Addr) = some (.int .u8 x20) := (t_b23.cell 1).trans (by first | rfl | simp [List.getElem?_append, ints_len, bools_len])
                    refine wo_loadG (m' := 536870911) 28 (fun H => cellAt H (⟨b23, 1, none⟩ : Addr) = some (.int .u8 x20)) rfl (by kernel_rfl) rfl (t := 58) rfl (by decide) rfl (fun H q49 => at_load (v := .int .u8 x20) Try.underlying5 rfl rfl (q49)) q49 ?_
                    refine wo_pureG (m' := 1073741823) 29 rfl (by kernel_rfl) rfl (t := 58) rfl (by decide) rfl (fun H => at_gtr rfl rfl) ?_
                    refine wo_pure (m' := 2147483647) 30 rfl (by kernel_rfl) rfl rfl (fun H => at_pick_f rfl rfl) ?_
                    refine wo_pure (m' := 4294967295) 31 rfl (by kernel_rfl) rfl rfl (fun H => at_move rfl) ?_
                    refine bif_ h (fun hb h => ?_) (fun hb h => ?_)
                    · refine wo_set (t := 63) (v := .bool true) (congrArg Value.bool hb) ?_; clear hb
                      refine wo_off (m' := 8589934591) 32 rfl (by kernel_rfl) rfl (t := 63) rfl (by decide) rfl ?_
                      refine wo_off (m' := 17179869183) 33 rfl (by kernel_rfl) rfl (t := 63) rfl (by decide) rfl ?_
                      refine wo_off (m' := 34359738367) 34 rfl (by kernel_rfl) rfl (t := 63) rfl (by decide) rfl ?_
                      refine wo_pure (m' := 68719476735) 35 rfl (by kernel_rfl) rfl rfl (fun H => at_pick_t rfl rfl) ?_
                      refine wo_done (by kernel_rfl) ?_
                      exact wk_prune [(1, .slice a1.a a1.n a1.c), (2, .pointer (some (⟨b1, 0, none⟩ : Addr))), (6, .int .i64 s11.1), (7, .int .i64 s11.2), (8, .pointer (some (⟨b23, 0, none⟩ : Addr))), (67, .bool true)] ⟨rfl, rfl, rfl, rfl, rfl, rfl, trivial⟩ (fun f1 => hJ26 (true) _ f1 h ⟨t_b1, t_b23, trivial⟩ so)
                    · refine wo_set (t := 63) (v := .bool false) (congrArg Value.bool hb) ?_; clear hb
                      refine wo_pureG (m' := 8589934591) 32 rfl (by kernel_rfl) rfl (t := 63) rfl (by decide) rfl (fun H => at_fieldAddr Try.underlying67 rfl rfl sz5 (by decide) rfl) ?_
                      have q50 : cellAt w40.heap (⟨b23, 2, none⟩ : Addr) = some (.int .u8 x21) := (t_b23.cell 2).trans (by first | rfl | simp [List.getElem?_append, ints_len, bools_len])
                      refine wo_loadG (m' := 17179869183) 33 (fun H => cellAt H (⟨b23, 2, none⟩ : Addr) = some (.int .u8 x21)) rfl (by kernel_rfl) rfl (t := 63) rfl (by decide) rfl (fun H q50 => at_load (v := .int .u8 x21) Try.underlying5 rfl rfl (q50)) q50 ?_
                      refine wo_pureG (m' := 34359738367) 34 rfl (by kernel_rfl) rfl (t := 63) rfl (by decide) rfl (fun H => at_gtr rfl rfl) ?_
                      refine wo_pure (m' := 68719476735) 35 rfl (by kernel_rfl) rfl rfl (fun H => at_pick_f rfl rfl) ?_
                      refine wo_done (by kernel_rfl) ?_
                      exact wk_prune [(1, .slice a1.a a1.n a1.c), (2, .pointer (some (⟨b1, 0, none⟩ : Addr))), (6, .int .i64 s11.1), (7, .int .i64 s11.2), (8, .pointer (some (⟨b23, 0, none⟩ : Addr))), (67, .bool (decide ((3 : Int) < x21)))] ⟨rfl, rfl, rfl, rfl, rfl, rfl, trivial⟩ (fun f1 => hJ26 ((decide ((3 : Int) < x21))) _ f1 h ⟨t_b1, t_b23, trivial⟩ so)
                · refine wo_set (t := 46) (v := .bool false) (congrArg Value.bool hb) ?_; clear hb
                  refine wo_off (m' := 65535) 15 rfl (by kernel_rfl) rfl (t := 46) rfl (by decide) rfl ?_
                  refine wo_off (m' := 131071) 16 rfl (by kernel_rfl) rfl (t := 46) rfl (by decide) rfl ?_
                  refine wo_off (m' := 262143) 17 rfl (by kernel_rfl) rfl (t := 46) rfl (by decide) rfl ?_
                  refine wo_off (m' := 524287) 18 rfl (by kernel_rfl) rfl (t := 46) rfl (by decide) rfl ?_
                  refine wo_off (m' := 1048575) 19 rfl (by kernel_rfl) rfl (t := 46) rfl (by decide) rfl ?_
                  refine wo_off (m' := 2097151) 20 rfl (by kernel_rfl) rfl (t := 46) rfl (by decide) rfl ?_
                  refine wo_off (m' := 4194303) 21 rfl (by kernel_rfl) rfl (t := 46) rfl (by decide) rfl ?_
                  refine wo_off (m' := 8388607) 22 rfl (by kernel_rfl) rfl (t := 46) rfl (by decide) rfl ?_
                  refine wo_off (m' := 16777215) 23 rfl (by kernel_rfl) rfl (t := 46) rfl (by decide) rfl ?_
                  refine wo_pureG (m' := 33554431) 24 rfl (by kernel_rfl) rfl (t := 43) rfl (by decide) rfl (fun H => at_pick_f rfl rfl) ?_
                  refine wo_pure (m' := 67108863) 25 rfl (by kernel_rfl) rfl rfl (fun H => at_pick_f rfl rfl) ?_
                  refine wo_pure (m' := 134217727) 26 rfl (by kernel_rfl) rfl rfl (fun H => at_move rfl) ?_
                  refine wo_pureG (m' := 268435455) 27 rfl (by kernel_rfl) rfl (t := 58) rfl (by decide) rfl (fun H => at_fieldAddr Try.underlying67 rfl rfl sz5 (by decide) rfl) ?_
                  have q51 : cellAt w40.heap (⟨b23, 1, none⟩ : Addr) = some (.int .u8 x20) := (t_b23.cell 1).trans (by first | rfl | simp [List.getElem?_append, ints_len, bools_len])
                  refine wo_loadG (m' := 536870911) 28 (fun H => cellAt H (⟨b23, 1, none⟩ : Addr) = some (.int .u8 x20)) rfl (by kernel_rfl) rfl (t := 58) rfl (by decide) rfl (fun H q51 => at_load (v := .int .u8 x20) Try.underlying5 rfl rfl (q51)) q51 ?_
                  refine wo_pureG (m' := 1073741823) 29 rfl (by kernel_rfl) rfl (t := 58) rfl (by decide) rfl (fun H => at_gtr rfl rfl) ?_
                  refine wo_pure (m' := 2147483647) 30 rfl (by kernel_rfl) rfl rfl (fun H => at_pick_f rfl rfl) ?_
                  refine wo_pure (m' := 4294967295) 31 rfl (by kernel_rfl) rfl rfl (fun H => at_move rfl) ?_
                  refine bif_ h (fun hb h => ?_) (fun hb h => ?_)
                  · refine wo_set (t := 63) (v := .bool true) (congrArg Value.bool hb) ?_; clear hb
                    refine wo_off (m' := 8589934591) 32 rfl (by kernel_rfl) rfl (t := 63) rfl (by decide) rfl ?_
                    refine wo_off (m' := 17179869183) 33 rfl (by kernel_rfl) rfl (t := 63) rfl (by decide) rfl ?_
                    refine wo_off (m' := 34359738367) 34 rfl (by kernel_rfl) rfl (t := 63) rfl (by decide) rfl ?_
                    refine wo_pure (m' := 68719476735) 35 rfl (by kernel_rfl) rfl rfl (fun H => at_pick_t rfl rfl) ?_
                    refine wo_done (by kernel_rfl) ?_
                    exact wk_prune [(1, .slice a1.a a1.n a1.c), (2, .pointer (some (⟨b1, 0, none⟩ : Addr))), (6, .int .i64 s11.1), (7, .int .i64 s11.2), (8, .pointer (some (⟨b23, 0, none⟩ : Addr))), (67, .bool true)] ⟨rfl, rfl, rfl, rfl, rfl, rfl, trivial⟩ (fun f1 => hJ26 (true) _ f1 h ⟨t_b1, t_b23, trivial⟩ so)
                  · refine wo_set (t := 63) (v := .bool false) (congrArg Value.bool hb) ?_; clear hb
                    refine wo_pureG (m' := 8589934591) 32 rfl (by kernel_rfl) rfl (t := 63) rfl (by decide) rfl (fun H => at_fieldAddr Try.underlying67 rfl rfl sz5 (by decide) rfl) ?_
                    have q52 : cellAt w40.heap (⟨b23, 2, none⟩ : Addr) = some (.int .u8 x21) := (t_b23.cell 2).trans (by first | rfl | simp [List.getElem?_append, ints_len, bools_len])
                    refine wo_loadG (m' := 17179869183) 33 (fun H => cellAt H (⟨b23, 2, none⟩ : Addr) = some (.int .u8 x21)) rfl (by kernel_rfl) rfl (t := 63) rfl (by decide) rfl (fun H q52 => at_load (v := .int .u8 x21) Try.underlying5 rfl rfl (q52)) q52 ?_
                    refine wo_pureG (m' := 34359738367) 34 rfl (by kernel_rfl) rfl (t := 63) rfl (by decide) rfl (fun H => at_gtr rfl rfl) ?_
                    refine wo_pure (m' := 68719476735) 35 rfl (by kernel_rfl) rfl rfl (fun H => at_pick_f rfl rfl) ?_
                    refine wo_done (by kernel_rfl) ?_
                    exact wk_prune [(1, .slice a1.a a1.n a1.c), (2, .pointer (some (⟨b1, 0, none⟩ : Addr))), (6, .int .i64 s11.1), (7, .int .i64 s11.2), (8, .pointer (some (⟨b23, 0, none⟩ : Addr))), (67, .bool (decide ((3 : Int) < x21)))] ⟨rfl, rfl, rfl, rfl, rfl, rfl, trivial⟩ (fun f1 => hJ26 ((decide ((3 : Int) < x21))) _ f1 h ⟨t_b1, t_b23, trivial⟩ so)
        · refine wc_exit ?_
          refine wk_thenE ?_
          refine wk_thenE ?_
          refine wk_blkE ?_
          refine wk_prune [(1, .slice a1.a a1.n a1.c), (6, .int .i64 s11.1)] ⟨rfl, rfl, trivial⟩ (fun f1 => ?_)
          refine wk_then ?_
          refine wc_seq ?_
          refine wc_seq ?_
          refine wc_join (w0 := w0) (fun (s54 : Bool) => [(93, .bool s54)]) h ?_ ?_
          · rintro s54 w55 f1 h so; refine wk_then ?_
            refine wc_cond rfl h (fun h => ?_) (fun h => ?_)
            · refine wc_seq ?_
              refine wc_region ?_
              refine wl_val (at_assign rfl) rfl ?_
              refine wl_nil ?_
              refine wk_prune [(4, .int .i64 143)] ⟨rfl, trivial⟩ (fun f1 => ?_)
              refine wk_then ?_
              refine wc_ret ?_
              refine wk_thenR ?_
              exact wk_ret1 (x := 143) rfl (by decide) rfl so h
            · refine wc_skip ?_
              refine wk_prune [] trivial (fun f1 => ?_)
              refine wk_then ?_
              refine wc_seq ?_
              refine wc_region ?_
              refine wl_val (at_assign rfl) rfl ?_
              refine wl_nil ?_
              refine wk_prune [(4, .int .i64 0)] ⟨rfl, trivial⟩ (fun f1 => ?_)
              refine wk_then ?_
              refine wc_ret ?_
              exact wk_ret1 (x := 0) rfl (by decide) rfl so h
          · intro J53 h hJ53
            refine wc_region ?_
            refine wl_val (at_move rfl) rfl ?_
            refine wl_val (at_lenL Try.underlying25 rfl) rfl ?_
            refine wl_val (at_gtr rfl rfl) rfl ?_
            refine wl_val (at_move rfl) rfl ?_
            refine bif_ h (fun hb h => ?_) (fun hb h => ?_)
            · refine wl_set (t := 90) (v := .bool true) (congrArg Value.bool hb) ?_; clear hb
              refine wl_on (t := 90) rfl (by decide) rfl ?_
              refine wl_val (at_move rfl) rfl ?_
              refine wl_on (t := 90) rfl (by decide) rfl ?_
              refine wl_val (at_gtr rfl rfl) rfl ?_
              refine wl_val (at_pick_t rfl rfl) rfl ?_
              refine wl_nil ?_
              exact wk_prune [(93, .bool (decide ((10 : Int) < s11.1)))] ⟨rfl, trivial⟩ (fun f1 => hJ53 ((decide ((10 : Int) < s11.1))) _ f1 h so)
            · refine wl_set (t := 90) (v := .bool false) (congrArg Value.bool hb) ?_; clear hb
              refine wl_off (t := 90) rfl (by decide) rfl ?_
              refine wl_off (t := 90) rfl (by decide) rfl ?_
              refine wl_val (at_pick_f rfl rfl) rfl ?_
              refine wl_nil ?_
              exact wk_prune [(93, .bool false)] ⟨rfl, trivial⟩ (fun f1 => hJ53 (false) _ f1 h so)
    · intro J6 h hJ6
      refine wc_region ?_
      refine wl_val (at_move rfl) rfl ?_
      refine wl_val (at_lenL Try.underlying25 rfl) rfl ?_
      refine wl_val (at_eql rfl rfl) rfl ?_
      refine wl_val (at_move rfl) rfl ?_
      refine bif_ h (fun hb h => ?_) (fun hb h => ?_)
      · refine wl_set (t := 17) (v := .bool true) (congrArg Value.bool hb) ?_; clear hb
        refine wl_off (t := 17) rfl (by decide) rfl ?_
        refine wl_off (t := 17) rfl (by decide) rfl ?_
        refine wl_off (t := 17) rfl (by decide) rfl ?_
        refine wl_val (at_pick_t rfl rfl) rfl ?_
        refine wl_nil ?_
        exact wk_prune [(1, .slice a1.a a1.n a1.c), (2, .pointer (some (⟨b1, 0, none⟩ : Addr))), (21, .bool true)] ⟨rfl, rfl, rfl, trivial⟩ (fun f1 => hJ6 (true) _ f1 h ⟨t_b1, trivial⟩ so)
      · refine wl_set (t := 17) (v := .bool false) (congrArg Value.bool hb) ?_; clear hb
        refine wl_on (t := 17) rfl (by decide) rfl ?_
        refine wl_val (at_move rfl) rfl ?_
        refine wl_on (t := 17) rfl (by decide) rfl ?_
        refine wl_val (at_lenL Try.underlying25 rfl) rfl ?_
        refine wl_on (t := 17) rfl (by decide) rfl ?_
        refine wl_val (at_gtr rfl rfl) rfl ?_
        refine wl_val (at_pick_f rfl rfl) rfl ?_
        refine wl_nil ?_
        exact wk_prune [(1, .slice a1.a a1.n a1.c), (2, .pointer (some (⟨b1, 0, none⟩ : Addr))), (21, .bool (decide ((4 : Int) < (a1.n : Int))))] ⟨rfl, rfl, rfl, trivial⟩ (fun f1 => hJ6 ((decide ((4 : Int) < (a1.n : Int)))) _ f1 h ⟨t_b1, trivial⟩ so)

/-- mosaic/mosaicref14.Ceil -/
def mosaicref14_Ceil.enc : Int → Value := fun r => .int .i64 r
def mosaicref14_Ceil.s (a0 : Int) (a1 : Int) (H0 : Hp) (Q : Int → Hp → Prop) : Prop :=
  a1 ≠ 0 ∧ (if decide ((IntKind.wrap .i64 ((IntKind.wrap .i64 (Int.tdiv a0 a1)) * a1)) < a0) = true then (Lt ((IntKind.wrap .i64 ((IntKind.wrap .i64 (Int.tdiv a0 a1)) + 1)) : Int) (fun x2 => Q x2 H0)) else (Q (IntKind.wrap .i64 (Int.tdiv a0 a1)) H0))
set_option maxRecDepth 20000 in
set_option maxHeartbeats 4000000 in
theorem mosaicref14_Ceil.calls (a0 : Int) (a1 : Int) (w0 : World) (Q : Int → Hp → Prop) (h : mosaicref14_Ceil.s a0 a1 w0.heap Q) :
    Ca Try.prog 43 #[.int .i64 a0, .int .i64 a1] w0 (Rt mosaicref14_Ceil.enc Q w0) := by
  refine ca_start (c := _) Try.func43 rfl Try.ntmps43 rfl ?_
  have so : Sm w0 w0 := Sm.refl w0
  unfold mosaicref14_Ceil.s at h
  refine wc_prune [(0, .int .i64 a0), (1, .int .i64 a1)] ⟨rfl, rfl, trivial⟩ (fun f1 => ?_)
  refine wc_seq ?_
  refine wc_region ?_
  refine wl_val (at_assign rfl) rfl ?_
  refine wl_nil ?_
  refine wk_prune [(0, .int .i64 a0), (1, .int .i64 a1)] ⟨rfl, rfl, trivial⟩ (fun f1 => ?_)
  refine wk_then ?_
  refine wc_seq ?_
  refine wc_region ?_
  refine wl_val (at_move rfl) rfl ?_
  refine wl_val (at_move rfl) rfl ?_
  obtain ⟨q1, h⟩ := h
  refine wl_val (at_quo rfl rfl q1) rfl ?_
  refine wl_val (at_assign rfl) rfl ?_
  refine wl_nil ?_
  refine wk_prune [(0, .int .i64 a0), (1, .int .i64 a1), (5, .int .i64 (IntKind.wrap .i64 (Int.tdiv a0 a1)))] ⟨rfl, rfl, rfl, trivial⟩ (fun f1 => ?_)
  refine wk_then ?_
  refine wc_seq ?_
  refine wc_seq ?_
  refine wc_region ?_
  refine wl_val (at_move rfl) rfl ?_
  refine wl_val (at_move rfl) rfl ?_
  refine wl_val (at_mul rfl rfl) rfl ?_
  refine wl_val (at_move rfl) rfl ?_
  refine wl_val (at_lss rfl rfl) rfl ?_
  refine wl_nil ?_
  refine wk_prune [(5, .int .i64 (IntKind.wrap .i64 (Int.tdiv a0 a1))), (13, .bool (decide ((IntKind.wrap .i64 ((IntKind.wrap .i64 (Int.tdiv a0 a1)) * a1)) < a0)))] ⟨rfl, rfl, trivial⟩ (fun f1 => ?_)
  refine wk_then ?_
  refine wc_cond rfl h (fun h => ?_) (fun h => ?_)
  · refine wc_seq ?_
    refine wc_region ?_
    refine wl_val (at_move rfl) rfl ?_
    refine wl_val (at_add rfl rfl) rfl ?_
    refine wl_val (at_assign rfl) rfl ?_
    obtain ⟨x2, e3⟩ : ∃ x : Int, x = (IntKind.wrap .i64 ((IntKind.wrap .i64 (Int.tdiv a0 a1)) + 1)) := ⟨_, rfl⟩; replace h := h x2 e3
    refine wl_set (t := 4) (v := .int .i64 x2) (congrArg (Value.int .i64) e3.symm) ?_
    refine wl_nil ?_
    refine wk_prune [(4, .int .i64 x2)] ⟨rfl, trivial⟩ (fun f1 => ?_)
    refine wk_then ?_
    refine wc_ret ?_
    refine wk_thenR ?_
    exact wk_ret1 (x := x2) rfl (by decide) rfl so h
  · refine wc_skip ?_
    refine wk_prune [(5, .int .i64 (IntKind.wrap .i64 (Int.tdiv a0 a1)))] ⟨rfl, trivial⟩ (fun f1 => ?_)
    refine wk_then ?_
    refine wc_seq ?_
    refine wc_region ?_
    refine wl_val (at_move rfl) rfl ?_
    refine wl_val (at_assign rfl) rfl ?_
    refine wl_nil ?_
    refine wk_prune [(4, .int .i64 (IntKind.wrap .i64 (Int.tdiv a0 a1)))] ⟨rfl, trivial⟩ (fun f1 => ?_)
    refine wk_then ?_
    refine wc_ret ?_
    exact wk_ret1 (x := (IntKind.wrap .i64 (Int.tdiv a0 a1))) rfl (by decide) rfl so h

/-- mosaic/mosaicref14.Samples -/
def mosaicref14_Samples.enc : Int × Int → Value := fun r => .tuple #[.int .i64 r.1, .int .i64 r.2]
def mosaicref14_Samples.s (a0_0 : Int) (a0_1 : Int) (a0_2 : Int) (a0_3 : Sl) (a1 : Int) (H0 : Hp) (Q : (Int × Int) → Hp → Prop) : Prop :=
  Gn [] H0 (fun (b1 : Nat) (H2 : Hp) => Join (fun (s4 : Bool) (H5 : Hp) => if s4 = true then (Q (0, 0) H5) else (mosaicref14_greatest.s a0_0 a0_1 a0_2 a0_3 H5 (fun x6 H7 => Pv [b1] H5 H7 ∧ (0 ≤ a1 ∧ a1 < (a0_3.n : Int) ∧ someA a0_3.a (fun p14 => ldI .u8 H7 ((p14.add (Int.toNat a1 * 4)).add 1) (fun x16 => 0 ≤ a1 ∧ a1 < (a0_3.n : Int) ∧ (ldI .u8 H7 ((p14.add (Int.toNat a1 * 4)).add 2) (fun x22 => mosaicref14_Ceil.s (IntKind.wrap .i64 (a0_1 * (IntKind.wrap .i64 x16))) x6.1 H7 (fun x24 H25 => Pv [b1] H7 H25 ∧ (cellAt H25 ((p14.add (Int.toNat a1 * 4)).add 2) = some (.int .u8 x22) ∧ (mosaicref14_Ceil.s (IntKind.wrap .i64 (a0_2 * (IntKind.wrap .i64 x22))) x6.2 H25 (fun x28 H29 => Pv [b1] H25 H29 ∧ (Q (x24, x28) H29))))))))))))) (fun (J3 : Bool → Hp → Prop) => mosaicref14_Check.s a0_0 a0_1 a0_2 a0_3 H2 (fun x31 H32 => Pv [b1] H2 H32 ∧ (if (x31 != 0) = true then (J3 (true) H32) else (if decide (a1 < 0) = true then (J3 (true) H32) else (J3 ((decide ((a0_3.n : Int) ≤ a1))) H32))))))
set_option maxRecDepth 20000 in
set_option maxHeartbeats 4000000 in
theorem mosaicref14_Samples.calls (a0_0 : Int) (a0_1 : Int) (a0_2 : Int) (a0_3 : Sl) (a1 : Int) (w0 : World) (Q : (Int × Int) → Hp → Prop) (h : mosaicref14_Samples.s a0_0 a0_1 a0_2 a0_3 a1 w0.heap Q) :
    Ca Try.prog 67 #[.agg (c24 a0_0 a0_1 a0_2 a0_3).toArray, .int .i64 a1] w0 (Rt mosaicref14_Samples.enc Q w0) := by
  refine ca_start (c := _) Try.func67 rfl Try.ntmps67 rfl ?_
  have so : Sm w0 w0 := Sm.refl w0
  unfold mosaicref14_Samples.s at h
  refine wc_prune [(0, .agg (c24 a0_0 a0_1 a0_2 a0_3).toArray), (1, .int .i64 a1)] ⟨rfl, rfl, trivial⟩ (fun f1 => ?_)
  refine wc_seq ?_
  refine wc_region ?_
  refine wl_newT (T := 24) (cs := (c24 a0_0 a0_1 a0_2 a0_3)) (ef_box rfl rfl) rfl so ?_; intro b1 w2 hb_b1 t_b1 k_b1 so
  have g_b1 := Nat.le_of_eq hb_b1.symm
  have hc := k_b1.ch (F := [])
  refine wl_val (at_assign rfl) rfl ?_
  refine wl_val (at_assign rfl) rfl ?_
  refine wl_nil ?_
  refine wk_prune [(1, .int .i64 a1), (2, .pointer (some (⟨b1, 0, none⟩ : Addr)))] ⟨rfl, rfl, trivial⟩ (fun f1 => ?_)
  refine wk_then ?_
  refine wc_seq ?_
  replace h := h b1 _ hc g_b1 t_b1.lt; clear hc
  refine wc_seq ?_
  refine wc_joinG (w0 := w0) (fun (H : Hp) => Bk H b1 24 (c24 a0_0 a0_1 a0_2 a0_3) ∧ True) (fun (s4 : Bool) => [(1, .int .i64 a1), (2, .pointer (some (⟨b1, 0, none⟩ : Addr))), (21, .bool s4)]) (fun (s4 : Bool) => []) h ?_ ?_
  · rintro s4 w5 f1 h ⟨t_b1, _⟩ so; refine wk_then ?_
    refine wc_cond rfl h (fun h => ?_) (fun h => ?_)
    · refine wc_seq ?_
      refine wc_region ?_
      refine wl_val (at_assign rfl) rfl ?_
      refine wl_val (at_assign rfl) rfl ?_
      refine wl_nil ?_
      refine wk_prune [(4, .int .i64 0), (5, .int .i64 0)] ⟨rfl, rfl, trivial⟩ (fun f1 => ?_)
      refine wk_then ?_
      refine wc_ret ?_
      refine wk_thenR ?_
      exact wk_ret2 (x := (0, 0)) rfl (by decide) (by decide) rfl so h
    · refine wc_skip ?_
      refine wk_prune [(1, .int .i64 a1), (2, .pointer (some (⟨b1, 0, none⟩ : Addr)))] ⟨rfl, rfl, trivial⟩ (fun f1 => ?_)
      refine wk_then ?_
      refine wc_seq ?_
      refine wc_region ?_
      refine wl_val (at_loadA (cs := (c24 a0_0 a0_1 a0_2 a0_3)) Try.underlying24 rfl (by rw [len24]; exact sz24) rfl (ldA_full t_b1)) rfl ?_
      refine wl_callF (mosaicref14_greatest.calls _ _ _ _ _ _ h) enter42 rfl trivial so ?_; intro x6 w7 h so
      obtain ⟨q8, h⟩ := h
      replace t_b1 := pv_bk q8 t_b1 (by simp)
      refine wl_val (at_move rfl) rfl ?_
      refine wl_val (at_extract rfl rfl) rfl ?_
      refine wl_val (at_extract rfl rfl) rfl ?_
      refine wl_val (at_assign rfl) rfl ?_
      refine wl_val (at_assign rfl) rfl ?_
      refine wl_nil ?_
      refine wk_prune [(1, .int .i64 a1), (2, .pointer (some (⟨b1, 0, none⟩ : Addr))), (6, .int .i64 x6.1), (7, .int .i64 x6.2)] ⟨rfl, rfl, rfl, rfl, trivial⟩ (fun f1 => ?_)
      refine wk_then ?_
      refine wc_seq ?_
      refine wc_wo [0, 1, 0, 4, 0, 28, 60, 124, 252, 511, 0, 2047, 0, 4096, 0, 16384, 0, 114688, 245760, 507904, 1032192, 2093056, 0, 8388607, 16777215, 33554431] mixed (by kernel_rfl) so ?_; intro w9 hw so; rw [← hw] at h t_b1; clear hw
      refine wo_pure (m' := 1) 0 rfl (by kernel_rfl) rfl rfl (fun H => at_fieldAddr Try.underlying24 rfl rfl sz3 (by decide) rfl) ?_
      refine wo_pure (m' := 5) 2 rfl (by kernel_rfl) rfl rfl (fun H => at_fieldAddr Try.underlying24 rfl rfl sz22 (by decide) rfl) ?_
      refine wo_pure (m' := 21) 4 rfl (by kernel_rfl) rfl rfl (fun H => at_move rfl) ?_
      refine wo_pure (m' := 1045) 10 rfl (by kernel_rfl) rfl rfl (fun H => at_move rfl) ?_
      refine wo_pure (m' := 5141) 12 rfl (by kernel_rfl) rfl rfl (fun H => at_fieldAddr Try.underlying24 rfl rfl sz3 (by decide) rfl) ?_
      refine wo_pure (m' := 21525) 14 rfl (by kernel_rfl) rfl rfl (fun H => at_fieldAddr Try.underlying24 rfl rfl sz22 (by decide) rfl) ?_
      refine wo_pure (m' := 87061) 16 rfl (by kernel_rfl) rfl rfl (fun H => at_move rfl) ?_
      refine wo_pure (m' := 4281365) 22 rfl (by kernel_rfl) rfl rfl (fun H => at_move rfl) ?_
      have q10 : cellAt w9.heap (⟨b1, 1, none⟩ : Addr) = some (.int .i64 a0_1) := (t_b1.cell 1).trans (by first | rfl | simp [List.getElem?_append, ints_len, bools_len])
      refine wo_load (m' := 4281367) 1 (fun H => cellAt H (⟨b1, 1, none⟩ : Addr) = some (.int .i64 a0_1)) rfl (by kernel_rfl) rfl rfl (fun H q10 => at_load (v := .int .i64 a0_1) Try.underlying3 rfl rfl (q10)) q10 ?_
      have q11 : cellAt w9.heap (⟨b1, 3, none⟩ : Addr) = some (.slice a0_3.a a0_3.n a0_3.c) := (t_b1.cell 3).trans (by first | rfl | simp [List.getElem?_append, ints_len, bools_len])
      refine wo_load (m' := 4281375) 3 (fun H => cellAt H (⟨b1, 3, none⟩ : Addr) = some (.slice a0_3.a a0_3.n a0_3.c)) rfl (by kernel_rfl) rfl rfl (fun H q11 => at_load (v := .slice a0_3.a a0_3.n a0_3.c) Try.underlying22 rfl rfl (q11)) q11 ?_
      obtain ⟨q12, q13, p14, q15, h⟩ := h
      refine wo_pure (m' := 4281407) 5 rfl (by kernel_rfl) rfl rfl (fun H => at_ixAddrL Try.underlying22 sz98 (sl_some q15) rfl q12 q13) ?_
      refine wo_pure (m' := 4281471) 6 rfl (by kernel_rfl) rfl rfl (fun H => at_fieldAddr Try.underlying98 rfl rfl sz5 (by decide) rfl) ?_
      obtain ⟨x16, q17, h⟩ := h
      refine wo_load (m' := 4281599) 7 (fun H => cellAt H ((p14.add (Int.toNat a1 * 4)).add 1) = some (.int .u8 x16)) rfl (by kernel_rfl) rfl rfl (fun H q17 => at_load Try.underlying5 rfl rfl q17) q17 ?_
      refine wo_pure (m' := 4281855) 8 rfl (by kernel_rfl) rfl rfl (fun H => at_conv Try.underlying5 Try.underlying3 rfl) ?_
      refine wo_pure (m' := 4282367) 9 rfl (by kernel_rfl) rfl rfl (fun H => at_mul rfl rfl) ?_
      have q18 : cellAt w9.heap (⟨b1, 2, none⟩ : Addr) = some (.int .i64 a0_2) := (t_b1.cell 2).trans (by first | rfl | simp [List.getElem?_append, ints_len, bools_len])
      refine wo_load (m' := 4290559) 13 (fun H => cellAt H (⟨b1, 2, none⟩ : Addr) = some (.int .i64 a0_2)) rfl (by kernel_rfl) rfl rfl (fun H q18 => at_load (v := .int .i64 a0_2) Try.underlying3 rfl rfl (q18)) q18 ?_
      have q19 : cellAt w9.heap (⟨b1, 3, none⟩ : Addr) = some (.slice a0_3.a a0_3.n a0_3.c) := (t_b1.cell 3).trans (by first | rfl | simp [List.getElem?_append, ints_len, bools_len])
      refine wo_load (m' := 4323327) 15 (fun H => cellAt H (⟨b1, 3, none⟩ : Addr) = some (.slice a0_3.a a0_3.n a0_3.c)) rfl (by kernel_rfl) rfl rfl (fun H q19 => at_load (v := .slice a0_3.a a0_3.n a0_3.c) Try.underlying22 rfl rfl (q19)) q19 ?_
      obtain ⟨q20, q21, h⟩ := h
      refine wo_pure (m' := 4454399) 17 rfl (by kernel_rfl) rfl rfl (fun H => at_ixAddrL Try.underlying22 sz98 (sl_some q15) rfl q20 q21) ?_
      refine wo_pure (m' := 4716543) 18 rfl (by kernel_rfl) rfl rfl (fun H => at_fieldAddr Try.underlying98 rfl rfl sz5 (by decide) rfl) ?_
      obtain ⟨x22, q23, h⟩ := h
      refine wo_load (m' := 5240831) 19 (fun H => cellAt H ((p14.add (Int.toNat a1 * 4)).add 2) = some (.int .u8 x22)) rfl (by kernel_rfl) rfl rfl (fun H q23 => at_load Try.underlying5 rfl rfl q23) q23 ?_
      refine wo_pure (m' := 6289407) 20 rfl (by kernel_rfl) rfl rfl (fun H => at_conv Try.underlying5 Try.underlying3 rfl) ?_
      refine wo_pure (m' := 8386559) 21 rfl (by kernel_rfl) rfl rfl (fun H => at_mul rfl rfl) ?_
      refine wo_take (m' := 8388607) 11 [false, false, false, true, true, true] rfl (by kernel_rfl) rfl (by kernel_rfl) ?_
      refine wl_callF (mosaicref14_Ceil.calls _ _ _ _ h) enter43 rfl trivial so ?_; intro x24 w25 h so
      obtain ⟨q26, h⟩ := h
      replace t_b1 := pv_bk q26 t_b1 (by simp)
      refine wl_nil ?_
      obtain ⟨q27, h⟩ := h
      refine wk_tq ⟨q27, ((t_b1.cell 3).trans (by first | rfl | simp [List.getElem?_append, ints_len, bools_len])), ((t_b1.cell 2).trans (by first | rfl | simp [List.getElem?_append, ints_len, bools_len])), trivial⟩ ?_
      refine wo_take (m' := 16777215) 23 [true, true, true] rfl (by kernel_rfl) rfl (by kernel_rfl) ?_
      refine wl_callF (mosaicref14_Ceil.calls _ _ _ _ h) enter43 rfl trivial so ?_; intro x28 w29 h so
      obtain ⟨q30, h⟩ := h
      replace t_b1 := pv_bk q30 t_b1 (by simp)
      refine wl_nil ?_
      refine wk_tq trivial ?_
      refine wo_pure (m' := 33554431) 24 rfl (by kernel_rfl) rfl rfl (fun H => at_assign rfl) ?_
      refine wo_pure (m' := 67108863) 25 rfl (by kernel_rfl) rfl rfl (fun H => at_assign rfl) ?_
      refine wo_done (by kernel_rfl) ?_
      refine wk_prune [(4, .int .i64 x24), (5, .int .i64 x28)] ⟨rfl, rfl, trivial⟩ (fun f1 => ?_)
      refine wk_then ?_
      refine wc_ret ?_
      exact wk_ret2 (x := (x24, x28)) rfl (by decide) (by decide) rfl so h
  · intro J3 h hJ3
    refine wc_region ?_
    refine wl_val (at_loadA (cs := (c24 a0_0 a0_1 a0_2 a0_3)) Try.underlying24 rfl (by rw [len24]; exact sz24) rfl (ldA_full t_b1)) rfl ?_
    refine wl_callF (mosaicref14_Check.calls _ _ _ _ _ _ h) enter40 rfl trivial so ?_; intro x31 w32 h so
    obtain ⟨q33, h⟩ := h
    replace t_b1 := pv_bk q33 t_b1 (by simp)
    refine wl_val (at_neq rfl rfl) rfl ?_
    refine wl_val (at_move rfl) rfl ?_
    refine bif_ h (fun hb h => ?_) (fun hb h => ?_)
    · refine wl_set (t := 11) (v := .bool true) (congrArg Value.bool hb) ?_; clear hb
      refine wl_off (t := 11) rfl (by decide) rfl ?_
      refine wl_off (t := 11) rfl (by decide) rfl ?_
      refine wl_val (at_pick_t rfl rfl) rfl ?_
      refine wl_val (at_move rfl) rfl ?_
      refine wl_off (t := 15) rfl (by decide) rfl ?_
      refine wl_off (t := 15) rfl (by decide) rfl ?_
      refine wl_off (t := 15) rfl (by decide) rfl ?_
      refine wl_off (t := 15) rfl (by decide) rfl ?_
      refine wl_off (t := 15) rfl (by decide) rfl ?_
      refine wl_val (at_pick_t rfl rfl) rfl ?_
      refine wl_nil ?_
      exact wk_prune [(1, .int .i64 a1), (2, .pointer (some (⟨b1, 0, none⟩ : Addr))), (21, .bool true)] ⟨rfl, rfl, rfl, trivial⟩ (fun f1 => hJ3 (true) _ f1 h ⟨t_b1, trivial⟩ so)
    · refine wl_set (t := 11) (v := .bool false) (congrArg Value.bool hb) ?_; clear hb
      refine wl_on (t := 11) rfl (by decide) rfl ?_
      refine wl_val (at_move rfl) rfl ?_
      refine wl_on (t := 11) rfl (by decide) rfl ?_
      refine wl_val (at_lss rfl rfl) rfl ?_
      refine wl_val (at_pick_f rfl rfl) rfl ?_
      refine wl_val (at_move rfl) rfl ?_
      refine bif_ h (fun hb h => ?_) (fun hb h => ?_)
      · refine wl_set (t := 15) (v := .bool true) (congrArg Value.bool hb) ?_; clear hb
        refine wl_off (t := 15) rfl (by decide) rfl ?_
        refine wl_off (t := 15) rfl (by decide) rfl ?_
        refine wl_off (t := 15) rfl (by decide) rfl ?_
        refine wl_off (t := 15) rfl (by decide) rfl ?_
        refine wl_off (t := 15) rfl (by decide) rfl ?_
        refine wl_val (at_pick_t rfl rfl) rfl ?_
        refine wl_nil ?_
        exact wk_prune [(1, .int .i64 a1), (2, .pointer (some (⟨b1, 0, none⟩ : Addr))), (21, .bool true)] ⟨rfl, rfl, rfl, trivial⟩ (fun f1 => hJ3 (true) _ f1 h ⟨t_b1, trivial⟩ so)
      · refine wl_set (t := 15) (v := .bool false) (congrArg Value.bool hb) ?_; clear hb
        refine wl_on (t := 15) rfl (by decide) rfl ?_
        refine wl_val (at_move rfl) rfl ?_
        refine wl_on (t := 15) rfl (by decide) rfl ?_
        refine wl_val (at_fieldAddr Try.underlying24 rfl rfl sz22 (by decide) rfl) rfl ?_
        refine wl_on (t := 15) rfl (by decide) rfl ?_
        refine wl_val (at_load (v := .slice a0_3.a a0_3.n a0_3.c) Try.underlying22 rfl rfl ((t_b1.cell 3).trans (by first | rfl | simp [List.getElem?_append, ints_len, bools_len]))) rfl ?_
        refine wl_on (t := 15) rfl (by decide) rfl ?_
        refine wl_val (at_lenL Try.underlying22 rfl) rfl ?_
        refine wl_on (t := 15) rfl (by decide) rfl ?_
        refine wl_val (at_geq rfl rfl) rfl ?_
        refine wl_val (at_pick_f rfl rfl) rfl ?_
        refine wl_nil ?_
        exact wk_prune [(1, .int .i64 a1), (2, .pointer (some (⟨b1, 0, none⟩ : Addr))), (21, .bool (decide ((a0_3.n : Int) ≤ a1)))] ⟨rfl, rfl, rfl, trivial⟩ (fun f1 => hJ3 ((decide ((a0_3.n : Int) ≤ a1))) _ f1 h ⟨t_b1, trivial⟩ so)

/-- mosaic/mosaicref14.Blocks -/
def mosaicref14_Blocks.enc : Int × Int → Value := fun r => .tuple #[.int .i64 r.1, .int .i64 r.2]
def mosaicref14_Blocks.s (a0_0 : Int) (a0_1 : Int) (a0_2 : Int) (a0_3 : Sl) (a1 : Int) (H0 : Hp) (Q : (Int × Int) → Hp → Prop) : Prop :=
  Gn [] H0 (fun (b1 : Nat) (H2 : Hp) => mosaicref14_Samples.s a0_0 a0_1 a0_2 a0_3 a1 H2 (fun x3 H4 => mosaicref14_Ceil.s x3.1 8 H4 (fun x5 H6 => mosaicref14_Ceil.s x3.2 8 H6 (fun x7 H8 => Q (x5, x7) H8))))
set_option maxRecDepth 20000 in
set_option maxHeartbeats 4000000 in
theorem mosaicref14_Blocks.calls (a0_0 : Int) (a0_1 : Int) (a0_2 : Int) (a0_3 : Sl) (a1 : Int) (w0 : World) (Q : (Int × Int) → Hp → Prop) (h : mosaicref14_Blocks.s a0_0 a0_1 a0_2 a0_3 a1 w0.heap Q) :
    Ca Try.prog 41 #[.agg (c24 a0_0 a0_1 a0_2 a0_3).toArray, .int .i64 a1] w0 (Rt mosaicref14_Blocks.enc Q w0) := by
  refine ca_start (c := _) Try.func41 rfl Try.ntmps41 rfl ?_
  have so : Sm w0 w0 := Sm.refl w0
  unfold mosaicref14_Blocks.s at h
  refine wc_prune [(0, .agg (c24 a0_0 a0_1 a0_2 a0_3).toArray), (1, .int .i64 a1)] ⟨rfl, rfl, trivial⟩ (fun f1 => ?_)
  refine wc_seq ?_
  refine wc_region ?_
  refine wl_newT (T := 24) (cs := (c24 a0_0 a0_1 a0_2 a0_3)) (ef_box rfl rfl) rfl so ?_; intro b1 w2 hb_b1 t_b1 k_b1 so
  have g_b1 := Nat.le_of_eq hb_b1.symm
  have hc := k_b1.ch (F := [])
  refine wl_val (at_assign rfl) rfl ?_
  refine wl_val (at_assign rfl) rfl ?_
  refine wl_nil ?_
  refine wk_prune [(1, .int .i64 a1), (2, .pointer (some (⟨b1, 0, none⟩ : Addr)))] ⟨rfl, rfl, trivial⟩ (fun f1 => ?_)
  refine wk_then ?_
  refine wc_seq ?_
  refine wc_region ?_
  refine wl_val (at_loadA (cs := (c24 a0_0 a0_1 a0_2 a0_3)) Try.underlying24 rfl (by rw [len24]; exact sz24) rfl (ldA_full t_b1)) rfl ?_
  refine wl_val (at_move rfl) rfl ?_
  replace h := h b1 _ hc g_b1 t_b1.lt; clear hc
  refine wl_callF (mosaicref14_Samples.calls _ _ _ _ _ _ _ h) enter67 rfl trivial so ?_; intro x3 w4 h so
  refine wl_val (at_move rfl) rfl ?_
  refine wl_val (at_extract rfl rfl) rfl ?_
  refine wl_val (at_extract rfl rfl) rfl ?_
  refine wl_val (at_assign rfl) rfl ?_
  refine wl_val (at_assign rfl) rfl ?_
  refine wl_nil ?_
  refine wk_prune [(6, .int .i64 x3.1), (7, .int .i64 x3.2)] ⟨rfl, rfl, trivial⟩ (fun f1 => ?_)
  refine wk_then ?_
  refine wc_seq ?_
  refine wc_region ?_
  refine wl_val (at_move rfl) rfl ?_
  refine wl_callF (mosaicref14_Ceil.calls _ _ _ _ h) enter43 rfl trivial so ?_; intro x5 w6 h so
  refine wl_val (at_move rfl) rfl ?_
  refine wl_callF (mosaicref14_Ceil.calls _ _ _ _ h) enter43 rfl trivial so ?_; intro x7 w8 h so
  refine wl_val (at_assign rfl) rfl ?_
  refine wl_val (at_assign rfl) rfl ?_
  refine wl_nil ?_
  refine wk_prune [(4, .int .i64 x5), (5, .int .i64 x7)] ⟨rfl, rfl, trivial⟩ (fun f1 => ?_)
  refine wk_then ?_
  refine wc_ret ?_
  exact wk_ret2 (x := (x5, x7)) rfl (by decide) (by decide) rfl so h

/-- mosaic/mosaicref14.Units -/
def mosaicref14_Units.enc : Int × Int → Value := fun r => .tuple #[.int .i64 r.1, .int .i64 r.2]
def mosaicref14_Units.s (a0_0 : Int) (a0_1 : Int) (a0_2 : Int) (a0_3 : Sl) (a1 : Sl) (H0 : Hp) (Q : (Int × Int) → Hp → Prop) : Prop :=
  Gn [] H0 (fun (b1 : Nat) (H2 : Hp) => mosaicref14_Parts.s a0_0 a0_1 a0_2 a0_3 a1 H2 (fun x3 H4 => Pv [b1] H2 H4 ∧ (if (x3 != 0) = true then (Q (0, 0) H4) else (if ((a1.n : Int) == 1) = true then (0 ≤ (0 : Int) ∧ (0 : Int) < (a1.n : Int) ∧ someA a1.a (fun p9 => ldI .i64 H4 ((p9.add (Int.toNat 0 * 3)).add 0) (fun x12 => mosaicref14_Blocks.s a0_0 a0_1 a0_2 a0_3 x12 H4 (fun x14 H15 => Pv [b1] H4 H15 ∧ (Q (x14.1, x14.2) H15))))) else (mosaicref14_greatest.s a0_0 a0_1 a0_2 a0_3 H4 (fun x17 H18 => Pv [b1] H4 H18 ∧ (mosaicref14_Ceil.s a0_1 (IntKind.wrap .i64 ((8 : Int) * x17.1)) H18 (fun x23 H24 => Pv [b1] H18 H24 ∧ (mosaicref14_Ceil.s a0_2 (IntKind.wrap .i64 ((8 : Int) * x17.2)) H24 (fun x26 H27 => Pv [b1] H24 H27 ∧ (Q (x23, x26) H27)))))))))))
set_option maxRecDepth 20000 in
set_option maxHeartbeats 4000000 in
theorem mosaicref14_Units.calls (a0_0 : Int) (a0_1 : Int) (a0_2 : Int) (a0_3 : Sl) (a1 : Sl) (w0 : World) (Q : (Int × Int) → Hp → Prop) (h : mosaicref14_Units.s a0_0 a0_1 a0_2 a0_3 a1 w0.heap Q) :
    Ca Try.prog 22 #[.agg (c24 a0_0 a0_1 a0_2 a0_3).toArray, .slice a1.a a1.n a1.c] w0 (Rt mosaicref14_Units.enc Q w0) := by
  refine ca_start (c := _) Try.func22 rfl Try.ntmps22 rfl ?_
  have so : Sm w0 w0 := Sm.refl w0
  unfold mosaicref14_Units.s at h
  refine wc_prune [(0, .agg (c24 a0_0 a0_1 a0_2 a0_3).toArray), (1, .slice a1.a a1.n a1.c)] ⟨rfl, rfl, trivial⟩ (fun f1 => ?_)
  refine wc_seq ?_
  refine wc_region ?_
  refine wl_newT (T := 24) (cs := (c24 a0_0 a0_1 a0_2 a0_3)) (ef_box rfl rfl) rfl so ?_; intro b1 w2 hb_b1 t_b1 k_b1 so
  have g_b1 := Nat.le_of_eq hb_b1.symm
  have hc := k_b1.ch (F := [])
  refine wl_val (at_assign rfl) rfl ?_
  refine wl_val (at_assign rfl) rfl ?_
  refine wl_nil ?_
  refine wk_prune [(1, .slice a1.a a1.n a1.c), (2, .pointer (some (⟨b1, 0, none⟩ : Addr)))] ⟨rfl, rfl, trivial⟩ (fun f1 => ?_)
  refine wk_then ?_
  refine wc_seq ?_
  refine wc_seq ?_
  refine wc_region ?_
  refine wl_val (at_loadA (cs := (c24 a0_0 a0_1 a0_2 a0_3)) Try.underlying24 rfl (by rw [len24]; exact sz24) rfl (ldA_full t_b1)) rfl ?_
  refine wl_val (at_move rfl) rfl ?_
  replace h := h b1 _ hc g_b1 t_b1.lt; clear hc
  refine wl_callF (mosaicref14_Parts.calls _ _ _ _ _ _ _ h) enter20 rfl trivial so ?_; intro x3 w4 h so
  obtain ⟨q5, h⟩ := h
  replace t_b1 := pv_bk q5 t_b1 (by simp)
  refine wl_val (at_neq rfl rfl) rfl ?_
  refine wl_nil ?_
  refine wk_prune [(1, .slice a1.a a1.n a1.c), (2, .pointer (some (⟨b1, 0, none⟩ : Addr))), (11, .bool (x3 != 0))] ⟨rfl, rfl, rfl, trivial⟩ (fun f1 => ?_)
  refine wk_then ?_
  refine wc_cond rfl h (fun h => ?_) (fun h => ?_)
  · refine wc_seq ?_
    refine wc_region ?_
    refine wl_val (at_assign rfl) rfl ?_
    refine wl_val (at_assign rfl) rfl ?_
    refine wl_nil ?_
    refine wk_prune [(4, .int .i64 0), (5, .int .i64 0)] ⟨rfl, rfl, trivial⟩ (fun f1 => ?_)
    refine wk_then ?_
    refine wc_ret ?_
    refine wk_thenR ?_
    exact wk_ret2 (x := (0, 0)) rfl (by decide) (by decide) rfl so h
  · refine wc_skip ?_
    refine wk_prune [(1, .slice a1.a a1.n a1.c), (2, .pointer (some (⟨b1, 0, none⟩ : Addr)))] ⟨rfl, rfl, trivial⟩ (fun f1 => ?_)
    refine wk_then ?_
    refine wc_seq ?_
    refine wc_seq ?_
    refine wc_region ?_
    refine wl_val (at_move rfl) rfl ?_
    refine wl_val (at_lenL Try.underlying25 rfl) rfl ?_
    refine wl_val (at_eql rfl rfl) rfl ?_
    refine wl_nil ?_
    refine wk_prune [(1, .slice a1.a a1.n a1.c), (2, .pointer (some (⟨b1, 0, none⟩ : Addr))), (14, .bool ((a1.n : Int) == 1))] ⟨rfl, rfl, rfl, trivial⟩ (fun f1 => ?_)
    refine wk_then ?_
    refine wc_cond rfl h (fun h => ?_) (fun h => ?_)
    · refine wc_seq ?_
      refine wc_wo [0, 0, 2, 6, 14, 31, 63, 63, 255, 511] mixed (by kernel_rfl) so ?_; intro w6 hw so; rw [← hw] at h t_b1; clear hw
      refine wo_pure (m' := 2) 1 rfl (by kernel_rfl) rfl rfl (fun H => at_move rfl) ?_
      obtain ⟨q7, q8, p9, q10, h⟩ := h
      refine wo_pure (m' := 6) 2 rfl (by kernel_rfl) rfl rfl (fun H => at_ixAddrL Try.underlying25 sz67 (sl_some q10) rfl q7 q8) ?_
      refine wo_pure (m' := 14) 3 rfl (by kernel_rfl) rfl rfl (fun H => at_fieldAddr Try.underlying67 rfl rfl sz3 (by decide) rfl) ?_
      have q11 : ldA w6.heap (⟨b1, 0, none⟩ : Addr) (c24 a0_0 a0_1 a0_2 a0_3) := ldA_full t_b1
      refine wo_load (m' := 15) 0 (fun H => ldA H (⟨b1, 0, none⟩ : Addr) (c24 a0_0 a0_1 a0_2 a0_3)) rfl (by kernel_rfl) rfl rfl (fun H q11 => at_loadA (cs := (c24 a0_0 a0_1 a0_2 a0_3)) Try.underlying24 rfl (by rw [len24]; exact sz24) rfl (q11)) q11 ?_
      obtain ⟨x12, q13, h⟩ := h
      refine wo_load (m' := 31) 4 (fun H => cellAt H ((p9.add (Int.toNat 0 * 3)).add 0) = some (.int .i64 x12)) rfl (by kernel_rfl) rfl rfl (fun H q13 => at_load Try.underlying3 rfl rfl q13) q13 ?_
      refine wo_take (m' := 63) 5 [true, true] rfl (by kernel_rfl) rfl (by kernel_rfl) ?_
      refine wl_callF (mosaicref14_Blocks.calls _ _ _ _ _ _ _ h) enter41 rfl trivial so ?_; intro x14 w15 h so
      obtain ⟨q16, h⟩ := h
      replace t_b1 := pv_bk q16 t_b1 (by simp)
      refine wl_nil ?_
      refine wk_tq trivial ?_
      refine wo_pure (m' := 127) 6 rfl (by kernel_rfl) rfl rfl (fun H => at_extract rfl rfl) ?_
      refine wo_pure (m' := 255) 7 rfl (by kernel_rfl) rfl rfl (fun H => at_extract rfl rfl) ?_
      refine wo_pure (m' := 511) 8 rfl (by kernel_rfl) rfl rfl (fun H => at_assign rfl) ?_
      refine wo_pure (m' := 1023) 9 rfl (by kernel_rfl) rfl rfl (fun H => at_assign rfl) ?_
      refine wo_done (by kernel_rfl) ?_
      refine wk_prune [(4, .int .i64 x14.1), (5, .int .i64 x14.2)] ⟨rfl, rfl, trivial⟩ (fun f1 => ?_)
      refine wk_then ?_
      refine wc_ret ?_
      refine wk_thenR ?_
      exact wk_ret2 (x := (x14.1, x14.2)) rfl (by decide) (by decide) rfl so h
    · refine wc_skip ?_
      refine wk_prune [(2, .pointer (some (⟨b1, 0, none⟩ : Addr)))] ⟨rfl, trivial⟩ (fun f1 => ?_)
      refine wk_then ?_
      refine wc_seq ?_
      refine wc_region ?_
      refine wl_val (at_loadA (cs := (c24 a0_0 a0_1 a0_2 a0_3)) Try.underlying24 rfl (by rw [len24]; exact sz24) rfl (ldA_full t_b1)) rfl ?_
      refine wl_callF (mosaicref14_greatest.calls _ _ _ _ _ _ h) enter42 rfl trivial so ?_; intro x17 w18 h so
      obtain ⟨q19, h⟩ := h
      replace t_b1 := pv_bk q19 t_b1 (by simp)
      refine wl_val (at_move rfl) rfl ?_
      refine wl_val (at_extract rfl rfl) rfl ?_
      refine wl_val (at_extract rfl rfl) rfl ?_
      refine wl_val (at_assign rfl) rfl ?_
      refine wl_val (at_assign rfl) rfl ?_
      refine wl_nil ?_
      refine wk_prune [(2, .pointer (some (⟨b1, 0, none⟩ : Addr))), (6, .int .i64 x17.1), (7, .int .i64 x17.2)] ⟨rfl, rfl, rfl, trivial⟩ (fun f1 => ?_)
      refine wk_then ?_
      refine wc_seq ?_
      refine wc_wo [0, 1, 0, 4, 15, 0, 32, 0, 128, 511, 1023, 2047] mixed (by kernel_rfl) so ?_; intro w20 hw so; rw [← hw] at h t_b1; clear hw
      refine wo_pure (m' := 1) 0 rfl (by kernel_rfl) rfl rfl (fun H => at_fieldAddr Try.underlying24 rfl rfl sz3 (by decide) rfl) ?_
      refine wo_pure (m' := 5) 2 rfl (by kernel_rfl) rfl rfl (fun H => at_move rfl) ?_
      refine wo_pure (m' := 13) 3 rfl (by kernel_rfl) rfl rfl (fun H => at_mul rfl rfl) ?_
      refine wo_pure (m' := 45) 5 rfl (by kernel_rfl) rfl rfl (fun H => at_fieldAddr Try.underlying24 rfl rfl sz3 (by decide) rfl) ?_
      refine wo_pure (m' := 173) 7 rfl (by kernel_rfl) rfl rfl (fun H => at_move rfl) ?_
      refine wo_pure (m' := 429) 8 rfl (by kernel_rfl) rfl rfl (fun H => at_mul rfl rfl) ?_
      have q21 : cellAt w20.heap (⟨b1, 1, none⟩ : Addr) = some (.int .i64 a0_1) := (t_b1.cell 1).trans (by first | rfl | simp [List.getElem?_append, ints_len, bools_len])
      refine wo_load (m' := 431) 1 (fun H => cellAt H (⟨b1, 1, none⟩ : Addr) = some (.int .i64 a0_1)) rfl (by kernel_rfl) rfl rfl (fun H q21 => at_load (v := .int .i64 a0_1) Try.underlying3 rfl rfl (q21)) q21 ?_
      have q22 : cellAt w20.heap (⟨b1, 2, none⟩ : Addr) = some (.int .i64 a0_2) := (t_b1.cell 2).trans (by first | rfl | simp [List.getElem?_append, ints_len, bools_len])
      refine wo_load (m' := 495) 6 (fun H => cellAt H (⟨b1, 2, none⟩ : Addr) = some (.int .i64 a0_2)) rfl (by kernel_rfl) rfl rfl (fun H q22 => at_load (v := .int .i64 a0_2) Try.underlying3 rfl rfl (q22)) q22 ?_
      refine wo_take (m' := 511) 4 [false, true] rfl (by kernel_rfl) rfl (by kernel_rfl) ?_
      refine wl_callF (mosaicref14_Ceil.calls _ _ _ _ h) enter43 rfl trivial so ?_; intro x23 w24 h so
      obtain ⟨q25, h⟩ := h
      replace t_b1 := pv_bk q25 t_b1 (by simp)
      refine wl_nil ?_
      refine wk_tq ⟨((t_b1.cell 2).trans (by first | rfl | simp [List.getElem?_append, ints_len, bools_len])), trivial⟩ ?_
      refine wo_take (m' := 1023) 9 [true] rfl (by kernel_rfl) rfl (by kernel_rfl) ?_
      refine wl_callF (mosaicref14_Ceil.calls _ _ _ _ h) enter43 rfl trivial so ?_; intro x26 w27 h so
      obtain ⟨q28, h⟩ := h
      replace t_b1 := pv_bk q28 t_b1 (by simp)
      refine wl_nil ?_
      refine wk_tq trivial ?_
      refine wo_pure (m' := 2047) 10 rfl (by kernel_rfl) rfl rfl (fun H => at_assign rfl) ?_
      refine wo_pure (m' := 4095) 11 rfl (by kernel_rfl) rfl rfl (fun H => at_assign rfl) ?_
      refine wo_done (by kernel_rfl) ?_
      refine wk_prune [(4, .int .i64 x23), (5, .int .i64 x26)] ⟨rfl, rfl, trivial⟩ (fun f1 => ?_)
      refine wk_then ?_
      refine wc_ret ?_
      exact wk_ret2 (x := (x23, x26)) rfl (by decide) (by decide) rfl so h
end Go.Proofs.Ytlfdfikgbdgfdaa.G
