/- Of this text what the row needs. -/
import Derived.Test.YtmnoecpnoofdjaaQPenCostKshelf
namespace Go.Proofs.Ytmnoecpnoofdjaa.G
open Go.RowKit
set_option linter.unusedVariables false
set_option linter.unusedSimpArgs false
def geom_most.enc : Int × Int → Value := fun r => .tuple #[.int .i64 r.1, .int .i64 r.2]
def geom_most.s (a0_0 : Int) (a0_1 : Int) (a0_2 : Int) (a0_3 : Sl) (H0 : Hp) (Q : (Int × Int) → Hp → Prop) : Prop :=
  Gn [] H0 (fun (b1 : Nat) (H2 : Hp) => ∃ k3, Fix (fun (rec8 : (Int × Int × Int) → Hp → Prop) (s5 : Int × Int × Int) (H6 : Hp) => if decide (s5.2.2 < (a0_3.n : Int)) = true then (0 ≤ s5.2.2 ∧ s5.2.2 < (a0_3.n : Int) ∧ someA a0_3.a (fun p11 => ∃ x13 : Int, ∃ x14 : Int, ∃ x15 : Int, ∃ x16 : Int, ldA H6 (p11.add (Int.toNat s5.2.2 * 4)) (c100 x13 x14 x15 x16) ∧ (Gn [] H6 (fun (b18 : Nat) (H20 : Hp) => rec8 ((if s5.1 < (IntKind.wrap .i64 x14) then (IntKind.wrap .i64 x14) else s5.1), (if s5.2.1 < (IntKind.wrap .i64 x15) then (IntKind.wrap .i64 x15) else s5.2.1), (IntKind.wrap .i64 (s5.2.2 + 1))) H20)))) else (Q (s5.1, s5.2.1) H6)) k3 (0, 0, 0) H2)
set_option maxRecDepth 20000 in
set_option maxHeartbeats 4000000 in
theorem geom_most.calls (a0_0 : Int) (a0_1 : Int) (a0_2 : Int) (a0_3 : Sl) (w0 : World) (Q : (Int × Int) → Hp → Prop) (h : geom_most.s a0_0 a0_1 a0_2 a0_3 w0.heap Q) :
    Ca Try.prog 59 #[.agg (c24 a0_0 a0_1 a0_2 a0_3).toArray] w0 (Rt geom_most.enc Q w0) := by
  refine ca_start (c := _) Try.func59 rfl Try.ntmps59 rfl ?_
  have so : Sm w0 w0 := Sm.refl w0
  unfold geom_most.s at h
  refine wc_prune [(0, .agg (c24 a0_0 a0_1 a0_2 a0_3).toArray)] ⟨rfl, trivial⟩ (fun f1 => ?_)
  refine wc_seq ?_
  refine wc_region ?_
  refine wl_newT (T := 24) (cs := (c24 a0_0 a0_1 a0_2 a0_3)) (ef_box rfl rfl) rfl so ?_; intro b1 w2 hb_b1 t_b1 k_b1 so
  have g_b1 := Nat.le_of_eq hb_b1.symm
  have hc := k_b1.ch (F := [])
  refine wl_val (at_assign rfl) rfl ?_
  refine wl_val (at_assign rfl) rfl ?_
  refine wl_nil ?_
  refine wk_prune [(1, .pointer (some (⟨b1, 0, none⟩ : Addr)))] ⟨rfl, trivial⟩ (fun f1 => ?_)
  refine wk_then ?_
  refine wc_seq ?_
  refine wc_region ?_
  refine wl_val (at_assign rfl) rfl ?_
  refine wl_val (at_assign rfl) rfl ?_
  refine wl_nil ?_
  refine wk_prune [(1, .pointer (some (⟨b1, 0, none⟩ : Addr))), (4, .int .i64 0), (5, .int .i64 0)] ⟨rfl, rfl, rfl, trivial⟩ (fun f1 => ?_)
  refine wk_then ?_
  refine wc_seq ?_
  refine wc_seq ?_
  refine wc_region ?_
  refine wl_val (at_fieldAddr Try.underlying24 rfl rfl sz22 (by decide) rfl) rfl ?_
  refine wl_val (at_load (v := .slice a0_3.a a0_3.n a0_3.c) Try.underlying22 rfl rfl ((t_b1.cell 3).trans (by first | rfl | simp [List.getElem?_append, ints_len, bools_len]))) rfl ?_
  refine wl_val (at_lenL Try.underlying22 rfl) rfl ?_
  refine wl_val (at_move rfl) rfl ?_
  refine wl_nil ?_
  refine wk_prune [(4, .int .i64 0), (5, .int .i64 0), (9, .slice a0_3.a a0_3.n a0_3.c), (10, .int .i64 (a0_3.n : Int)), (11, .int .i64 0)] ⟨rfl, rfl, rfl, rfl, rfl, trivial⟩ (fun f1 => ?_)
  refine wk_then ?_
  refine wc_block ?_
  replace h := h b1 _ hc g_b1 t_b1.lt; clear hc
  obtain ⟨k3, h⟩ := h
  refine wc_loop (fun k a w => ∃ (s5 : Int × Int × Int) (f1 : Nat → Value), a = ac 28 (en f1 [(4, .int .i64 s5.1), (5, .int .i64 s5.2.1), (9, .slice a0_3.a a0_3.n a0_3.c), (10, .int .i64 (a0_3.n : Int)), (11, .int .i64 s5.2.2)]) [] ∧ Sm w0 w ∧ Fix _ k s5 w.heap) k3 ⟨(0, 0, 0), _, ac_again ⟨rfl, rfl, rfl, rfl, rfl, trivial⟩, so, h⟩ ?_
  rintro k4 a7 w6 ⟨s5, f1, rfl, so, h⟩
  rcases k4 with _ | k4
  · exact h.elim
  replace h := Fix.un h; refine wc_in ?_
  refine wc_seq ?_
  refine wc_region ?_
  refine wl_val (at_lss rfl rfl) rfl ?_
  refine wl_nil ?_
  refine wk_prune [(4, .int .i64 s5.1), (5, .int .i64 s5.2.1), (9, .slice a0_3.a a0_3.n a0_3.c), (10, .int .i64 (a0_3.n : Int)), (11, .int .i64 s5.2.2), (12, .bool (decide (s5.2.2 < (a0_3.n : Int))))] ⟨rfl, rfl, rfl, rfl, rfl, rfl, trivial⟩ (fun f1 => ?_)
  refine wk_then ?_
  refine wc_seq ?_
  refine wc_cond rfl h (fun h => ?_) (fun h => ?_)
  · refine wc_skip ?_
    refine wk_prune [(4, .int .i64 s5.1), (5, .int .i64 s5.2.1), (9, .slice a0_3.a a0_3.n a0_3.c), (10, .int .i64 (a0_3.n : Int)), (11, .int .i64 s5.2.2)] ⟨rfl, rfl, rfl, rfl, rfl, trivial⟩ (fun f1 => ?_)
    refine wk_then ?_
    refine wc_seq ?_
    refine wc_block ?_
    refine wc_seq ?_
    refine wc_region ?_
    obtain ⟨q9, q10, p11, q12, h⟩ := h
    refine wl_val (at_ixAddrL Try.underlying22 sz100 (sl_some q12) rfl q9 q10) rfl ?_
    obtain ⟨x13, x14, x15, x16, q17, h⟩ := h
    refine wl_val (at_loadA (cs := (c100 x13 x14 x15 x16)) Try.underlying100 rfl (by rw [len100]; exact sz100) rfl q17) rfl ?_
    refine wl_newT (T := 100) (cs := (c100 0 0 0 0)) (ef_alloc zero100 rfl) rfl so ?_; intro b18 w19 hb_b18 t_b18 k_b18 so
    have g_b18 := Nat.le_of_eq hb_b18.symm
    have hc := k_b18.ch (F := [])
    refine wl_stWT (vs := (c100 x13 x14 x15 x16)) t_b18 (by first | (rw [len100, len100]) | (rw [len100]) | rfl) rfl so (fun q => ef_storeA (p := (⟨b18, 0, none⟩ : Addr)) (cs := (c100 x13 x14 x15 x16)) (by rw [len100]; exact sz100) rfl rfl (one100 _ _ _ _) q) ?_; intro w20 t_b18 s_w20 so
    replace hc := ch_same hc s_w20 (.inr g_b18)
    refine wl_nil ?_
    refine wk_prune [(4, .int .i64 s5.1), (5, .int .i64 s5.2.1), (7, .pointer (some (⟨b18, 0, none⟩ : Addr))), (9, .slice a0_3.a a0_3.n a0_3.c), (10, .int .i64 (a0_3.n : Int)), (11, .int .i64 s5.2.2)] ⟨rfl, rfl, rfl, rfl, rfl, rfl, trivial⟩ (fun f1 => ?_)
    refine wk_then ?_
    replace h := h b18 _ hc g_b18 t_b18.lt; clear hc
    refine wc_draw mixed (by kernel_rfl) so ?_
    refine wq_val (at_move rfl) rfl ?_
    refine wq_val (at_fieldAddr Try.underlying100 rfl rfl sz5 (by decide) rfl) rfl ?_
    refine wq_val (at_load (v := .int .u8 x14) Try.underlying5 rfl rfl ((t_b18.cell 1).trans (by first | rfl | simp [List.getElem?_append, ints_len, bools_len]))) rfl ?_
    refine wq_val (at_conv Try.underlying5 Try.underlying3 rfl) rfl ?_
    refine wq_val (at_max rfl rfl) rfl ?_
    refine wq_val (at_move rfl) rfl ?_
    refine wq_val (at_fieldAddr Try.underlying100 rfl rfl sz5 (by decide) rfl) rfl ?_
    refine wq_val (at_load (v := .int .u8 x15) Try.underlying5 rfl rfl ((t_b18.cell 2).trans (by first | rfl | simp [List.getElem?_append, ints_len, bools_len]))) rfl ?_
    refine wq_val (at_conv Try.underlying5 Try.underlying3 rfl) rfl ?_
    refine wq_val (at_max rfl rfl) rfl ?_
    refine wq_val (at_assign rfl) rfl ?_
    refine wq_val (at_assign rfl) rfl ?_
    refine wq_nil ?_; intro w21 hw so; rw [← hw] at h t_b18; clear hw
    refine wk_blkN ?_
    refine wk_prune [(4, .int .i64 (if s5.1 < (IntKind.wrap .i64 x14) then (IntKind.wrap .i64 x14) else s5.1)), (5, .int .i64 (if s5.2.1 < (IntKind.wrap .i64 x15) then (IntKind.wrap .i64 x15) else s5.2.1)), (9, .slice a0_3.a a0_3.n a0_3.c), (10, .int .i64 (a0_3.n : Int)), (11, .int .i64 s5.2.2)] ⟨rfl, rfl, rfl, rfl, rfl, trivial⟩ (fun f1 => ?_)
    refine wk_then ?_
    refine wc_region ?_
    refine wl_val (at_add rfl rfl) rfl ?_
    refine wl_val (at_move rfl) rfl ?_
    refine wl_nil ?_
    exact wk_again ⟨((if s5.1 < (IntKind.wrap .i64 x14) then (IntKind.wrap .i64 x14) else s5.1), (if s5.2.1 < (IntKind.wrap .i64 x15) then (IntKind.wrap .i64 x15) else s5.2.1), (IntKind.wrap .i64 (s5.2.2 + 1))), _, ac_again ⟨rfl, rfl, rfl, rfl, rfl, trivial⟩, so, h⟩
  · refine wc_exit ?_
    refine wk_thenE ?_
    refine wk_thenE ?_
    refine wk_blkE ?_
    refine wk_prune [(4, .int .i64 s5.1), (5, .int .i64 s5.2.1)] ⟨rfl, rfl, trivial⟩ (fun f1 => ?_)
    refine wk_then ?_
    refine wc_seq ?_
    refine wc_region ?_
    refine wl_val (at_move rfl) rfl ?_
    refine wl_val (at_move rfl) rfl ?_
    refine wl_val (at_assign rfl) rfl ?_
    refine wl_val (at_assign rfl) rfl ?_
    refine wl_nil ?_
    refine wk_prune [(2, .int .i64 s5.1), (3, .int .i64 s5.2.1)] ⟨rfl, rfl, trivial⟩ (fun f1 => ?_)
    refine wk_then ?_
    refine wc_ret ?_
    exact wk_ret2 (x := (s5.1, s5.2.1)) rfl (by decide) (by decide) rfl so h
def geom_Check.enc : Int → Value := fun r => .int .i64 r
def geom_Check.s (a0_0 : Int) (a0_1 : Int) (a0_2 : Int) (a0_3 : Sl) (H0 : Hp) (Q : Int → Hp → Prop) : Prop :=
  Gn [] H0 (fun (b1 : Nat) (H2 : Hp) => Join (fun (s4 : Bool) (H5 : Hp) => if s4 = true then (Q 140 H5) else (Join (fun (s7 : Bool) (H8 : Hp) => if s7 = true then (Q 143 H8) else (∃ k9, Fix (fun (rec14 : Int → Hp → Prop) (s11 : Int) (H12 : Hp) => if decide (s11 < (a0_3.n : Int)) = true then (0 ≤ s11 ∧ s11 < (a0_3.n : Int) ∧ someA a0_3.a (fun p17 => ∃ x19 : Int, ∃ x20 : Int, ∃ x21 : Int, ∃ x22 : Int, ldA H12 (p17.add (Int.toNat s11 * 4)) (c100 x19 x20 x21 x22) ∧ (Gn [] H12 (fun (b24 : Nat) (H26 : Hp) => 0 ≤ s11 ∧ s11 ≤ (a0_3.c : Int) ∧ (∃ k29, Fix (fun (rec34 : Int → Hp → Prop) (s31 : Int) (H32 : Hp) => if decide (s31 < ((slS a0_3 4 0 s11).n : Int)) = true then (0 ≤ s31 ∧ s31 < ((slS a0_3 4 0 s11).n : Int) ∧ someA ((slS a0_3 4 0 s11).a) (fun p37 => ∃ x39 : Int, ∃ x40 : Int, ∃ x41 : Int, ∃ x42 : Int, ldA H32 (p37.add (Int.toNat s31 * 4)) (c100 x39 x40 x41 x42) ∧ (Gn [] H32 (fun (b44 : Nat) (H46 : Hp) => if (x39 == x19) = true then (Q 143 H46) else (rec34 ((IntKind.wrap .i64 (s31 + 1))) H46))))) else (if decide ((3 : Int) < x22) = true then (Q 143 H32) else (rec14 ((IntKind.wrap .i64 (s11 + 1))) H32))) k29 (0) H26))))) else (geom_most.s a0_0 a0_1 a0_2 a0_3 H12 (fun x47 H48 => Pv [b1] H12 H48 ∧ (∃ k50, Fix (fun (rec55 : Int → Hp → Prop) (s52 : Int) (H53 : Hp) => if decide (s52 < (a0_3.n : Int)) = true then (0 ≤ s52 ∧ s52 < (a0_3.n : Int) ∧ someA a0_3.a (fun p58 => ∃ x60 : Int, ∃ x61 : Int, ∃ x62 : Int, ∃ x63 : Int, ldA H53 (p58.add (Int.toNat s52 * 4)) (c100 x60 x61 x62 x63) ∧ (Gn [] H53 (fun (b65 : Nat) (H67 : Hp) => Join (fun (s69 : Bool) (H70 : Hp) => if s69 = true then (Q 141 H70) else (rec55 ((IntKind.wrap .i64 (s52 + 1))) H70)) (fun (J68 : Bool → Hp → Prop) => if decide (x61 < 1) = true then (J68 (true) H67) else (if decide ((4 : Int) < x61) = true then (J68 (true) H67) else (if decide (x62 < 1) = true then (J68 (true) H67) else (J68 ((decide ((4 : Int) < x62))) H67)))))))) else (∃ k71, Fix (fun (rec76 : Int → Hp → Prop) (s73 : Int) (H74 : Hp) => if decide (s73 < (a0_3.n : Int)) = true then (0 ≤ s73 ∧ s73 < (a0_3.n : Int) ∧ someA a0_3.a (fun p79 => ∃ x81 : Int, ∃ x82 : Int, ∃ x83 : Int, ∃ x84 : Int, ldA H74 (p79.add (Int.toNat s73 * 4)) (c100 x81 x82 x83 x84) ∧ (Gn [] H74 (fun (b86 : Nat) (H88 : Hp) => Join (fun (s90 : Bool) (H91 : Hp) => if s90 = true then (Q 142 H91) else (rec76 ((IntKind.wrap .i64 (s73 + 1))) H91)) (fun (J89 : Bool → Hp → Prop) => (IntKind.wrap .i64 x82) ≠ 0 ∧ (if ((Int.tmod x47.1 (IntKind.wrap .i64 x82)) != 0) = true then (J89 (true) H88) else ((IntKind.wrap .i64 x83) ≠ 0 ∧ (J89 (((Int.tmod x47.2 (IntKind.wrap .i64 x83)) != 0)) H88)))))))) else (Q 0 H74)) k71 (0) H53)) k50 (0) H48)))) k9 (0) H8)) (fun (J6 : Bool → Hp → Prop) => if decide ((a0_3.n : Int) < 1) = true then (J6 (true) H5) else (J6 ((decide ((4 : Int) < (a0_3.n : Int)))) H5)))) (fun (J3 : Bool → Hp → Prop) => if decide (a0_1 < 1) = true then (J3 (true) H2) else (if decide ((65535 : Int) < a0_1) = true then (J3 (true) H2) else (if decide (a0_2 < 1) = true then (J3 (true) H2) else (J3 ((decide ((65535 : Int) < a0_2))) H2)))))
set_option maxRecDepth 20000 in
set_option maxHeartbeats 4000000 in
theorem geom_Check.calls (a0_0 : Int) (a0_1 : Int) (a0_2 : Int) (a0_3 : Sl) (w0 : World) (Q : Int → Hp → Prop) (h : geom_Check.s a0_0 a0_1 a0_2 a0_3 w0.heap Q) :
    Ca Try.prog 57 #[.agg (c24 a0_0 a0_1 a0_2 a0_3).toArray] w0 (Rt geom_Check.enc Q w0) := by
  refine ca_start (c := _) Try.func57 rfl Try.ntmps57 rfl ?_
  have so : Sm w0 w0 := Sm.refl w0
  unfold geom_Check.s at h
  refine wc_prune [(0, .agg (c24 a0_0 a0_1 a0_2 a0_3).toArray)] ⟨rfl, trivial⟩ (fun f1 => ?_)
  refine wc_seq ?_
  refine wc_region ?_
  refine wl_newT (T := 24) (cs := (c24 a0_0 a0_1 a0_2 a0_3)) (ef_box rfl rfl) rfl so ?_; intro b1 w2 hb_b1 t_b1 k_b1 so
  have g_b1 := Nat.le_of_eq hb_b1.symm
  have hc := k_b1.ch (F := [])
  refine wl_val (at_assign rfl) rfl ?_
  refine wl_nil ?_
  refine wk_prune [(1, .pointer (some (⟨b1, 0, none⟩ : Addr)))] ⟨rfl, trivial⟩ (fun f1 => ?_)
  refine wk_then ?_
  refine wc_seq ?_
  replace h := h b1 _ hc g_b1 t_b1.lt; clear hc
  refine wc_seq ?_
  refine wc_joinG (w0 := w0) (fun (H : Hp) => Bk H b1 24 (c24 a0_0 a0_1 a0_2 a0_3) ∧ True) (fun (s4 : Bool) => [(1, .pointer (some (⟨b1, 0, none⟩ : Addr))), (30, .bool s4)]) (fun (s4 : Bool) => []) h ?_ ?_
  · rintro s4 w5 f1 h ⟨t_b1, _⟩ so; refine wk_then ?_
    refine wc_cond rfl h (fun h => ?_) (fun h => ?_)
    · refine wc_seq ?_
      refine wc_region ?_
      refine wl_val (at_assign rfl) rfl ?_
      refine wl_nil ?_
      refine wk_prune [(2, .int .i64 140)] ⟨rfl, trivial⟩ (fun f1 => ?_)
      refine wk_then ?_
      refine wc_ret ?_
      refine wk_thenR ?_
      exact wk_ret1 (x := 140) rfl (by decide) rfl so h
    · refine wc_skip ?_
      refine wk_prune [(1, .pointer (some (⟨b1, 0, none⟩ : Addr)))] ⟨rfl, trivial⟩ (fun f1 => ?_)
      refine wk_then ?_
      refine wc_seq ?_
      refine wc_seq ?_
      refine wc_joinG (w0 := w0) (fun (H : Hp) => Bk H b1 24 (c24 a0_0 a0_1 a0_2 a0_3) ∧ True) (fun (s7 : Bool) => [(1, .pointer (some (⟨b1, 0, none⟩ : Addr))), (40, .bool s7)]) (fun (s7 : Bool) => []) h ?_ ?_
      · rintro s7 w8 f1 h ⟨t_b1, _⟩ so; refine wk_then ?_
        refine wc_cond rfl h (fun h => ?_) (fun h => ?_)
        · refine wc_seq ?_
          refine wc_region ?_
          refine wl_val (at_assign rfl) rfl ?_
          refine wl_nil ?_
          refine wk_prune [(2, .int .i64 143)] ⟨rfl, trivial⟩ (fun f1 => ?_)
          refine wk_then ?_
          refine wc_ret ?_
          refine wk_thenR ?_
          exact wk_ret1 (x := 143) rfl (by decide) rfl so h
        · refine wc_skip ?_
          refine wk_prune [(1, .pointer (some (⟨b1, 0, none⟩ : Addr)))] ⟨rfl, trivial⟩ (fun f1 => ?_)
          refine wk_then ?_
          refine wc_seq ?_
          refine wc_seq ?_
          refine wc_region ?_
          refine wl_val (at_fieldAddr Try.underlying24 rfl rfl sz22 (by decide) rfl) rfl ?_
          refine wl_val (at_load (v := .slice a0_3.a a0_3.n a0_3.c) Try.underlying22 rfl rfl ((t_b1.cell 3).trans (by first | rfl | simp [List.getElem?_append, ints_len, bools_len]))) rfl ?_
          refine wl_val (at_lenL Try.underlying22 rfl) rfl ?_
          refine wl_val (at_move rfl) rfl ?_
          refine wl_nil ?_
          refine wk_prune [(1, .pointer (some (⟨b1, 0, none⟩ : Addr))), (42, .slice a0_3.a a0_3.n a0_3.c), (43, .int .i64 (a0_3.n : Int)), (44, .int .i64 0)] ⟨rfl, rfl, rfl, rfl, trivial⟩ (fun f1 => ?_)
          refine wk_then ?_
          refine wc_block ?_
          obtain ⟨k9, h⟩ := h
          refine wc_loop (fun k a w => ∃ (s11 : Int) (f1 : Nat → Value), a = ac 121 (en f1 [(1, .pointer (some (⟨b1, 0, none⟩ : Addr))), (42, .slice a0_3.a a0_3.n a0_3.c), (43, .int .i64 (a0_3.n : Int)), (44, .int .i64 s11)]) [] ∧ Sm w0 w ∧ (Bk w.heap b1 24 (c24 a0_0 a0_1 a0_2 a0_3) ∧ True) ∧ Fix _ k s11 w.heap) k9 ⟨(0), _, ac_again ⟨rfl, rfl, rfl, rfl, trivial⟩, so, ⟨t_b1, trivial⟩, h⟩ ?_
          rintro k10 a13 w12 ⟨s11, f1, rfl, so, ⟨t_b1, _⟩, h⟩
          rcases k10 with _ | k10
          · exact h.elim
          replace h := Fix.un h; refine wc_in ?_
          refine wc_seq ?_
          refine wc_region ?_
          refine wl_val (at_lss rfl rfl) rfl ?_
          refine wl_nil ?_
          refine wk_prune [(1, .pointer (some (⟨b1, 0, none⟩ : Addr))), (42, .slice a0_3.a a0_3.n a0_3.c), (43, .int .i64 (a0_3.n : Int)), (44, .int .i64 s11), (45, .bool (decide (s11 < (a0_3.n : Int))))] ⟨rfl, rfl, rfl, rfl, rfl, trivial⟩ (fun f1 => ?_)
          refine wk_then ?_
          refine wc_seq ?_
          refine wc_cond rfl h (fun h => ?_) (fun h => ?_)
          · refine wc_skip ?_
            refine wk_prune [(1, .pointer (some (⟨b1, 0, none⟩ : Addr))), (42, .slice a0_3.a a0_3.n a0_3.c), (43, .int .i64 (a0_3.n : Int)), (44, .int .i64 s11)] ⟨rfl, rfl, rfl, rfl, trivial⟩ (fun f1 => ?_)
            refine wk_then ?_
            refine wc_seq ?_
            refine wc_block ?_
            refine wc_seq ?_
            refine wc_region ?_
            refine wl_val (at_move rfl) rfl ?_
            obtain ⟨q15, q16, p17, q18, h⟩ := h
            refine wl_val (at_ixAddrL Try.underlying22 sz100 (sl_some q18) rfl q15 q16) rfl ?_
            obtain ⟨x19, x20, x21, x22, q23, h⟩ := h
            refine wl_val (at_loadA (cs := (c100 x19 x20 x21 x22)) Try.underlying100 rfl (by rw [len100]; exact sz100) rfl q23) rfl ?_
            refine wl_newT (T := 100) (cs := (c100 0 0 0 0)) (ef_alloc zero100 rfl) rfl so ?_; intro b24 w25 hb_b24 t_b24 k_b24 so
            have g_b24 := Nat.le_of_eq hb_b24.symm
            have hc := k_b24.ch (F := [])
            have n_b1_b24 : b1 ≠ b24 := fun e => by have := t_b1.lt; omega
            replace t_b1 := t_b1.keep k_b24
            refine wl_val (at_assign rfl) rfl ?_
            refine wl_stWT (vs := (c100 x19 x20 x21 x22)) t_b24 (by first | (rw [len100, len100]) | (rw [len100]) | rfl) rfl so (fun q => ef_storeA (p := (⟨b24, 0, none⟩ : Addr)) (cs := (c100 x19 x20 x21 x22)) (by rw [len100]; exact sz100) rfl rfl (one100 _ _ _ _) q) ?_; intro w26 t_b24 s_w26 so
            replace t_b1 := t_b1.same s_w26 (n_b1_b24)
            replace hc := ch_same hc s_w26 (.inr g_b24)
            refine wl_nil ?_
            refine wk_prune [(1, .pointer (some (⟨b1, 0, none⟩ : Addr))), (3, .int .i64 s11), (4, .pointer (some (⟨b24, 0, none⟩ : Addr))), (42, .slice a0_3.a a0_3.n a0_3.c), (43, .int .i64 (a0_3.n : Int)), (44, .int .i64 s11)] ⟨rfl, rfl, rfl, rfl, rfl, rfl, trivial⟩ (fun f1 => ?_)
            refine wk_then ?_
            refine wc_seq ?_
            refine wc_seq ?_
            refine wc_region ?_
            refine wl_val (at_fieldAddr Try.underlying24 rfl rfl sz22 (by decide) rfl) rfl ?_
            refine wl_val (at_load (v := .slice a0_3.a a0_3.n a0_3.c) Try.underlying22 rfl rfl ((t_b1.cell 3).trans (by first | rfl | simp [List.getElem?_append, ints_len, bools_len]))) rfl ?_
            refine wl_val (at_move rfl) rfl ?_
            replace h := h b24 _ hc g_b24 t_b24.lt; clear hc
            obtain ⟨q27, q28, h⟩ := h
            refine wl_val (at_subLh (s := a0_3) Try.underlying22 sz100 rfl rfl q27 q28) rfl ?_
            refine wl_val (at_lenL Try.underlying22 rfl) rfl ?_
            refine wl_val (at_move rfl) rfl ?_
            refine wl_nil ?_
            refine wk_prune [(1, .pointer (some (⟨b1, 0, none⟩ : Addr))), (4, .pointer (some (⟨b24, 0, none⟩ : Addr))), (42, .slice a0_3.a a0_3.n a0_3.c), (43, .int .i64 (a0_3.n : Int)), (44, .int .i64 s11), (52, .slice ((slS a0_3 4 0 s11).a) ((slS a0_3 4 0 s11).n) ((slS a0_3 4 0 s11).c)), (53, .int .i64 ((slS a0_3 4 0 s11).n : Int)), (54, .int .i64 0)] ⟨rfl, rfl, rfl, rfl, rfl, rfl, rfl, rfl, trivial⟩ (fun f1 => ?_)
            refine wk_then ?_
            refine wc_block ?_
            obtain ⟨k29, h⟩ := h
            refine wc_loop (fun k a w => ∃ (s31 : Int) (f1 : Nat → Value), a = ac 121 (en f1 [(1, .pointer (some (⟨b1, 0, none⟩ : Addr))), (4, .pointer (some (⟨b24, 0, none⟩ : Addr))), (42, .slice a0_3.a a0_3.n a0_3.c), (43, .int .i64 (a0_3.n : Int)), (44, .int .i64 s11), (52, .slice ((slS a0_3 4 0 s11).a) ((slS a0_3 4 0 s11).n) ((slS a0_3 4 0 s11).c)), (53, .int .i64 ((slS a0_3 4 0 s11).n : Int)), (54, .int .i64 s31)]) [] ∧ Sm w0 w ∧ (Bk w.heap b1 24 (c24 a0_0 a0_1 a0_2 a0_3) ∧ Bk w.heap b24 100 (c100 x19 x20 x21 x22) ∧ True) ∧ Fix _ k s31 w.heap) k29 ⟨(0), _, ac_again ⟨rfl, rfl, rfl, rfl, rfl, rfl, rfl, rfl, trivial⟩, so, ⟨t_b1, t_b24, trivial⟩, h⟩ ?_
            rintro k30 a33 w32 ⟨s31, f1, rfl, so, ⟨t_b1, t_b24, _⟩, h⟩
            rcases k30 with _ | k30
            · exact h.elim
            replace h := Fix.un h; refine wc_in ?_
            refine wc_seq ?_
            refine wc_region ?_
            refine wl_val (at_lss rfl rfl) rfl ?_
            refine wl_nil ?_
            refine wk_prune [(1, .pointer (some (⟨b1, 0, none⟩ : Addr))), (4, .pointer (some (⟨b24, 0, none⟩ : Addr))), (42, .slice a0_3.a a0_3.n a0_3.c), (43, .int .i64 (a0_3.n : Int)), (44, .int .i64 s11), (52, .slice ((slS a0_3 4 0 s11).a) ((slS a0_3 4 0 s11).n) ((slS a0_3 4 0 s11).c)), (53, .int .i64 ((slS a0_3 4 0 s11).n : Int)), (54, .int .i64 s31), (55, .bool (decide (s31 < ((slS a0_3 4 0 s11).n : Int))))] ⟨rfl, rfl, rfl, rfl, rfl, rfl, rfl, rfl, rfl, trivial⟩ (fun f1 => ?_)
            refine wk_then ?_
            refine wc_seq ?_
            refine wc_cond rfl h (fun h => ?_) (fun h => ?_)
            · refine wc_skip ?_
              refine wk_prune [(1, .pointer (some (⟨b1, 0, none⟩ : Addr))), (4, .pointer (some (⟨b24, 0, none⟩ : Addr))), (42, .slice a0_3.a a0_3.n a0_3.c), (43, .int .i64 (a0_3.n : Int)), (44, .int .i64 s11), (52, .slice ((slS a0_3 4 0 s11).a) ((slS a0_3 4 0 s11).n) ((slS a0_3 4 0 s11).c)), (53, .int .i64 ((slS a0_3 4 0 s11).n : Int)), (54, .int .i64 s31)] ⟨rfl, rfl, rfl, rfl, rfl, rfl, rfl, rfl, trivial⟩ (fun f1 => ?_)
              refine wk_then ?_
              refine wc_seq ?_
              refine wc_block ?_
              refine wc_seq ?_
              refine wc_region ?_
              obtain ⟨q35, q36, p37, q38, h⟩ := h
              refine wl_val (at_ixAddrL Try.underlying22 sz100 (sl_some q38) rfl q35 q36) rfl ?_
              obtain ⟨x39, x40, x41, x42, q43, h⟩ := h
              refine wl_val (at_loadA (cs := (c100 x39 x40 x41 x42)) Try.underlying100 rfl (by rw [len100]; exact sz100) rfl q43) rfl ?_
              refine wl_newT (T := 100) (cs := (c100 0 0 0 0)) (ef_alloc zero100 rfl) rfl so ?_; intro b44 w45 hb_b44 t_b44 k_b44 so
              have g_b44 := Nat.le_of_eq hb_b44.symm
              have hc := k_b44.ch (F := [])
              have n_b1_b44 : b1 ≠ b44 := fun e => by have := t_b1.lt; omega
              replace t_b1 := t_b1.keep k_b44
              have n_b24_b44 : b24 ≠ b44 := fun e => by have := t_b24.lt; omega
              replace t_b24 := t_b24.keep k_b44
              refine wl_stWT (vs := (c100 x39 x40 x41 x42)) t_b44 (by first | (rw [len100, len100]) | (rw [len100]) | rfl) rfl so (fun q => ef_storeA (p := (⟨b44, 0, none⟩ : Addr)) (cs := (c100 x39 x40 x41 x42)) (by rw [len100]; exact sz100) rfl rfl (one100 _ _ _ _) q) ?_; intro w46 t_b44 s_w46 so
              replace t_b1 := t_b1.same s_w46 (n_b1_b44)
              replace t_b24 := t_b24.same s_w46 (n_b24_b44)
              replace hc := ch_same hc s_w46 (.inr g_b44)
              refine wl_nil ?_
              refine wk_prune [(1, .pointer (some (⟨b1, 0, none⟩ : Addr))), (4, .pointer (some (⟨b24, 0, none⟩ : Addr))), (6, .pointer (some (⟨b44, 0, none⟩ : Addr))), (42, .slice a0_3.a a0_3.n a0_3.c), (43, .int .i64 (a0_3.n : Int)), (44, .int .i64 s11), (52, .slice ((slS a0_3 4 0 s11).a) ((slS a0_3 4 0 s11).n) ((slS a0_3 4 0 s11).c)), (53, .int .i64 ((slS a0_3 4 0 s11).n : Int)), (54, .int .i64 s31)] ⟨rfl, rfl, rfl, rfl, rfl, rfl, rfl, rfl, rfl, trivial⟩ (fun f1 => ?_)
              refine wk_then ?_
              refine wc_seq ?_
              refine wc_region ?_
              refine wl_val (at_fieldAddr Try.underlying100 rfl rfl sz5 (by decide) rfl) rfl ?_
              refine wl_val (at_load (v := .int .u8 x39) Try.underlying5 rfl rfl ((t_b44.cell 0).trans (by first | rfl | simp [List.getElem?_append, ints_len, bools_len]))) rfl ?_
              refine wl_val (at_fieldAddr Try.underlying100 rfl rfl sz5 (by decide) rfl) rfl ?_
              refine wl_val (at_load (v := .int .u8 x19) Try.underlying5 rfl rfl ((t_b24.cell 0).trans (by first | rfl | simp [List.getElem?_append, ints_len, bools_len]))) rfl ?_
              refine wl_val (at_eql rfl rfl) rfl ?_
              refine wl_nil ?_
              refine wk_prune [(1, .pointer (some (⟨b1, 0, none⟩ : Addr))), (4, .pointer (some (⟨b24, 0, none⟩ : Addr))), (42, .slice a0_3.a a0_3.n a0_3.c), (43, .int .i64 (a0_3.n : Int)), (44, .int .i64 s11), (52, .slice ((slS a0_3 4 0 s11).a) ((slS a0_3 4 0 s11).n) ((slS a0_3 4 0 s11).c)), (53, .int .i64 ((slS a0_3 4 0 s11).n : Int)), (54, .int .i64 s31), (62, .bool (x39 == x19))] ⟨rfl, rfl, rfl, rfl, rfl, rfl, rfl, rfl, rfl, trivial⟩ (fun f1 => ?_)
              refine wk_then ?_
              replace h := h b44 _ hc g_b44 t_b44.lt; clear hc
              refine wc_cond rfl h (fun h => ?_) (fun h => ?_)
              · refine wc_seq ?_
                refine wc_region ?_
                refine wl_val (at_assign rfl) rfl ?_
                refine wl_nil ?_
                refine wk_prune [(2, .int .i64 143)] ⟨rfl, trivial⟩ (fun f1 => ?_)
                refine wk_then ?_
                refine wc_ret ?_
                refine wk_blkR ?_
                refine wk_thenR ?_
                refine wk_thenR ?_
                refine wk_blkR ?_
                refine wk_thenR ?_
                refine wk_blkR ?_
                refine wk_thenR ?_
                refine wk_thenR ?_
                refine wk_blkR ?_
                refine wk_thenR ?_
                exact wk_ret1 (x := 143) rfl (by decide) rfl so h
              · refine wc_skip ?_
                refine wk_blkN ?_
                refine wk_prune [(1, .pointer (some (⟨b1, 0, none⟩ : Addr))), (4, .pointer (some (⟨b24, 0, none⟩ : Addr))), (42, .slice a0_3.a a0_3.n a0_3.c), (43, .int .i64 (a0_3.n : Int)), (44, .int .i64 s11), (52, .slice ((slS a0_3 4 0 s11).a) ((slS a0_3 4 0 s11).n) ((slS a0_3 4 0 s11).c)), (53, .int .i64 ((slS a0_3 4 0 s11).n : Int)), (54, .int .i64 s31)] ⟨rfl, rfl, rfl, rfl, rfl, rfl, rfl, rfl, trivial⟩ (fun f1 => ?_)
                refine wk_then ?_
                refine wc_region ?_
                refine wl_val (at_add rfl rfl) rfl ?_
                refine wl_val (at_move rfl) rfl ?_
                refine wl_nil ?_
                exact wk_again ⟨((IntKind.wrap .i64 (s31 + 1))), _, ac_again ⟨rfl, rfl, rfl, rfl, rfl, rfl, rfl, rfl, trivial⟩, so, ⟨t_b1, t_b24, trivial⟩, h⟩
            · refine wc_exit ?_
              refine wk_thenE ?_
              refine wk_thenE ?_
              refine wk_blkE ?_
              refine wk_prune [(1, .pointer (some (⟨b1, 0, none⟩ : Addr))), (4, .pointer (some (⟨b24, 0, none⟩ : Addr))), (42, .slice a0_3.a a0_3.n a0_3.c), (43, .int .i64 (a0_3.n : Int)), (44, .int .i64 s11)] ⟨rfl, rfl, rfl, rfl, rfl, trivial⟩ (fun f1 => ?_)
              refine wk_then ?_
              refine wc_seq ?_
              refine wc_region ?_
              refine wl_val (at_fieldAddr Try.underlying100 rfl rfl sz5 (by decide) rfl) rfl ?_
              refine wl_val (at_load (v := .int .u8 x22) Try.underlying5 rfl rfl ((t_b24.cell 3).trans (by first | rfl | simp [List.getElem?_append, ints_len, bools_len]))) rfl ?_
              refine wl_val (at_gtr rfl rfl) rfl ?_
              refine wl_nil ?_
              refine wk_prune [(1, .pointer (some (⟨b1, 0, none⟩ : Addr))), (42, .slice a0_3.a a0_3.n a0_3.c), (43, .int .i64 (a0_3.n : Int)), (44, .int .i64 s11), (66, .bool (decide ((3 : Int) < x22)))] ⟨rfl, rfl, rfl, rfl, rfl, trivial⟩ (fun f1 => ?_)
              refine wk_then ?_
              refine wc_cond rfl h (fun h => ?_) (fun h => ?_)
              · refine wc_seq ?_
                refine wc_region ?_
                refine wl_val (at_assign rfl) rfl ?_
                refine wl_nil ?_
                refine wk_prune [(2, .int .i64 143)] ⟨rfl, trivial⟩ (fun f1 => ?_)
                refine wk_then ?_
                refine wc_ret ?_
                refine wk_blkR ?_
                refine wk_thenR ?_
                refine wk_thenR ?_
                refine wk_blkR ?_
                refine wk_thenR ?_
                exact wk_ret1 (x := 143) rfl (by decide) rfl so h
              · refine wc_skip ?_
                refine wk_blkN ?_
                refine wk_prune [(1, .pointer (some (⟨b1, 0, none⟩ : Addr))), (42, .slice a0_3.a a0_3.n a0_3.c), (43, .int .i64 (a0_3.n : Int)), (44, .int .i64 s11)] ⟨rfl, rfl, rfl, rfl, trivial⟩ (fun f1 => ?_)
                refine wk_then ?_
                refine wc_region ?_
                refine wl_val (at_add rfl rfl) rfl ?_
                refine wl_val (at_move rfl) rfl ?_
                refine wl_nil ?_
                exact wk_again ⟨((IntKind.wrap .i64 (s11 + 1))), _, ac_again ⟨rfl, rfl, rfl, rfl, trivial⟩, so, ⟨t_b1, trivial⟩, h⟩
          · refine wc_exit ?_
            refine wk_thenE ?_
            refine wk_thenE ?_
            refine wk_blkE ?_
            refine wk_prune [(1, .pointer (some (⟨b1, 0, none⟩ : Addr)))] ⟨rfl, trivial⟩ (fun f1 => ?_)
            refine wk_then ?_
            refine wc_seq ?_
            refine wc_region ?_
            refine wl_val (at_loadA (cs := (c24 a0_0 a0_1 a0_2 a0_3)) Try.underlying24 rfl (by rw [len24]; exact sz24) rfl (ldA_full t_b1)) rfl ?_
            refine wl_callF (geom_most.calls _ _ _ _ _ _ h) enter59 rfl trivial so ?_; intro x47 w48 h so
            obtain ⟨q49, h⟩ := h
            replace t_b1 := pv_bk q49 t_b1 (by simp)
            refine wl_val (at_move rfl) rfl ?_
            refine wl_val (at_extract rfl rfl) rfl ?_
            refine wl_val (at_extract rfl rfl) rfl ?_
            refine wl_val (at_assign rfl) rfl ?_
            refine wl_val (at_assign rfl) rfl ?_
            refine wl_nil ?_
            refine wk_prune [(1, .pointer (some (⟨b1, 0, none⟩ : Addr))), (7, .int .i64 x47.1), (8, .int .i64 x47.2)] ⟨rfl, rfl, rfl, trivial⟩ (fun f1 => ?_)
            refine wk_then ?_
            refine wc_seq ?_
            refine wc_seq ?_
            refine wc_region ?_
            refine wl_val (at_fieldAddr Try.underlying24 rfl rfl sz22 (by decide) rfl) rfl ?_
            refine wl_val (at_load (v := .slice a0_3.a a0_3.n a0_3.c) Try.underlying22 rfl rfl ((t_b1.cell 3).trans (by first | rfl | simp [List.getElem?_append, ints_len, bools_len]))) rfl ?_
            refine wl_val (at_lenL Try.underlying22 rfl) rfl ?_
            refine wl_val (at_move rfl) rfl ?_
            refine wl_nil ?_
            refine wk_prune [(1, .pointer (some (⟨b1, 0, none⟩ : Addr))), (7, .int .i64 x47.1), (8, .int .i64 x47.2), (74, .slice a0_3.a a0_3.n a0_3.c), (75, .int .i64 (a0_3.n : Int)), (76, .int .i64 0)] ⟨rfl, rfl, rfl, rfl, rfl, rfl, trivial⟩ (fun f1 => ?_)
            refine wk_then ?_
            refine wc_block ?_
            obtain ⟨k50, h⟩ := h
            refine wc_loop (fun k a w => ∃ (s52 : Int) (f1 : Nat → Value), a = ac 121 (en f1 [(1, .pointer (some (⟨b1, 0, none⟩ : Addr))), (7, .int .i64 x47.1), (8, .int .i64 x47.2), (74, .slice a0_3.a a0_3.n a0_3.c), (75, .int .i64 (a0_3.n : Int)), (76, .int .i64 s52)]) [] ∧ Sm w0 w ∧ (Bk w.heap b1 24 (c24 a0_0 a0_1 a0_2 a0_3) ∧ True) ∧ Fix _ k s52 w.heap) k50 ⟨(0), _, ac_again ⟨rfl, rfl, rfl, rfl, rfl, rfl, trivial⟩, so, ⟨t_b1, trivial⟩, h⟩ ?_
            rintro k51 a54 w53 ⟨s52, f1, rfl, so, ⟨t_b1, _⟩, h⟩
            rcases k51 with _ | k51
            · exact h.elim
            replace h := Fix.un h; refine wc_in ?_
            refine wc_seq ?_
            refine wc_region ?_
            refine wl_val (at_lss rfl rfl) rfl ?_
            refine wl_nil ?_
            refine wk_prune [(1, .pointer (some (⟨b1, 0, none⟩ : Addr))), (7, .int .i64 x47.1), (8, .int .i64 x47.2), (74, .slice a0_3.a a0_3.n a0_3.c), (75, .int .i64 (a0_3.n : Int)), (76, .int .i64 s52), (77, .bool (decide (s52 < (a0_3.n : Int))))] ⟨rfl, rfl, rfl, rfl, rfl, rfl, rfl, trivial⟩ (fun f1 => ?_)
            refine wk_then ?_
            refine wc_seq ?_
            refine wc_cond rfl h (fun h => ?_) (fun h => ?_)
            · refine wc_skip ?_
              refine wk_prune [(1, .pointer (some (⟨b1, 0, none⟩ : Addr))), (7, .int .i64 x47.1), (8, .int .i64 x47.2), (74, .slice a0_3.a a0_3.n a0_3.c), (75, .int .i64 (a0_3.n : Int)), (76, .int .i64 s52)] ⟨rfl, rfl, rfl, rfl, rfl, rfl, trivial⟩ (fun f1 => ?_)
              refine wk_then ?_
              refine wc_seq ?_
              refine wc_block ?_
              refine wc_seq ?_
              refine wc_region ?_
              obtain ⟨q56, q57, p58, q59, h⟩ := h
              refine wl_val (at_ixAddrL Try.underlying22 sz100 (sl_some q59) rfl q56 q57) rfl ?_
              obtain ⟨x60, x61, x62, x63, q64, h⟩ := h
              refine wl_val (at_loadA (cs := (c100 x60 x61 x62 x63)) Try.underlying100 rfl (by rw [len100]; exact sz100) rfl q64) rfl ?_
              refine wl_newT (T := 100) (cs := (c100 0 0 0 0)) (ef_alloc zero100 rfl) rfl so ?_; intro b65 w66 hb_b65 t_b65 k_b65 so
              have g_b65 := Nat.le_of_eq hb_b65.symm
              have hc := k_b65.ch (F := [])
              have n_b1_b65 : b1 ≠ b65 := fun e => by have := t_b1.lt; omega
              replace t_b1 := t_b1.keep k_b65
              refine wl_stWT (vs := (c100 x60 x61 x62 x63)) t_b65 (by first | (rw [len100, len100]) | (rw [len100]) | rfl) rfl so (fun q => ef_storeA (p := (⟨b65, 0, none⟩ : Addr)) (cs := (c100 x60 x61 x62 x63)) (by rw [len100]; exact sz100) rfl rfl (one100 _ _ _ _) q) ?_; intro w67 t_b65 s_w67 so
              replace t_b1 := t_b1.same s_w67 (n_b1_b65)
              replace hc := ch_same hc s_w67 (.inr g_b65)
              refine wl_nil ?_
              refine wk_prune [(1, .pointer (some (⟨b1, 0, none⟩ : Addr))), (7, .int .i64 x47.1), (8, .int .i64 x47.2), (10, .pointer (some (⟨b65, 0, none⟩ : Addr))), (74, .slice a0_3.a a0_3.n a0_3.c), (75, .int .i64 (a0_3.n : Int)), (76, .int .i64 s52)] ⟨rfl, rfl, rfl, rfl, rfl, rfl, rfl, trivial⟩ (fun f1 => ?_)
              refine wk_then ?_
              replace h := h b65 _ hc g_b65 t_b65.lt; clear hc
              refine wc_seq ?_
              refine wc_joinG (w0 := w0) (fun (H : Hp) => Bk H b1 24 (c24 a0_0 a0_1 a0_2 a0_3) ∧ True) (fun (s69 : Bool) => [(1, .pointer (some (⟨b1, 0, none⟩ : Addr))), (7, .int .i64 x47.1), (8, .int .i64 x47.2), (74, .slice a0_3.a a0_3.n a0_3.c), (75, .int .i64 (a0_3.n : Int)), (76, .int .i64 s52), (97, .bool s69)]) (fun (s69 : Bool) => []) h ?_ ?_
              · rintro s69 w70 f1 h ⟨t_b1, _⟩ so; refine wk_then ?_
                refine wc_cond rfl h (fun h => ?_) (fun h => ?_)
                · refine wc_seq ?_
                  refine wc_region ?_
                  refine wl_val (at_assign rfl) rfl ?_
                  refine wl_nil ?_
                  refine wk_prune [(2, .int .i64 141)] ⟨rfl, trivial⟩ (fun f1 => ?_)
                  refine wk_then ?_
                  refine wc_ret ?_
                  refine wk_blkR ?_
                  refine wk_thenR ?_
                  refine wk_thenR ?_
                  refine wk_blkR ?_
                  refine wk_thenR ?_
                  exact wk_ret1 (x := 141) rfl (by decide) rfl so h
                · refine wc_skip ?_
                  refine wk_blkN ?_
                  refine wk_prune [(1, .pointer (some (⟨b1, 0, none⟩ : Addr))), (7, .int .i64 x47.1), (8, .int .i64 x47.2), (74, .slice a0_3.a a0_3.n a0_3.c), (75, .int .i64 (a0_3.n : Int)), (76, .int .i64 s52)] ⟨rfl, rfl, rfl, rfl, rfl, rfl, trivial⟩ (fun f1 => ?_)
                  refine wk_then ?_
                  refine wc_region ?_
                  refine wl_val (at_add rfl rfl) rfl ?_
                  refine wl_val (at_move rfl) rfl ?_
                  refine wl_nil ?_
                  exact wk_again ⟨((IntKind.wrap .i64 (s52 + 1))), _, ac_again ⟨rfl, rfl, rfl, rfl, rfl, rfl, trivial⟩, so, ⟨t_b1, trivial⟩, h⟩
              · intro J68 h hJ68
                refine wc_region ?_
                refine wl_val (at_fieldAddr Try.underlying100 rfl rfl sz5 (by decide) rfl) rfl ?_
                refine wl_val (at_load (v := .int .u8 x61) Try.underlying5 rfl rfl ((t_b65.cell 1).trans (by first | rfl | simp [List.getElem?_append, ints_len, bools_len]))) rfl ?_
                refine wl_val (at_lss rfl rfl) rfl ?_
                refine wl_val (at_move rfl) rfl ?_
                refine bif_ h (fun hb h => ?_) (fun hb h => ?_)
                · refine wl_set (t := 83) (v := .bool true) (congrArg Value.bool hb) ?_; clear hb
                  refine wl_off (t := 83) rfl (by decide) rfl ?_
                  refine wl_off (t := 83) rfl (by decide) rfl ?_
                  refine wl_off (t := 83) rfl (by decide) rfl ?_
                  refine wl_val (at_pick_t rfl rfl) rfl ?_
                  refine wl_val (at_move rfl) rfl ?_
                  refine wl_off (t := 88) rfl (by decide) rfl ?_
                  refine wl_off (t := 88) rfl (by decide) rfl ?_
                  refine wl_off (t := 88) rfl (by decide) rfl ?_
                  refine wl_val (at_pick_t rfl rfl) rfl ?_
                  refine wl_val (at_move rfl) rfl ?_
                  refine wl_off (t := 93) rfl (by decide) rfl ?_
                  refine wl_off (t := 93) rfl (by decide) rfl ?_
                  refine wl_off (t := 93) rfl (by decide) rfl ?_
                  refine wl_val (at_pick_t rfl rfl) rfl ?_
                  refine wl_nil ?_
                  exact wk_prune [(1, .pointer (some (⟨b1, 0, none⟩ : Addr))), (7, .int .i64 x47.1), (8, .int .i64 x47.2), (74, .slice a0_3.a a0_3.n a0_3.c), (75, .int .i64 (a0_3.n : Int)), (76, .int .i64 s52), (97, .bool true)] ⟨rfl, rfl, rfl, rfl, rfl, rfl, rfl, trivial⟩ (fun f1 => hJ68 (true) _ f1 h ⟨t_b1, trivial⟩ so)
                · refine wl_set (t := 83) (v := .bool false) (congrArg Value.bool hb) ?_; clear hb
                  refine wl_on (t := 83) rfl (by decide) rfl ?_
                  refine wl_val (at_fieldAddr Try.underlying100 rfl rfl sz5 (by decide) rfl) rfl ?_
                  refine wl_on (t := 83) rfl (by decide) rfl ?_
                  refine wl_val (at_load (v := .int .u8 x61) Try.underlying5 rfl rfl ((t_b65.cell 1).trans (by first | rfl | simp [List.getElem?_append, ints_len, bools_len]))) rfl ?_
                  refine wl_on (t := 83) rfl (by decide) rfl ?_
                  refine wl_val (at_gtr rfl rfl) rfl ?_
                  refine wl_val (at_pick_f rfl rfl) rfl ?_
                  refine wl_val (at_move rfl) rfl ?_
                  refine bif_ h (fun hb h => ?_) (fun hb h => ?_)
                  · refine wl_set (t := 88) (v := .bool true) (congrArg Value.bool hb) ?_; clear hb
                    refine wl_off (t := 88) rfl (by decide) rfl ?_
                    refine wl_off (t := 88) rfl (by decide) rfl ?_
                    refine wl_off (t := 88) rfl (by decide) rfl ?_
                    refine wl_val (at_pick_t rfl rfl) rfl ?_
                    refine wl_val (at_move rfl) rfl ?_
                    refine wl_off (t := 93) rfl (by decide) rfl ?_
                    refine wl_off (t := 93) rfl (by decide) rfl ?_
                    refine wl_off (t := 93) rfl (by decide) rfl ?_
                    refine wl_val (at_pick_t rfl rfl) rfl ?_
                    refine wl_nil ?_
                    exact wk_prune [(1, .pointer (some (⟨b1, 0, none⟩ : Addr))), (7, .int .i64 x47.1), (8, .int .i64 x47.2), (74, .slice a0_3.a a0_3.n a0_3.c), (75, .int .i64 (a0_3.n : Int)), (76, .int .i64 s52), (97, .bool true)] ⟨rfl, rfl, rfl, rfl, rfl, rfl, rfl, trivial⟩ (fun f1 => hJ68 (true) _ f1 h ⟨t_b1, trivial⟩ so)
                  · refine wl_set (t := 88) (v := .bool false) (congrArg Value.bool hb) ?_; clear hb
                    refine wl_on (t := 88) rfl (by decide) rfl ?_
                    refine wl_val (at_fieldAddr Try.underlying100 rfl rfl sz5 (by decide) rfl) rfl ?_
                    refine wl_on (t := 88) rfl (by decide) rfl ?_
                    refine wl_val (at_load (v := .int .u8 x62) Try.underlying5 rfl rfl ((t_b65.cell 2).trans (by first | rfl | simp [List.getElem?_append, ints_len, bools_len]))) rfl ?_
                    refine wl_on (t := 88) rfl (by decide) rfl ?_
                    refine wl_val (at_lss rfl rfl) rfl ?_
                    refine wl_val (at_pick_f rfl rfl) rfl ?_
                    refine wl_val (at_move rfl) rfl ?_
                    refine bif_ h (fun hb h => ?_) (fun hb h => ?_)
                    · refine wl_set (t := 93) (v := .bool true) (congrArg Value.bool hb) ?_; clear hb
                      refine wl_off (t := 93) rfl (by decide) rfl ?_
                      refine wl_off (t := 93) rfl (by decide) rfl ?_
                      refine wl_off (t := 93) rfl (by decide) rfl ?_
                      refine wl_val (at_pick_t rfl rfl) rfl ?_
                      refine wl_nil ?_
                      exact wk_prune [(1, .pointer (some (⟨b1, 0, none⟩ : Addr))), (7, .int .i64 x47.1), (8, .int .i64 x47.2), (74, .slice a0_3.a a0_3.n a0_3.c), (75, .int .i64 (a0_3.n : Int)), (76, .int .i64 s52), (97, .bool true)] ⟨rfl, rfl, rfl, rfl, rfl, rfl, rfl, trivial⟩ (fun f1 => hJ68 (true) _ f1 h ⟨t_b1, trivial⟩ so)
                    · refine wl_set (t := 93) (v := .bool false) (congrArg Value.bool hb) ?_; clear hb
                      refine wl_on (t := 93) rfl (by decide) rfl ?_
                      refine wl_val (at_fieldAddr Try.underlying100 rfl rfl sz5 (by decide) rfl) rfl ?_
                      refine wl_on (t := 93) rfl (by decide) rfl ?_
                      refine wl_val (at_load (v := .int .u8 x62) Try.underlying5 rfl rfl ((t_b65.cell 2).trans (by first | rfl | simp [List.getElem?_append, ints_len, bools_len]))) rfl ?_
                      refine wl_on (t := 93) rfl (by decide) rfl ?_
                      refine wl_val (at_gtr rfl rfl) rfl ?_
                      refine wl_val (at_pick_f rfl rfl) rfl ?_
                      refine wl_nil ?_
                      exact wk_prune [(1, .pointer (some (⟨b1, 0, none⟩ : Addr))), (7, .int .i64 x47.1), (8, .int .i64 x47.2), (74, .slice a0_3.a a0_3.n a0_3.c), (75, .int .i64 (a0_3.n : Int)), (76, .int .i64 s52), (97, .bool (decide ((4 : Int) < x62)))] ⟨rfl, rfl, rfl, rfl, rfl, rfl, rfl, trivial⟩ (fun f1 => hJ68 ((decide ((4 : Int) < x62))) _ f1 h ⟨t_b1, trivial⟩ so)
            · refine wc_exit ?_
              refine wk_thenE ?_
              refine wk_thenE ?_
              refine wk_blkE ?_
              refine wk_prune [(1, .pointer (some (⟨b1, 0, none⟩ : Addr))), (7, .int .i64 x47.1), (8, .int .i64 x47.2)] ⟨rfl, rfl, rfl, trivial⟩ (fun f1 => ?_)
              refine wk_then ?_
              refine wc_seq ?_
              refine wc_seq ?_
              refine wc_region ?_
              refine wl_val (at_fieldAddr Try.underlying24 rfl rfl sz22 (by decide) rfl) rfl ?_
              refine wl_val (at_load (v := .slice a0_3.a a0_3.n a0_3.c) Try.underlying22 rfl rfl ((t_b1.cell 3).trans (by first | rfl | simp [List.getElem?_append, ints_len, bools_len]))) rfl ?_
              refine wl_val (at_lenL Try.underlying22 rfl) rfl ?_
              refine wl_val (at_move rfl) rfl ?_
              refine wl_nil ?_
              refine wk_prune [(7, .int .i64 x47.1), (8, .int .i64 x47.2), (100, .slice a0_3.a a0_3.n a0_3.c), (101, .int .i64 (a0_3.n : Int)), (102, .int .i64 0)] ⟨rfl, rfl, rfl, rfl, rfl, trivial⟩ (fun f1 => ?_)
              refine wk_then ?_
              refine wc_block ?_
              obtain ⟨k71, h⟩ := h
              refine wc_loop (fun k a w => ∃ (s73 : Int) (f1 : Nat → Value), a = ac 121 (en f1 [(7, .int .i64 x47.1), (8, .int .i64 x47.2), (100, .slice a0_3.a a0_3.n a0_3.c), (101, .int .i64 (a0_3.n : Int)), (102, .int .i64 s73)]) [] ∧ Sm w0 w ∧ Fix _ k s73 w.heap) k71 ⟨(0), _, ac_again ⟨rfl, rfl, rfl, rfl, rfl, trivial⟩, so, h⟩ ?_
              rintro k72 a75 w74 ⟨s73, f1, rfl, so, h⟩
              rcases k72 with _ | k72
              · exact h.elim
              replace h := Fix.un h; refine wc_in ?_
              refine wc_seq ?_
              refine wc_region ?_
              refine wl_val (at_lss rfl rfl) rfl ?_
              refine wl_nil ?_
              refine wk_prune [(7, .int .i64 x47.1), (8, .int .i64 x47.2), (100, .slice a0_3.a a0_3.n a0_3.c), (101, .int .i64 (a0_3.n : Int)), (102, .int .i64 s73), (103, .bool (decide (s73 < (a0_3.n : Int))))] ⟨rfl, rfl, rfl, rfl, rfl, rfl, trivial⟩ (fun f1 => ?_)
              refine wk_then ?_
              refine wc_seq ?_
              refine wc_cond rfl h (fun h => ?_) (fun h => ?_)
              · refine wc_skip ?_
                refine wk_prune [(7, .int .i64 x47.1), (8, .int .i64 x47.2), (100, .slice a0_3.a a0_3.n a0_3.c), (101, .int .i64 (a0_3.n : Int)), (102, .int .i64 s73)] ⟨rfl, rfl, rfl, rfl, rfl, trivial⟩ (fun f1 => ?_)
                refine wk_then ?_
                refine wc_seq ?_
                refine wc_block ?_
                refine wc_seq ?_
                refine wc_region ?_
                obtain ⟨q77, q78, p79, q80, h⟩ := h
                refine wl_val (at_ixAddrL Try.underlying22 sz100 (sl_some q80) rfl q77 q78) rfl ?_
                obtain ⟨x81, x82, x83, x84, q85, h⟩ := h
                refine wl_val (at_loadA (cs := (c100 x81 x82 x83 x84)) Try.underlying100 rfl (by rw [len100]; exact sz100) rfl q85) rfl ?_
                refine wl_newT (T := 100) (cs := (c100 0 0 0 0)) (ef_alloc zero100 rfl) rfl so ?_; intro b86 w87 hb_b86 t_b86 k_b86 so
                have g_b86 := Nat.le_of_eq hb_b86.symm
                have hc := k_b86.ch (F := [])
                refine wl_stWT (vs := (c100 x81 x82 x83 x84)) t_b86 (by first | (rw [len100, len100]) | (rw [len100]) | rfl) rfl so (fun q => ef_storeA (p := (⟨b86, 0, none⟩ : Addr)) (cs := (c100 x81 x82 x83 x84)) (by rw [len100]; exact sz100) rfl rfl (one100 _ _ _ _) q) ?_; intro w88 t_b86 s_w88 so
                replace hc := ch_same hc s_w88 (.inr g_b86)
                refine wl_nil ?_
                refine wk_prune [(7, .int .i64 x47.1), (8, .int .i64 x47.2), (12, .pointer (some (⟨b86, 0, none⟩ : Addr))), (100, .slice a0_3.a a0_3.n a0_3.c), (101, .int .i64 (a0_3.n : Int)), (102, .int .i64 s73)] ⟨rfl, rfl, rfl, rfl, rfl, rfl, trivial⟩ (fun f1 => ?_)
                refine wk_then ?_
                replace h := h b86 _ hc g_b86 t_b86.lt; clear hc
                refine wc_seq ?_
                refine wc_join (w0 := w0) (fun (s90 : Bool) => [(7, .int .i64 x47.1), (8, .int .i64 x47.2), (100, .slice a0_3.a a0_3.n a0_3.c), (101, .int .i64 (a0_3.n : Int)), (102, .int .i64 s73), (119, .bool s90)]) h ?_ ?_
                · rintro s90 w91 f1 h so; refine wk_then ?_
                  refine wc_cond rfl h (fun h => ?_) (fun h => ?_)
                  · refine wc_seq ?_
                    refine wc_region ?_
                    refine wl_val (at_assign rfl) rfl ?_
                    refine wl_nil ?_
                    refine wk_prune [(2, .int .i64 142)] ⟨rfl, trivial⟩ (fun f1 => ?_)
                    refine wk_then ?_
                    refine wc_ret ?_
                    refine wk_blkR ?_
                    refine wk_thenR ?_
                    refine wk_thenR ?_
                    refine wk_blkR ?_
                    refine wk_thenR ?_
                    exact wk_ret1 (x := 142) rfl (by decide) rfl so h
                  · refine wc_skip ?_
                    refine wk_blkN ?_
                    refine wk_prune [(7, .int .i64 x47.1), (8, .int .i64 x47.2), (100, .slice a0_3.a a0_3.n a0_3.c), (101, .int .i64 (a0_3.n : Int)), (102, .int .i64 s73)] ⟨rfl, rfl, rfl, rfl, rfl, trivial⟩ (fun f1 => ?_)
                    refine wk_then ?_
                    refine wc_region ?_
                    refine wl_val (at_add rfl rfl) rfl ?_
                    refine wl_val (at_move rfl) rfl ?_
                    refine wl_nil ?_
                    exact wk_again ⟨((IntKind.wrap .i64 (s73 + 1))), _, ac_again ⟨rfl, rfl, rfl, rfl, rfl, trivial⟩, so, h⟩
                · intro J89 h hJ89
                  refine wc_region ?_
                  refine wl_val (at_move rfl) rfl ?_
                  refine wl_val (at_fieldAddr Try.underlying100 rfl rfl sz5 (by decide) rfl) rfl ?_
                  refine wl_val (at_load (v := .int .u8 x82) Try.underlying5 rfl rfl ((t_b86.cell 1).trans (by first | rfl | simp [List.getElem?_append, ints_len, bools_len]))) rfl ?_
                  refine wl_val (at_conv Try.underlying5 Try.underlying3 rfl) rfl ?_
                  obtain ⟨q92, h⟩ := h
                  refine wl_val (at_rem rfl rfl q92) rfl ?_
                  refine wl_val (at_neq rfl rfl) rfl ?_
                  refine wl_val (at_move rfl) rfl ?_
                  refine bif_ h (fun hb h => ?_) (fun hb h => ?_)
                  · refine wl_set (t := 112) (v := .bool true) (congrArg Value.bool hb) ?_; clear hb
                    refine wl_off (t := 112) rfl (by decide) rfl ?_
                    refine wl_off (t := 112) rfl (by decide) rfl ?_
                    refine wl_off (t := 112) rfl (by decide) rfl ?_
                    refine wl_off (t := 112) rfl (by decide) rfl ?_
                    refine wl_off (t := 112) rfl (by decide) rfl ?_
                    refine wl_off (t := 112) rfl (by decide) rfl ?_
                    refine wl_val (at_pick_t rfl rfl) rfl ?_
                    refine wl_nil ?_
                    exact wk_prune [(7, .int .i64 x47.1), (8, .int .i64 x47.2), (100, .slice a0_3.a a0_3.n a0_3.c), (101, .int .i64 (a0_3.n : Int)), (102, .int .i64 s73), (119, .bool true)] ⟨rfl, rfl, rfl, rfl, rfl, rfl, trivial⟩ (fun f1 => hJ89 (true) _ f1 h so)
                  · refine wl_set (t := 112) (v := .bool false) (congrArg Value.bool hb) ?_; clear hb
                    refine wl_on (t := 112) rfl (by decide) rfl ?_
                    refine wl_val (at_move rfl) rfl ?_
                    refine wl_on (t := 112) rfl (by decide) rfl ?_
                    refine wl_val (at_fieldAddr Try.underlying100 rfl rfl sz5 (by decide) rfl) rfl ?_
                    refine wl_on (t := 112) rfl (by decide) rfl ?_
                    refine wl_val (at_load (v := .int .u8 x83) Try.underlying5 rfl rfl ((t_b86.cell 2).trans (by first | rfl | simp [List.getElem?_append, ints_len, bools_len]))) rfl ?_
                    refine wl_on (t := 112) rfl (by decide) rfl ?_
                    refine wl_val (at_conv Try.underlying5 Try.underlying3 rfl) rfl ?_
                    refine wl_on (t := 112) rfl (by decide) rfl ?_
                    obtain ⟨q93, h⟩ := h
                    refine wl_val (at_rem rfl rfl q93) rfl ?_
                    refine wl_on (t := 112) rfl (by decide) rfl ?_
                    refine wl_val (at_neq rfl rfl) rfl ?_
                    refine wl_val (at_pick_f rfl rfl) rfl ?_
                    refine wl_nil ?_
                    exact wk_prune [(7, .int .i64 x47.1), (8, .int .i64 x47.2), (100, .slice a0_3.a a0_3.n a0_3.c), (101, .int .i64 (a0_3.n : Int)), (102, .int .i64 s73), (119, .bool ((Int.tmod x47.2 (IntKind.wrap .i64 x83)) != 0))] ⟨rfl, rfl, rfl, rfl, rfl, rfl, trivial⟩ (fun f1 => hJ89 (((Int.tmod x47.2 (IntKind.wrap .i64 x83)) != 0)) _ f1 h so)
              · refine wc_exit ?_
                refine wk_thenE ?_
                refine wk_thenE ?_
                refine wk_blkE ?_
                refine wk_prune [] trivial (fun f1 => ?_)
                refine wk_then ?_
                refine wc_seq ?_
                refine wc_region ?_
                refine wl_val (at_assign rfl) rfl ?_
                refine wl_nil ?_
                refine wk_prune [(2, .int .i64 0)] ⟨rfl, trivial⟩ (fun f1 => ?_)
                refine wk_then ?_
                refine wc_ret ?_
                exact wk_ret1 (x := 0) rfl (by decide) rfl so h
      · intro J6 h hJ6
        refine wc_region ?_
        refine wl_val (at_fieldAddr Try.underlying24 rfl rfl sz22 (by decide) rfl) rfl ?_
        refine wl_val (at_load (v := .slice a0_3.a a0_3.n a0_3.c) Try.underlying22 rfl rfl ((t_b1.cell 3).trans (by first | rfl | simp [List.getElem?_append, ints_len, bools_len]))) rfl ?_
        refine wl_val (at_lenL Try.underlying22 rfl) rfl ?_
        refine wl_val (at_lss rfl rfl) rfl ?_
        refine wl_val (at_move rfl) rfl ?_
        refine bif_ h (fun hb h => ?_) (fun hb h => ?_)
        · refine wl_set (t := 35) (v := .bool true) (congrArg Value.bool hb) ?_; clear hb
          refine wl_off (t := 35) rfl (by decide) rfl ?_
          refine wl_off (t := 35) rfl (by decide) rfl ?_
          refine wl_off (t := 35) rfl (by decide) rfl ?_
          refine wl_off (t := 35) rfl (by decide) rfl ?_
          refine wl_val (at_pick_t rfl rfl) rfl ?_
          refine wl_nil ?_
          exact wk_prune [(1, .pointer (some (⟨b1, 0, none⟩ : Addr))), (40, .bool true)] ⟨rfl, rfl, trivial⟩ (fun f1 => hJ6 (true) _ f1 h ⟨t_b1, trivial⟩ so)
        · refine wl_set (t := 35) (v := .bool false) (congrArg Value.bool hb) ?_; clear hb
          refine wl_on (t := 35) rfl (by decide) rfl ?_
          refine wl_val (at_fieldAddr Try.underlying24 rfl rfl sz22 (by decide) rfl) rfl ?_
          refine wl_on (t := 35) rfl (by decide) rfl ?_
          refine wl_val (at_load (v := .slice a0_3.a a0_3.n a0_3.c) Try.underlying22 rfl rfl ((t_b1.cell 3).trans (by first | rfl | simp [List.getElem?_append, ints_len, bools_len]))) rfl ?_
          refine wl_on (t := 35) rfl (by decide) rfl ?_
          refine wl_val (at_lenL Try.underlying22 rfl) rfl ?_
          refine wl_on (t := 35) rfl (by decide) rfl ?_
          refine wl_val (at_gtr rfl rfl) rfl ?_
          refine wl_val (at_pick_f rfl rfl) rfl ?_
          refine wl_nil ?_
          exact wk_prune [(1, .pointer (some (⟨b1, 0, none⟩ : Addr))), (40, .bool (decide ((4 : Int) < (a0_3.n : Int))))] ⟨rfl, rfl, trivial⟩ (fun f1 => hJ6 ((decide ((4 : Int) < (a0_3.n : Int)))) _ f1 h ⟨t_b1, trivial⟩ so)
  · intro J3 h hJ3
    refine wc_region ?_
    refine wl_val (at_fieldAddr Try.underlying24 rfl rfl sz3 (by decide) rfl) rfl ?_
    refine wl_val (at_load (v := .int .i64 a0_1) Try.underlying3 rfl rfl ((t_b1.cell 1).trans (by first | rfl | simp [List.getElem?_append, ints_len, bools_len]))) rfl ?_
    refine wl_val (at_lss rfl rfl) rfl ?_
    refine wl_val (at_move rfl) rfl ?_
    refine bif_ h (fun hb h => ?_) (fun hb h => ?_)
    · refine wl_set (t := 16) (v := .bool true) (congrArg Value.bool hb) ?_; clear hb
      refine wl_off (t := 16) rfl (by decide) rfl ?_
      refine wl_off (t := 16) rfl (by decide) rfl ?_
      refine wl_off (t := 16) rfl (by decide) rfl ?_
      refine wl_val (at_pick_t rfl rfl) rfl ?_
      refine wl_val (at_move rfl) rfl ?_
      refine wl_off (t := 21) rfl (by decide) rfl ?_
      refine wl_off (t := 21) rfl (by decide) rfl ?_
      refine wl_off (t := 21) rfl (by decide) rfl ?_
      refine wl_val (at_pick_t rfl rfl) rfl ?_
      refine wl_val (at_move rfl) rfl ?_
      refine wl_off (t := 26) rfl (by decide) rfl ?_
      refine wl_off (t := 26) rfl (by decide) rfl ?_
      refine wl_off (t := 26) rfl (by decide) rfl ?_
      refine wl_val (at_pick_t rfl rfl) rfl ?_
      refine wl_nil ?_
      exact wk_prune [(1, .pointer (some (⟨b1, 0, none⟩ : Addr))), (30, .bool true)] ⟨rfl, rfl, trivial⟩ (fun f1 => hJ3 (true) _ f1 h ⟨t_b1, trivial⟩ so)
    · refine wl_set (t := 16) (v := .bool false) (congrArg Value.bool hb) ?_; clear hb
      refine wl_on (t := 16) rfl (by decide) rfl ?_
      refine wl_val (at_fieldAddr Try.underlying24 rfl rfl sz3 (by decide) rfl) rfl ?_
      refine wl_on (t := 16) rfl (by decide) rfl ?_
      refine wl_val (at_load (v := .int .i64 a0_1) Try.underlying3 rfl rfl ((t_b1.cell 1).trans (by first | rfl | simp [List.getElem?_append, ints_len, bools_len]))) rfl ?_
      refine wl_on (t := 16) rfl (by decide) rfl ?_
      refine wl_val (at_gtr rfl rfl) rfl ?_
      refine wl_val (at_pick_f rfl rfl) rfl ?_
      refine wl_val (at_move rfl) rfl ?_
      refine bif_ h (fun hb h => ?_) (fun hb h => ?_)
      · refine wl_set (t := 21) (v := .bool true) (congrArg Value.bool hb) ?_; clear hb
        refine wl_off (t := 21) rfl (by decide) rfl ?_
        refine wl_off (t := 21) rfl (by decide) rfl ?_
        refine wl_off (t := 21) rfl (by decide) rfl ?_
        refine wl_val (at_pick_t rfl rfl) rfl ?_
        refine wl_val (at_move rfl) rfl ?_
        refine wl_off (t := 26) rfl (by decide) rfl ?_
        refine wl_off (t := 26) rfl (by decide) rfl ?_
        refine wl_off (t := 26) rfl (by decide) rfl ?_
        refine wl_val (at_pick_t rfl rfl) rfl ?_
        refine wl_nil ?_
        exact wk_prune [(1, .pointer (some (⟨b1, 0, none⟩ : Addr))), (30, .bool true)] ⟨rfl, rfl, trivial⟩ (fun f1 => hJ3 (true) _ f1 h ⟨t_b1, trivial⟩ so)
      · refine wl_set (t := 21) (v := .bool false) (congrArg Value.bool hb) ?_; clear hb
        refine wl_on (t := 21) rfl (by decide) rfl ?_
        refine wl_val (at_fieldAddr Try.underlying24 rfl rfl sz3 (by decide) rfl) rfl ?_
        refine wl_on (t := 21) rfl (by decide) rfl ?_
        refine wl_val (at_load (v := .int .i64 a0_2) Try.underlying3 rfl rfl ((t_b1.cell 2).trans (by first | rfl | simp [List.getElem?_append, ints_len, bools_len]))) rfl ?_
        refine wl_on (t := 21) rfl (by decide) rfl ?_
        refine wl_val (at_lss rfl rfl) rfl ?_
        refine wl_val (at_pick_f rfl rfl) rfl ?_
        refine wl_val (at_move rfl) rfl ?_
        refine bif_ h (fun hb h => ?_) (fun hb h => ?_)
        · refine wl_set (t := 26) (v := .bool true) (congrArg Value.bool hb) ?_; clear hb
          refine wl_off (t := 26) rfl (by decide) rfl ?_
          refine wl_off (t := 26) rfl (by decide) rfl ?_
          refine wl_off (t := 26) rfl (by decide) rfl ?_
          refine wl_val (at_pick_t rfl rfl) rfl ?_
          refine wl_nil ?_
          exact wk_prune [(1, .pointer (some (⟨b1, 0, none⟩ : Addr))), (30, .bool true)] ⟨rfl, rfl, trivial⟩ (fun f1 => hJ3 (true) _ f1 h ⟨t_b1, trivial⟩ so)
        · refine wl_set (t := 26) (v := .bool false) (congrArg Value.bool hb) ?_; clear hb
          refine wl_on (t := 26) rfl (by decide) rfl ?_
          refine wl_val (at_fieldAddr Try.underlying24 rfl rfl sz3 (by decide) rfl) rfl ?_
          refine wl_on (t := 26) rfl (by decide) rfl ?_
          refine wl_val (at_load (v := .int .i64 a0_2) Try.underlying3 rfl rfl ((t_b1.cell 2).trans (by first | rfl | simp [List.getElem?_append, ints_len, bools_len]))) rfl ?_
          refine wl_on (t := 26) rfl (by decide) rfl ?_
          refine wl_val (at_gtr rfl rfl) rfl ?_
          refine wl_val (at_pick_f rfl rfl) rfl ?_
          refine wl_nil ?_
          exact wk_prune [(1, .pointer (some (⟨b1, 0, none⟩ : Addr))), (30, .bool (decide ((65535 : Int) < a0_2)))] ⟨rfl, rfl, trivial⟩ (fun f1 => hJ3 ((decide ((65535 : Int) < a0_2))) _ f1 h ⟨t_b1, trivial⟩ so)
def geom_Parts.enc : Int → Value := fun r => .int .i64 r
def geom_Parts.s (a0_0 : Int) (a0_1 : Int) (a0_2 : Int) (a0_3 : Sl) (a1 : Sl) (H0 : Hp) (Q : Int → Hp → Prop) : Prop :=
  Gn [] H0 (fun (b1 : Nat) (H2 : Hp) => geom_Check.s a0_0 a0_1 a0_2 a0_3 H2 (fun x3 H4 => Pv [b1] H2 H4 ∧ (if (x3 != 0) = true then (Q x3 H4) else (Join (fun (s7 : Bool) (H8 : Hp) => if s7 = true then (Q 143 H8) else (∃ k9, Fix (fun (rec14 : (Int × Int × Int) → Hp → Prop) (s11 : Int × Int × Int) (H12 : Hp) => if decide (s11.2.2 < (a1.n : Int)) = true then (0 ≤ s11.2.2 ∧ s11.2.2 < (a1.n : Int) ∧ someA a1.a (fun p17 => ∃ x19 : Int, ∃ x20 : Int, ∃ x21 : Int, ldA H12 (p17.add (Int.toNat s11.2.2 * 3)) (c76 x19 x20 x21) ∧ (Gn [] H12 (fun (b23 : Nat) (H25 : Hp) => Join (fun (s27 : Bool) (H28 : Hp) => if s27 = true then (Q 143 H28) else (0 ≤ x19 ∧ x19 < (a0_3.n : Int) ∧ someA a0_3.a (fun p31 => ldI .u8 H28 ((p31.add (Int.toNat x19 * 4)).add 1) (fun x33 => 0 ≤ x19 ∧ x19 < (a0_3.n : Int) ∧ (ldI .u8 H28 ((p31.add (Int.toNat x19 * 4)).add 2) (fun x37 => rec14 (x19, (IntKind.wrap .i64 (s11.2.1 + (IntKind.wrap .i64 ((IntKind.wrap .i64 x33) * (IntKind.wrap .i64 x37))))), (IntKind.wrap .i64 (s11.2.2 + 1))) H28)))))) (fun (J26 : Bool → Hp → Prop) => if decide (x19 ≤ s11.1) = true then (J26 (true) H25) else (if decide ((a0_3.n : Int) ≤ x19) = true then (J26 (true) H25) else (if decide ((3 : Int) < x20) = true then (J26 (true) H25) else (J26 ((decide ((3 : Int) < x21))) H25)))))))) else (Join (fun (s41 : Bool) (H42 : Hp) => if s41 = true then (Q 143 H42) else (Q 0 H42)) (fun (J40 : Bool → Hp → Prop) => if decide ((1 : Int) < (a1.n : Int)) = true then (J40 ((decide ((10 : Int) < s11.2.1))) H12) else (J40 (false) H12)))) k9 ((-1), 0, 0) H8)) (fun (J6 : Bool → Hp → Prop) => if decide ((a1.n : Int) < 1) = true then (J6 (true) H4) else (J6 ((decide ((4 : Int) < (a1.n : Int)))) H4))))))
set_option maxRecDepth 20000 in
set_option maxHeartbeats 4000000 in
theorem geom_Parts.calls (a0_0 : Int) (a0_1 : Int) (a0_2 : Int) (a0_3 : Sl) (a1 : Sl) (w0 : World) (Q : Int → Hp → Prop) (h : geom_Parts.s a0_0 a0_1 a0_2 a0_3 a1 w0.heap Q) :
    Ca Try.prog 34 #[.agg (c24 a0_0 a0_1 a0_2 a0_3).toArray, .slice a1.a a1.n a1.c] w0 (Rt geom_Parts.enc Q w0) := by
  refine ca_start (c := _) Try.func34 rfl Try.ntmps34 rfl ?_
  have so : Sm w0 w0 := Sm.refl w0
  unfold geom_Parts.s at h
  refine wc_prune [(0, .agg (c24 a0_0 a0_1 a0_2 a0_3).toArray), (1, .slice a1.a a1.n a1.c)] ⟨rfl, rfl, trivial⟩ (fun f1 => ?_)
  refine wc_seq ?_
  refine wc_region ?_
  refine wl_newT (T := 24) (cs := (c24 a0_0 a0_1 a0_2 a0_3)) (ef_box rfl rfl) rfl so ?_; intro b1 w2 hb_b1 t_b1 k_b1 so
  have g_b1 := Nat.le_of_eq hb_b1.symm
  have hc := k_b1.ch (F := [])
  refine wl_val (at_assign rfl) rfl ?_
  refine wl_nil ?_
  refine wk_prune [(1, .slice a1.a a1.n a1.c), (2, .pointer (some (⟨b1, 0, none⟩ : Addr)))] ⟨rfl, rfl, trivial⟩ (fun f1 => ?_)
  refine wk_then ?_
  refine wc_seq ?_
  refine wc_seq ?_
  refine wc_region ?_
  refine wl_val (at_loadA (cs := (c24 a0_0 a0_1 a0_2 a0_3)) Try.underlying24 rfl (by rw [len24]; exact sz24) rfl (ldA_full t_b1)) rfl ?_
  replace h := h b1 _ hc g_b1 t_b1.lt; clear hc
  refine wl_callF (geom_Check.calls _ _ _ _ _ _ h) enter57 rfl trivial so ?_; intro x3 w4 h so
  obtain ⟨q5, h⟩ := h
  replace t_b1 := pv_bk q5 t_b1 (by simp)
  refine wl_val (at_assign rfl) rfl ?_
  refine wl_nil ?_
  refine wk_prune [(1, .slice a1.a a1.n a1.c), (2, .pointer (some (⟨b1, 0, none⟩ : Addr))), (5, .int .i64 x3)] ⟨rfl, rfl, rfl, trivial⟩ (fun f1 => ?_)
  refine wk_then ?_
  refine wc_seq ?_
  refine wc_region ?_
  refine wl_val (at_move rfl) rfl ?_
  refine wl_val (at_neq rfl rfl) rfl ?_
  refine wl_nil ?_
  refine wk_prune [(1, .slice a1.a a1.n a1.c), (2, .pointer (some (⟨b1, 0, none⟩ : Addr))), (5, .int .i64 x3), (13, .bool (x3 != 0))] ⟨rfl, rfl, rfl, rfl, trivial⟩ (fun f1 => ?_)
  refine wk_then ?_
  refine wc_cond rfl h (fun h => ?_) (fun h => ?_)
  · refine wc_seq ?_
    refine wc_region ?_
    refine wl_val (at_move rfl) rfl ?_
    refine wl_val (at_assign rfl) rfl ?_
    refine wl_nil ?_
    refine wk_prune [(4, .int .i64 x3)] ⟨rfl, trivial⟩ (fun f1 => ?_)
    refine wk_then ?_
    refine wc_ret ?_
    refine wk_thenR ?_
    exact wk_ret1 (x := x3) rfl (by decide) rfl so h
  · refine wc_skip ?_
    refine wk_prune [(1, .slice a1.a a1.n a1.c), (2, .pointer (some (⟨b1, 0, none⟩ : Addr)))] ⟨rfl, rfl, trivial⟩ (fun f1 => ?_)
    refine wk_then ?_
    refine wc_seq ?_
    refine wc_seq ?_
    refine wc_joinG (w0 := w0) (fun (H : Hp) => Bk H b1 24 (c24 a0_0 a0_1 a0_2 a0_3) ∧ True) (fun (s7 : Bool) => [(1, .slice a1.a a1.n a1.c), (2, .pointer (some (⟨b1, 0, none⟩ : Addr))), (22, .bool s7)]) (fun (s7 : Bool) => []) h ?_ ?_
    · rintro s7 w8 f1 h ⟨t_b1, _⟩ so; refine wk_then ?_
      refine wc_cond rfl h (fun h => ?_) (fun h => ?_)
      · refine wc_seq ?_
        refine wc_region ?_
        refine wl_val (at_assign rfl) rfl ?_
        refine wl_nil ?_
        refine wk_prune [(4, .int .i64 143)] ⟨rfl, trivial⟩ (fun f1 => ?_)
        refine wk_then ?_
        refine wc_ret ?_
        refine wk_thenR ?_
        exact wk_ret1 (x := 143) rfl (by decide) rfl so h
      · refine wc_skip ?_
        refine wk_prune [(1, .slice a1.a a1.n a1.c), (2, .pointer (some (⟨b1, 0, none⟩ : Addr)))] ⟨rfl, rfl, trivial⟩ (fun f1 => ?_)
        refine wk_then ?_
        refine wc_seq ?_
        refine wc_region ?_
        refine wl_val (at_assign rfl) rfl ?_
        refine wl_val (at_assign rfl) rfl ?_
        refine wl_nil ?_
        refine wk_prune [(1, .slice a1.a a1.n a1.c), (2, .pointer (some (⟨b1, 0, none⟩ : Addr))), (6, .int .i64 (-1)), (7, .int .i64 0)] ⟨rfl, rfl, rfl, rfl, trivial⟩ (fun f1 => ?_)
        refine wk_then ?_
        refine wc_seq ?_
        refine wc_seq ?_
        refine wc_region ?_
        refine wl_val (at_move rfl) rfl ?_
        refine wl_val (at_lenL Try.underlying25 rfl) rfl ?_
        refine wl_val (at_move rfl) rfl ?_
        refine wl_nil ?_
        refine wk_prune [(1, .slice a1.a a1.n a1.c), (2, .pointer (some (⟨b1, 0, none⟩ : Addr))), (6, .int .i64 (-1)), (7, .int .i64 0), (23, .slice a1.a a1.n a1.c), (24, .int .i64 (a1.n : Int)), (25, .int .i64 0)] ⟨rfl, rfl, rfl, rfl, rfl, rfl, rfl, trivial⟩ (fun f1 => ?_)
        refine wk_then ?_
        refine wc_block ?_
        obtain ⟨k9, h⟩ := h
        refine wc_loop (fun k a w => ∃ (s11 : Int × Int × Int) (f1 : Nat → Value), a = ac 80 (en f1 [(1, .slice a1.a a1.n a1.c), (2, .pointer (some (⟨b1, 0, none⟩ : Addr))), (6, .int .i64 s11.1), (7, .int .i64 s11.2.1), (23, .slice a1.a a1.n a1.c), (24, .int .i64 (a1.n : Int)), (25, .int .i64 s11.2.2)]) [] ∧ Sm w0 w ∧ (Bk w.heap b1 24 (c24 a0_0 a0_1 a0_2 a0_3) ∧ True) ∧ Fix _ k s11 w.heap) k9 ⟨((-1), 0, 0), _, ac_again ⟨rfl, rfl, rfl, rfl, rfl, rfl, rfl, trivial⟩, so, ⟨t_b1, trivial⟩, h⟩ ?_
        rintro k10 a13 w12 ⟨s11, f1, rfl, so, ⟨t_b1, _⟩, h⟩
        rcases k10 with _ | k10
        · exact h.elim
        replace h := Fix.un h; refine wc_in ?_
        refine wc_seq ?_
        refine wc_region ?_
        refine wl_val (at_lss rfl rfl) rfl ?_
        refine wl_nil ?_
        refine wk_prune [(1, .slice a1.a a1.n a1.c), (2, .pointer (some (⟨b1, 0, none⟩ : Addr))), (6, .int .i64 s11.1), (7, .int .i64 s11.2.1), (23, .slice a1.a a1.n a1.c), (24, .int .i64 (a1.n : Int)), (25, .int .i64 s11.2.2), (26, .bool (decide (s11.2.2 < (a1.n : Int))))] ⟨rfl, rfl, rfl, rfl, rfl, rfl, rfl, rfl, trivial⟩ (fun f1 => ?_)
        refine wk_then ?_
        refine wc_seq ?_
        refine wc_cond rfl h (fun h => ?_) (fun h => ?_)
        · refine wc_skip ?_
          refine wk_prune [(1, .slice a1.a a1.n a1.c), (2, .pointer (some (⟨b1, 0, none⟩ : Addr))), (6, .int .i64 s11.1), (7, .int .i64 s11.2.1), (23, .slice a1.a a1.n a1.c), (24, .int .i64 (a1.n : Int)), (25, .int .i64 s11.2.2)] ⟨rfl, rfl, rfl, rfl, rfl, rfl, rfl, trivial⟩ (fun f1 => ?_)
          refine wk_then ?_
          refine wc_seq ?_
          refine wc_block ?_
          refine wc_seq ?_
          refine wc_region ?_
          obtain ⟨q15, q16, p17, q18, h⟩ := h
          refine wl_val (at_ixAddrL Try.underlying25 sz76 (sl_some q18) rfl q15 q16) rfl ?_
          obtain ⟨x19, x20, x21, q22, h⟩ := h
          refine wl_val (at_loadA (cs := (c76 x19 x20 x21)) Try.underlying76 rfl (by rw [len76]; exact sz76) rfl q22) rfl ?_
          refine wl_newT (T := 76) (cs := (c76 0 0 0)) (ef_alloc zero76 rfl) rfl so ?_; intro b23 w24 hb_b23 t_b23 k_b23 so
          have g_b23 := Nat.le_of_eq hb_b23.symm
          have hc := k_b23.ch (F := [])
          have n_b1_b23 : b1 ≠ b23 := fun e => by have := t_b1.lt; omega
          replace t_b1 := t_b1.keep k_b23
          refine wl_stWT (vs := (c76 x19 x20 x21)) t_b23 (by first | (rw [len76, len76]) | (rw [len76]) | rfl) rfl so (fun q => ef_storeA (p := (⟨b23, 0, none⟩ : Addr)) (cs := (c76 x19 x20 x21)) (by rw [len76]; exact sz76) rfl rfl (one76 _ _ _) q) ?_; intro w25 t_b23 s_w25 so
          replace t_b1 := t_b1.same s_w25 (n_b1_b23)
          replace hc := ch_same hc s_w25 (.inr g_b23)
          refine wl_nil ?_
          refine wk_prune [(1, .slice a1.a a1.n a1.c), (2, .pointer (some (⟨b1, 0, none⟩ : Addr))), (6, .int .i64 s11.1), (7, .int .i64 s11.2.1), (9, .pointer (some (⟨b23, 0, none⟩ : Addr))), (23, .slice a1.a a1.n a1.c), (24, .int .i64 (a1.n : Int)), (25, .int .i64 s11.2.2)] ⟨rfl, rfl, rfl, rfl, rfl, rfl, rfl, rfl, trivial⟩ (fun f1 => ?_)
          refine wk_then ?_
          refine wc_seq ?_
          replace h := h b23 _ hc g_b23 t_b23.lt; clear hc
          refine wc_seq ?_
          refine wc_joinG (w0 := w0) (fun (H : Hp) => Bk H b1 24 (c24 a0_0 a0_1 a0_2 a0_3) ∧ Bk H b23 76 (c76 x19 x20 x21) ∧ True) (fun (s27 : Bool) => [(1, .slice a1.a a1.n a1.c), (2, .pointer (some (⟨b1, 0, none⟩ : Addr))), (7, .int .i64 s11.2.1), (9, .pointer (some (⟨b23, 0, none⟩ : Addr))), (23, .slice a1.a a1.n a1.c), (24, .int .i64 (a1.n : Int)), (25, .int .i64 s11.2.2), (50, .bool s27)]) (fun (s27 : Bool) => []) h ?_ ?_
          · rintro s27 w28 f1 h ⟨t_b1, t_b23, _⟩ so; refine wk_then ?_
            refine wc_cond rfl h (fun h => ?_) (fun h => ?_)
            · refine wc_seq ?_
              refine wc_region ?_
              refine wl_val (at_assign rfl) rfl ?_
              refine wl_nil ?_
              refine wk_prune [(4, .int .i64 143)] ⟨rfl, trivial⟩ (fun f1 => ?_)
              refine wk_then ?_
              refine wc_ret ?_
              refine wk_thenR ?_
              refine wk_blkR ?_
              refine wk_thenR ?_
              refine wk_thenR ?_
              refine wk_blkR ?_
              refine wk_thenR ?_
              exact wk_ret1 (x := 143) rfl (by decide) rfl so h
            · refine wc_skip ?_
              refine wk_prune [(1, .slice a1.a a1.n a1.c), (2, .pointer (some (⟨b1, 0, none⟩ : Addr))), (7, .int .i64 s11.2.1), (9, .pointer (some (⟨b23, 0, none⟩ : Addr))), (23, .slice a1.a a1.n a1.c), (24, .int .i64 (a1.n : Int)), (25, .int .i64 s11.2.2)] ⟨rfl, rfl, rfl, rfl, rfl, rfl, rfl, trivial⟩ (fun f1 => ?_)
              refine wk_then ?_
              refine wc_seq ?_
              refine wc_region ?_
              refine wl_val (at_fieldAddr Try.underlying76 rfl rfl sz3 (by decide) rfl) rfl ?_
              refine wl_val (at_load (v := .int .i64 x19) Try.underlying3 rfl rfl ((t_b23.cell 0).trans (by first | rfl | simp [List.getElem?_append, ints_len, bools_len]))) rfl ?_
              refine wl_val (at_assign rfl) rfl ?_
              refine wl_nil ?_
              refine wk_prune [(1, .slice a1.a a1.n a1.c), (2, .pointer (some (⟨b1, 0, none⟩ : Addr))), (6, .int .i64 x19), (7, .int .i64 s11.2.1), (9, .pointer (some (⟨b23, 0, none⟩ : Addr))), (23, .slice a1.a a1.n a1.c), (24, .int .i64 (a1.n : Int)), (25, .int .i64 s11.2.2)] ⟨rfl, rfl, rfl, rfl, rfl, rfl, rfl, rfl, trivial⟩ (fun f1 => ?_)
              refine wk_then ?_
              refine wc_draw mixed (by kernel_rfl) so ?_
              refine wq_val (at_move rfl) rfl ?_
              refine wq_val (at_fieldAddr Try.underlying24 rfl rfl sz22 (by decide) rfl) rfl ?_
              refine wq_val (at_load (v := .slice a0_3.a a0_3.n a0_3.c) Try.underlying22 rfl rfl ((t_b1.cell 3).trans (by first | rfl | simp [List.getElem?_append, ints_len, bools_len]))) rfl ?_
              refine wq_val (at_fieldAddr Try.underlying76 rfl rfl sz3 (by decide) rfl) rfl ?_
              refine wq_val (at_load (v := .int .i64 x19) Try.underlying3 rfl rfl ((t_b23.cell 0).trans (by first | rfl | simp [List.getElem?_append, ints_len, bools_len]))) rfl ?_
              obtain ⟨q29, q30, p31, q32, h⟩ := h
              refine wq_val (at_ixAddrL Try.underlying22 sz100 (sl_some q32) rfl q29 q30) rfl ?_
              refine wq_val (at_fieldAddr Try.underlying100 rfl rfl sz5 (by decide) rfl) rfl ?_
              obtain ⟨x33, q34, h⟩ := h
              refine wq_val (at_load Try.underlying5 rfl rfl q34) rfl ?_
              refine wq_val (at_conv Try.underlying5 Try.underlying3 rfl) rfl ?_
              refine wq_val (at_fieldAddr Try.underlying24 rfl rfl sz22 (by decide) rfl) rfl ?_
              refine wq_val (at_load (v := .slice a0_3.a a0_3.n a0_3.c) Try.underlying22 rfl rfl ((t_b1.cell 3).trans (by first | rfl | simp [List.getElem?_append, ints_len, bools_len]))) rfl ?_
              refine wq_val (at_fieldAddr Try.underlying76 rfl rfl sz3 (by decide) rfl) rfl ?_
              refine wq_val (at_load (v := .int .i64 x19) Try.underlying3 rfl rfl ((t_b23.cell 0).trans (by first | rfl | simp [List.getElem?_append, ints_len, bools_len]))) rfl ?_
              obtain ⟨q35, q36, h⟩ := h
              refine wq_val (at_ixAddrL Try.underlying22 sz100 (sl_some q32) rfl q35 q36) rfl ?_
              refine wq_val (at_fieldAddr Try.underlying100 rfl rfl sz5 (by decide) rfl) rfl ?_
              obtain ⟨x37, q38, h⟩ := h
              refine wq_val (at_load Try.underlying5 rfl rfl q38) rfl ?_
              refine wq_val (at_conv Try.underlying5 Try.underlying3 rfl) rfl ?_
              refine wq_val (at_mul rfl rfl) rfl ?_
              refine wq_val (at_add rfl rfl) rfl ?_
              refine wq_val (at_assign rfl) rfl ?_
              refine wq_nil ?_; intro w39 hw so; rw [← hw] at h t_b1 t_b23; clear hw
              refine wk_blkN ?_
              refine wk_prune [(1, .slice a1.a a1.n a1.c), (2, .pointer (some (⟨b1, 0, none⟩ : Addr))), (6, .int .i64 x19), (7, .int .i64 (IntKind.wrap .i64 (s11.2.1 + (IntKind.wrap .i64 ((IntKind.wrap .i64 x33) * (IntKind.wrap .i64 x37)))))), (23, .slice a1.a a1.n a1.c), (24, .int .i64 (a1.n : Int)), (25, .int .i64 s11.2.2)] ⟨rfl, rfl, rfl, rfl, rfl, rfl, rfl, trivial⟩ (fun f1 => ?_)
              refine wk_then ?_
              refine wc_region ?_
              refine wl_val (at_add rfl rfl) rfl ?_
              refine wl_val (at_move rfl) rfl ?_
              refine wl_nil ?_
              exact wk_again ⟨(x19, (IntKind.wrap .i64 (s11.2.1 + (IntKind.wrap .i64 ((IntKind.wrap .i64 x33) * (IntKind.wrap .i64 x37))))), (IntKind.wrap .i64 (s11.2.2 + 1))), _, ac_again ⟨rfl, rfl, rfl, rfl, rfl, rfl, rfl, trivial⟩, so, ⟨t_b1, trivial⟩, h⟩
          · intro J26 h hJ26
            refine wc_region ?_
            refine wl_val (at_fieldAddr Try.underlying76 rfl rfl sz3 (by decide) rfl) rfl ?_
            refine wl_val (at_load (v := .int .i64 x19) Try.underlying3 rfl rfl ((t_b23.cell 0).trans (by first | rfl | simp [List.getElem?_append, ints_len, bools_len]))) rfl ?_
            refine wl_val (at_move rfl) rfl ?_
            refine wl_val (at_leq rfl rfl) rfl ?_
            refine wl_val (at_move rfl) rfl ?_
            refine bif_ h (fun hb h => ?_) (fun hb h => ?_)
            · refine wl_set (t := 33) (v := .bool true) (congrArg Value.bool hb) ?_; clear hb
              refine wl_off (t := 33) rfl (by decide) rfl ?_
              refine wl_off (t := 33) rfl (by decide) rfl ?_
              refine wl_off (t := 33) rfl (by decide) rfl ?_
              refine wl_off (t := 33) rfl (by decide) rfl ?_
              refine wl_off (t := 33) rfl (by decide) rfl ?_
              refine wl_off (t := 33) rfl (by decide) rfl ?_
              refine wl_val (at_pick_t rfl rfl) rfl ?_
              refine wl_val (at_move rfl) rfl ?_
              refine wl_off (t := 41) rfl (by decide) rfl ?_
              refine wl_off (t := 41) rfl (by decide) rfl ?_
              refine wl_off (t := 41) rfl (by decide) rfl ?_
              refine wl_val (at_pick_t rfl rfl) rfl ?_
              refine wl_val (at_move rfl) rfl ?_
              refine wl_off (t := 46) rfl (by decide) rfl ?_
              refine wl_off (t := 46) rfl (by decide) rfl ?_
              refine wl_off (t := 46) rfl (by decide) rfl ?_
              refine wl_val (at_pick_t rfl rfl) rfl ?_
              refine wl_nil ?_
              exact wk_prune [(1, .slice a1.a a1.n a1.c), (2, .pointer (some (⟨b1, 0, none⟩ : Addr))), (7, .int .i64 s11.2.1), (9, .pointer (some (⟨b23, 0, none⟩ : Addr))), (23, .slice a1.a a1.n a1.c), (24, .int .i64 (a1.n : Int)), (25, .int .i64 s11.2.2), (50, .bool true)] ⟨rfl, rfl, rfl, rfl, rfl, rfl, rfl, rfl, trivial⟩ (fun f1 => hJ26 (true) _ f1 h ⟨t_b1, t_b23, trivial⟩ so)
            · refine wl_set (t := 33) (v := .bool false) (congrArg Value.bool hb) ?_; clear hb
              refine wl_on (t := 33) rfl (by decide) rfl ?_
              refine wl_val (at_fieldAddr Try.underlying76 rfl rfl sz3 (by decide) rfl) rfl ?_
              refine wl_on (t := 33) rfl (by decide) rfl ?_
              refine wl_val (at_load (v := .int .i64 x19) Try.underlying3 rfl rfl ((t_b23.cell 0).trans (by first | rfl | simp [List.getElem?_append, ints_len, bools_len]))) rfl ?_
              refine wl_on (t := 33) rfl (by decide) rfl ?_
              refine wl_val (at_fieldAddr Try.underlying24 rfl rfl sz22 (by decide) rfl) rfl ?_
              refine wl_on (t := 33) rfl (by decide) rfl ?_
              refine wl_val (at_load (v := .slice a0_3.a a0_3.n a0_3.c) Try.underlying22 rfl rfl ((t_b1.cell 3).trans (by first | rfl | simp [List.getElem?_append, ints_len, bools_len]))) rfl ?_
              refine wl_on (t := 33) rfl (by decide) rfl ?_
              refine wl_val (at_lenL Try.underlying22 rfl) rfl ?_
              refine wl_on (t := 33) rfl (by decide) rfl ?_
              refine wl_val (at_geq rfl rfl) rfl ?_
              refine wl_val (at_pick_f rfl rfl) rfl ?_
              refine wl_val (at_move rfl) rfl ?_
              refine bif_ h (fun hb h => ?_) (fun hb h => ?_)
              · refine wl_set (t := 41) (v := .bool true) (congrArg Value.bool hb) ?_; clear hb
                refine wl_off (t := 41) rfl (by decide) rfl ?_
                refine wl_off (t := 41) rfl (by decide) rfl ?_
                refine wl_off (t := 41) rfl (by decide) rfl ?_
                refine wl_val (at_pick_t rfl rfl) rfl ?_
                refine wl_val (at_move rfl) rfl ?_
                refine wl_off (t := 46) rfl (by decide) rfl ?_
                refine wl_off (t := 46) rfl (by decide) rfl ?_
                refine wl_off (t := 46) rfl (by decide) rfl ?_
                refine wl_val (at_pick_t rfl rfl) rfl ?_
                refine wl_nil ?_
                exact wk_prune [(1, .slice a1.a a1.n a1.c), (2, .pointer (some (⟨b1, 0, none⟩ : Addr))), (7, .int .i64 s11.2.1), (9, .pointer (some (⟨b23, 0, none⟩ : Addr))), (23, .slice a1.a a1.n a1.c), (24, .int .i64 (a1.n : Int)), (25, .int .i64 s11.2.2), (50, .bool true)] ⟨rfl, rfl, rfl, rfl, rfl, rfl, rfl, rfl, trivial⟩ (fun f1 => hJ26 (true) _ f1 h ⟨t_b1, t_b23, trivial⟩ so)
              · refine wl_set (t := 41) (v := .bool false) (congrArg Value.bool hb) ?_; clear hb
                refine wl_on (t := 41) rfl (by decide) rfl ?_
                refine wl_val (at_fieldAddr Try.underlying76 rfl rfl sz5 (by decide) rfl) rfl ?_
                refine wl_on (t := 41) rfl (by decide) rfl ?_
                refine wl_val (at_load (v := .int .u8 x20) Try.underlying5 rfl rfl ((t_b23.cell 1).trans (by first | rfl | simp [List.getElem?_append, ints_len, bools_len]))) rfl ?_
                refine wl_on (t := 41) rfl (by decide) rfl ?_
                refine wl_val (at_gtr rfl rfl) rfl ?_
                refine wl_val (at_pick_f rfl rfl) rfl ?_
                refine wl_val (at_move rfl) rfl ?_
                refine bif_ h (fun hb h => ?_) (fun hb h => ?_)
                · refine wl_set (t := 46) (v := .bool true) (congrArg Value.bool hb) ?_; clear hb
                  refine wl_off (t := 46) rfl (by decide) rfl ?_
                  refine wl_off (t := 46) rfl (by decide) rfl ?_
                  refine wl_off (t := 46) rfl (by decide) rfl ?_
                  refine wl_val (at_pick_t rfl rfl) rfl ?_
                  refine wl_nil ?_
                  exact wk_prune [(1, .slice a1.a a1.n a1.c), (2, .pointer (some (⟨b1, 0, none⟩ : Addr))), (7, .int .i64 s11.2.1), (9, .pointer (some (⟨b23, 0, none⟩ : Addr))), (23, .slice a1.a a1.n a1.c), (24, .int .i64 (a1.n : Int)), (25, .int .i64 s11.2.2), (50, .bool true)] ⟨rfl, rfl, rfl, rfl, rfl, rfl, rfl, rfl, trivial⟩ (fun f1 => hJ26 (true) _ f1 h ⟨t_b1, t_b23, trivial⟩ so)
                · refine wl_set (t := 46) (v := .bool false) (congrArg Value.bool hb) ?_; clear hb
                  refine wl_on (t := 46) rfl (by decide) rfl ?_
                  refine wl_val (at_fieldAddr Try.underlying76 rfl rfl sz5 (by decide) rfl) rfl ?_
                  refine wl_on (t := 46) rfl (by decide) rfl ?_
                  refine wl_val (at_load (v := .int .u8 x21) Try.underlying5 rfl rfl ((t_b23.cell 2).trans (by first | rfl | simp [List.getElem?_append, ints_len, bools_len]))) rfl ?_
                  refine wl_on (t := 46) rfl (by decide) rfl ?_
                  refine wl_val (at_gtr rfl rfl) rfl ?_
                  refine wl_val (at_pick_f rfl rfl) rfl ?_
                  refine wl_nil ?_
                  exact wk_prune [(1, .slice a1.a a1.n a1.c), (2, .pointer (some (⟨b1, 0, none⟩ : Addr))), (7, .int .i64 s11.2.1), (9, .pointer (some (⟨b23, 0, none⟩ : Addr))), (23, .slice a1.a a1.n a1.c), (24, .int .i64 (a1.n : Int)), (25, .int .i64 s11.2.2), (50, .bool (decide ((3 : Int) < x21)))] ⟨rfl, rfl, rfl, rfl, rfl, rfl, rfl, rfl, trivial⟩ (fun f1 => hJ26 ((decide ((3 : Int) < x21))) _ f1 h ⟨t_b1, t_b23, trivial⟩ so)
        · refine wc_exit ?_
          refine wk_thenE ?_
          refine wk_thenE ?_
          refine wk_blkE ?_
          refine wk_prune [(1, .slice a1.a a1.n a1.c), (7, .int .i64 s11.2.1)] ⟨rfl, rfl, trivial⟩ (fun f1 => ?_)
          refine wk_then ?_
          refine wc_seq ?_
          refine wc_seq ?_
          refine wc_join (w0 := w0) (fun (s41 : Bool) => [(79, .bool s41)]) h ?_ ?_
          · rintro s41 w42 f1 h so; refine wk_then ?_
            refine wc_cond rfl h (fun h => ?_) (fun h => ?_)
            · refine wc_seq ?_
              refine wc_region ?_
              refine wl_val (at_assign rfl) rfl ?_
              refine wl_nil ?_
              refine wk_prune [(4, .int .i64 143)] ⟨rfl, trivial⟩ (fun f1 => ?_)
              refine wk_then ?_
              refine wc_ret ?_
              refine wk_thenR ?_
              exact wk_ret1 (x := 143) rfl (by decide) rfl so h
            · refine wc_skip ?_
              refine wk_prune [] trivial (fun f1 => ?_)
              refine wk_then ?_
              refine wc_seq ?_
              refine wc_region ?_
              refine wl_val (at_assign rfl) rfl ?_
              refine wl_nil ?_
              refine wk_prune [(4, .int .i64 0)] ⟨rfl, trivial⟩ (fun f1 => ?_)
              refine wk_then ?_
              refine wc_ret ?_
              exact wk_ret1 (x := 0) rfl (by decide) rfl so h
          · intro J40 h hJ40
            refine wc_region ?_
            refine wl_val (at_move rfl) rfl ?_
            refine wl_val (at_lenL Try.underlying25 rfl) rfl ?_
            refine wl_val (at_gtr rfl rfl) rfl ?_
            refine wl_val (at_move rfl) rfl ?_
            refine bif_ h (fun hb h => ?_) (fun hb h => ?_)
            · refine wl_set (t := 76) (v := .bool true) (congrArg Value.bool hb) ?_; clear hb
              refine wl_on (t := 76) rfl (by decide) rfl ?_
              refine wl_val (at_move rfl) rfl ?_
              refine wl_on (t := 76) rfl (by decide) rfl ?_
              refine wl_val (at_gtr rfl rfl) rfl ?_
              refine wl_val (at_pick_t rfl rfl) rfl ?_
              refine wl_nil ?_
              exact wk_prune [(79, .bool (decide ((10 : Int) < s11.2.1)))] ⟨rfl, trivial⟩ (fun f1 => hJ40 ((decide ((10 : Int) < s11.2.1))) _ f1 h so)
            · refine wl_set (t := 76) (v := .bool false) (congrArg Value.bool hb) ?_; clear hb
              refine wl_off (t := 76) rfl (by decide) rfl ?_
              refine wl_off (t := 76) rfl (by decide) rfl ?_
              refine wl_val (at_pick_f rfl rfl) rfl ?_
              refine wl_nil ?_
              exact wk_prune [(79, .bool false)] ⟨rfl, trivial⟩ (fun f1 => hJ40 (false) _ f1 h so)
    · intro J6 h hJ6
      refine wc_region ?_
      refine wl_val (at_move rfl) rfl ?_
      refine wl_val (at_lenL Try.underlying25 rfl) rfl ?_
      refine wl_val (at_lss rfl rfl) rfl ?_
      refine wl_val (at_move rfl) rfl ?_
      refine bif_ h (fun hb h => ?_) (fun hb h => ?_)
      · refine wl_set (t := 18) (v := .bool true) (congrArg Value.bool hb) ?_; clear hb
        refine wl_off (t := 18) rfl (by decide) rfl ?_
        refine wl_off (t := 18) rfl (by decide) rfl ?_
        refine wl_off (t := 18) rfl (by decide) rfl ?_
        refine wl_val (at_pick_t rfl rfl) rfl ?_
        refine wl_nil ?_
        exact wk_prune [(1, .slice a1.a a1.n a1.c), (2, .pointer (some (⟨b1, 0, none⟩ : Addr))), (22, .bool true)] ⟨rfl, rfl, rfl, trivial⟩ (fun f1 => hJ6 (true) _ f1 h ⟨t_b1, trivial⟩ so)
      · refine wl_set (t := 18) (v := .bool false) (congrArg Value.bool hb) ?_; clear hb
        refine wl_on (t := 18) rfl (by decide) rfl ?_
        refine wl_val (at_move rfl) rfl ?_
        refine wl_on (t := 18) rfl (by decide) rfl ?_
        refine wl_val (at_lenL Try.underlying25 rfl) rfl ?_
        refine wl_on (t := 18) rfl (by decide) rfl ?_
        refine wl_val (at_gtr rfl rfl) rfl ?_
        refine wl_val (at_pick_f rfl rfl) rfl ?_
        refine wl_nil ?_
        exact wk_prune [(1, .slice a1.a a1.n a1.c), (2, .pointer (some (⟨b1, 0, none⟩ : Addr))), (22, .bool (decide ((4 : Int) < (a1.n : Int))))] ⟨rfl, rfl, rfl, trivial⟩ (fun f1 => hJ6 ((decide ((4 : Int) < (a1.n : Int)))) _ f1 h ⟨t_b1, trivial⟩ so)
def geom_up.enc : Int → Value := fun r => .int .i64 r
def geom_up.s (a0 : Int) (a1 : Int) (H0 : Hp) (Q : Int → Hp → Prop) : Prop :=
  a1 ≠ 0 ∧ (Lt ((IntKind.wrap .i64 (Int.tdiv (IntKind.wrap .i64 ((IntKind.wrap .i64 (a0 + a1)) - 1)) a1)) : Int) (fun x2 => Q x2 H0))
set_option maxRecDepth 20000 in
set_option maxHeartbeats 4000000 in
theorem geom_up.calls (a0 : Int) (a1 : Int) (w0 : World) (Q : Int → Hp → Prop) (h : geom_up.s a0 a1 w0.heap Q) :
    Ca Try.prog 60 #[.int .i64 a0, .int .i64 a1] w0 (Rt geom_up.enc Q w0) := by
  refine ca_start (c := _) Try.func60 rfl Try.ntmps60 rfl ?_
  have so : Sm w0 w0 := Sm.refl w0
  unfold geom_up.s at h
  refine wc_prune [(0, .int .i64 a0), (1, .int .i64 a1)] ⟨rfl, rfl, trivial⟩ (fun f1 => ?_)
  refine wc_seq ?_
  refine wc_region ?_
  refine wl_val (at_assign rfl) rfl ?_
  refine wl_nil ?_
  refine wk_prune [(0, .int .i64 a0), (1, .int .i64 a1)] ⟨rfl, rfl, trivial⟩ (fun f1 => ?_)
  refine wk_then ?_
  refine wc_seq ?_
  refine wc_region ?_
  refine wl_val (at_move rfl) rfl ?_
  refine wl_val (at_move rfl) rfl ?_
  refine wl_val (at_add rfl rfl) rfl ?_
  refine wl_val (at_sub rfl rfl) rfl ?_
  refine wl_val (at_move rfl) rfl ?_
  obtain ⟨q1, h⟩ := h
  refine wl_val (at_quo rfl rfl q1) rfl ?_
  refine wl_val (at_assign rfl) rfl ?_
  obtain ⟨x2, e3⟩ : ∃ x : Int, x = (IntKind.wrap .i64 (Int.tdiv (IntKind.wrap .i64 ((IntKind.wrap .i64 (a0 + a1)) - 1)) a1)) := ⟨_, rfl⟩; replace h := h x2 e3
  refine wl_set (t := 4) (v := .int .i64 x2) (congrArg (Value.int .i64) e3.symm) ?_
  refine wl_nil ?_
  refine wk_prune [(4, .int .i64 x2)] ⟨rfl, trivial⟩ (fun f1 => ?_)
  refine wk_then ?_
  refine wc_ret ?_
  exact wk_ret1 (x := x2) rfl (by decide) rfl so h
def geom_Samples.enc : Int × Int → Value := fun r => .tuple #[.int .i64 r.1, .int .i64 r.2]
def geom_Samples.s (a0_0 : Int) (a0_1 : Int) (a0_2 : Int) (a0_3 : Sl) (a1 : Int) (H0 : Hp) (Q : (Int × Int) → Hp → Prop) : Prop :=
  Gn [] H0 (fun (b1 : Nat) (H2 : Hp) => Join (fun (s4 : Bool) (H5 : Hp) => if s4 = true then (Q (0, 0) H5) else (geom_most.s a0_0 a0_1 a0_2 a0_3 H5 (fun x6 H7 => Pv [b1] H5 H7 ∧ (0 ≤ a1 ∧ a1 < (a0_3.n : Int) ∧ someA a0_3.a (fun p11 => ∃ x13 : Int, ∃ x14 : Int, ∃ x15 : Int, ∃ x16 : Int, ldA H7 (p11.add (Int.toNat a1 * 4)) (c100 x13 x14 x15 x16) ∧ (Gn [] H7 (fun (b18 : Nat) (H20 : Hp) => geom_up.s (IntKind.wrap .i64 (a0_1 * (IntKind.wrap .i64 x14))) x6.1 H20 (fun x26 H27 => Pv [b1, b18] H20 H27 ∧ (geom_up.s (IntKind.wrap .i64 (a0_2 * (IntKind.wrap .i64 x15))) x6.2 H27 (fun x29 H30 => Pv [b1, b18] H27 H30 ∧ (Q (x26, x29) H30))))))))))) (fun (J3 : Bool → Hp → Prop) => geom_Check.s a0_0 a0_1 a0_2 a0_3 H2 (fun x32 H33 => Pv [b1] H2 H33 ∧ (if (x32 != 0) = true then (J3 (true) H33) else (if decide (a1 < 0) = true then (J3 (true) H33) else (J3 ((decide ((a0_3.n : Int) ≤ a1))) H33))))))
set_option maxRecDepth 20000 in
set_option maxHeartbeats 4000000 in
theorem geom_Samples.calls (a0_0 : Int) (a0_1 : Int) (a0_2 : Int) (a0_3 : Sl) (a1 : Int) (w0 : World) (Q : (Int × Int) → Hp → Prop) (h : geom_Samples.s a0_0 a0_1 a0_2 a0_3 a1 w0.heap Q) :
    Ca Try.prog 71 #[.agg (c24 a0_0 a0_1 a0_2 a0_3).toArray, .int .i64 a1] w0 (Rt geom_Samples.enc Q w0) := by
  refine ca_start (c := _) Try.func71 rfl Try.ntmps71 rfl ?_
  have so : Sm w0 w0 := Sm.refl w0
  unfold geom_Samples.s at h
  refine wc_prune [(0, .agg (c24 a0_0 a0_1 a0_2 a0_3).toArray), (1, .int .i64 a1)] ⟨rfl, rfl, trivial⟩ (fun f1 => ?_)
  refine wc_seq ?_
  refine wc_region ?_
  refine wl_newT (T := 24) (cs := (c24 a0_0 a0_1 a0_2 a0_3)) (ef_box rfl rfl) rfl so ?_; intro b1 w2 hb_b1 t_b1 k_b1 so
  have g_b1 := Nat.le_of_eq hb_b1.symm
  have hc := k_b1.ch (F := [])
  refine wl_val (at_assign rfl) rfl ?_
  refine wl_val (at_assign rfl) rfl ?_
  refine wl_nil ?_
  refine wk_prune [(1, .int .i64 a1), (2, .pointer (some (⟨b1, 0, none⟩ : Addr)))] ⟨rfl, rfl, trivial⟩ (fun f1 => ?_)
  refine wk_then ?_
  refine wc_seq ?_
  replace h := h b1 _ hc g_b1 t_b1.lt; clear hc
  refine wc_seq ?_
  refine wc_joinG (w0 := w0) (fun (H : Hp) => Bk H b1 24 (c24 a0_0 a0_1 a0_2 a0_3) ∧ True) (fun (s4 : Bool) => [(1, .int .i64 a1), (2, .pointer (some (⟨b1, 0, none⟩ : Addr))), (22, .bool s4)]) (fun (s4 : Bool) => []) h ?_ ?_
  · rintro s4 w5 f1 h ⟨t_b1, _⟩ so; refine wk_then ?_
    refine wc_cond rfl h (fun h => ?_) (fun h => ?_)
    · refine wc_seq ?_
      refine wc_region ?_
      refine wl_val (at_assign rfl) rfl ?_
      refine wl_val (at_assign rfl) rfl ?_
      refine wl_nil ?_
      refine wk_prune [(4, .int .i64 0), (5, .int .i64 0)] ⟨rfl, rfl, trivial⟩ (fun f1 => ?_)
      refine wk_then ?_
      refine wc_ret ?_
      refine wk_thenR ?_
      exact wk_ret2 (x := (0, 0)) rfl (by decide) (by decide) rfl so h
    · refine wc_skip ?_
      refine wk_prune [(1, .int .i64 a1), (2, .pointer (some (⟨b1, 0, none⟩ : Addr)))] ⟨rfl, rfl, trivial⟩ (fun f1 => ?_)
      refine wk_then ?_
      refine wc_seq ?_
      refine wc_region ?_
      refine wl_val (at_loadA (cs := (c24 a0_0 a0_1 a0_2 a0_3)) Try.underlying24 rfl (by rw [len24]; exact sz24) rfl (ldA_full t_b1)) rfl ?_
      refine wl_callF (geom_most.calls _ _ _ _ _ _ h) enter59 rfl trivial so ?_; intro x6 w7 h so
      obtain ⟨q8, h⟩ := h
      replace t_b1 := pv_bk q8 t_b1 (by simp)
      refine wl_val (at_move rfl) rfl ?_
      refine wl_val (at_extract rfl rfl) rfl ?_
      refine wl_val (at_extract rfl rfl) rfl ?_
      refine wl_val (at_assign rfl) rfl ?_
      refine wl_val (at_assign rfl) rfl ?_
      refine wl_nil ?_
      refine wk_prune [(1, .int .i64 a1), (2, .pointer (some (⟨b1, 0, none⟩ : Addr))), (6, .int .i64 x6.1), (7, .int .i64 x6.2)] ⟨rfl, rfl, rfl, rfl, trivial⟩ (fun f1 => ?_)
      refine wk_then ?_
      refine wc_seq ?_
      refine wc_region ?_
      refine wl_val (at_fieldAddr Try.underlying24 rfl rfl sz22 (by decide) rfl) rfl ?_
      refine wl_val (at_load (v := .slice a0_3.a a0_3.n a0_3.c) Try.underlying22 rfl rfl ((t_b1.cell 3).trans (by first | rfl | simp [List.getElem?_append, ints_len, bools_len]))) rfl ?_
      refine wl_val (at_move rfl) rfl ?_
      obtain ⟨q9, q10, p11, q12, h⟩ := h
      refine wl_val (at_ixAddrL Try.underlying22 sz100 (sl_some q12) rfl q9 q10) rfl ?_
      obtain ⟨x13, x14, x15, x16, q17, h⟩ := h
      refine wl_val (at_loadA (cs := (c100 x13 x14 x15 x16)) Try.underlying100 rfl (by rw [len100]; exact sz100) rfl q17) rfl ?_
      refine wl_newT (T := 100) (cs := (c100 0 0 0 0)) (ef_alloc zero100 rfl) rfl so ?_; intro b18 w19 hb_b18 t_b18 k_b18 so
      have g_b18 := Nat.le_of_eq hb_b18.symm
      have hc := k_b18.ch (F := [])
      have n_b1_b18 : b1 ≠ b18 := fun e => by have := t_b1.lt; omega
      replace t_b1 := t_b1.keep k_b18
      refine wl_stWT (vs := (c100 x13 x14 x15 x16)) t_b18 (by first | (rw [len100, len100]) | (rw [len100]) | rfl) rfl so (fun q => ef_storeA (p := (⟨b18, 0, none⟩ : Addr)) (cs := (c100 x13 x14 x15 x16)) (by rw [len100]; exact sz100) rfl rfl (one100 _ _ _ _) q) ?_; intro w20 t_b18 s_w20 so
      replace t_b1 := t_b1.same s_w20 (n_b1_b18)
      replace hc := ch_same hc s_w20 (.inr g_b18)
      refine wl_nil ?_
      refine wk_prune [(2, .pointer (some (⟨b1, 0, none⟩ : Addr))), (6, .int .i64 x6.1), (7, .int .i64 x6.2), (8, .pointer (some (⟨b18, 0, none⟩ : Addr)))] ⟨rfl, rfl, rfl, rfl, trivial⟩ (fun f1 => ?_)
      refine wk_then ?_
      refine wc_seq ?_
      replace h := h b18 _ hc g_b18 t_b18.lt; clear hc
      refine wc_wo [0, 1, 0, 4, 12, 31, 0, 127, 0, 256, 0, 1024, 3072, 7936, 0, 32767, 65535, 131071] mixed (by kernel_rfl) so ?_; intro w21 hw so; rw [← hw] at h t_b1 t_b18; clear hw
      refine wo_pure (m' := 1) 0 rfl (by kernel_rfl) rfl rfl (fun H => at_fieldAddr Try.underlying24 rfl rfl sz3 (by decide) rfl) ?_
      refine wo_pure (m' := 5) 2 rfl (by kernel_rfl) rfl rfl (fun H => at_fieldAddr Try.underlying100 rfl rfl sz5 (by decide) rfl) ?_
      refine wo_pure (m' := 69) 6 rfl (by kernel_rfl) rfl rfl (fun H => at_move rfl) ?_
      refine wo_pure (m' := 325) 8 rfl (by kernel_rfl) rfl rfl (fun H => at_fieldAddr Try.underlying24 rfl rfl sz3 (by decide) rfl) ?_
      refine wo_pure (m' := 1349) 10 rfl (by kernel_rfl) rfl rfl (fun H => at_fieldAddr Try.underlying100 rfl rfl sz5 (by decide) rfl) ?_
      refine wo_pure (m' := 17733) 14 rfl (by kernel_rfl) rfl rfl (fun H => at_move rfl) ?_
      have q22 : cellAt w21.heap (⟨b1, 1, none⟩ : Addr) = some (.int .i64 a0_1) := (t_b1.cell 1).trans (by first | rfl | simp [List.getElem?_append, ints_len, bools_len])
      refine wo_load (m' := 17735) 1 (fun H => cellAt H (⟨b1, 1, none⟩ : Addr) = some (.int .i64 a0_1)) rfl (by kernel_rfl) rfl rfl (fun H q22 => at_load (v := .int .i64 a0_1) Try.underlying3 rfl rfl (q22)) q22 ?_
      have q23 : cellAt w21.heap (⟨b18, 1, none⟩ : Addr) = some (.int .u8 x14) := (t_b18.cell 1).trans (by first | rfl | simp [List.getElem?_append, ints_len, bools_len])
      refine wo_load (m' := 17743) 3 (fun H => cellAt H (⟨b18, 1, none⟩ : Addr) = some (.int .u8 x14)) rfl (by kernel_rfl) rfl rfl (fun H q23 => at_load (v := .int .u8 x14) Try.underlying5 rfl rfl (q23)) q23 ?_
      refine wo_pure (m' := 17759) 4 rfl (by kernel_rfl) rfl rfl (fun H => at_conv Try.underlying5 Try.underlying3 rfl) ?_
      refine wo_pure (m' := 17791) 5 rfl (by kernel_rfl) rfl rfl (fun H => at_mul rfl rfl) ?_
      have q24 : cellAt w21.heap (⟨b1, 2, none⟩ : Addr) = some (.int .i64 a0_2) := (t_b1.cell 2).trans (by first | rfl | simp [List.getElem?_append, ints_len, bools_len])
      refine wo_load (m' := 18303) 9 (fun H => cellAt H (⟨b1, 2, none⟩ : Addr) = some (.int .i64 a0_2)) rfl (by kernel_rfl) rfl rfl (fun H q24 => at_load (v := .int .i64 a0_2) Try.underlying3 rfl rfl (q24)) q24 ?_
      have q25 : cellAt w21.heap (⟨b18, 2, none⟩ : Addr) = some (.int .u8 x15) := (t_b18.cell 2).trans (by first | rfl | simp [List.getElem?_append, ints_len, bools_len])
      refine wo_load (m' := 20351) 11 (fun H => cellAt H (⟨b18, 2, none⟩ : Addr) = some (.int .u8 x15)) rfl (by kernel_rfl) rfl rfl (fun H q25 => at_load (v := .int .u8 x15) Try.underlying5 rfl rfl (q25)) q25 ?_
      refine wo_pure (m' := 24447) 12 rfl (by kernel_rfl) rfl rfl (fun H => at_conv Try.underlying5 Try.underlying3 rfl) ?_
      refine wo_pure (m' := 32639) 13 rfl (by kernel_rfl) rfl rfl (fun H => at_mul rfl rfl) ?_
      refine wo_take (m' := 32767) 7 [false, false, true, true] rfl (by kernel_rfl) rfl (by kernel_rfl) ?_
      refine wl_callF (geom_up.calls _ _ _ _ h) enter60 rfl trivial so ?_; intro x26 w27 h so
      obtain ⟨q28, h⟩ := h
      replace t_b1 := pv_bk q28 t_b1 (by simp)
      replace t_b18 := pv_bk q28 t_b18 (by simp)
      refine wl_nil ?_
      refine wk_tq ⟨((t_b18.cell 2).trans (by first | rfl | simp [List.getElem?_append, ints_len, bools_len])), ((t_b1.cell 2).trans (by first | rfl | simp [List.getElem?_append, ints_len, bools_len])), trivial⟩ ?_
      refine wo_take (m' := 65535) 15 [true, true] rfl (by kernel_rfl) rfl (by kernel_rfl) ?_
      refine wl_callF (geom_up.calls _ _ _ _ h) enter60 rfl trivial so ?_; intro x29 w30 h so
      obtain ⟨q31, h⟩ := h
      replace t_b1 := pv_bk q31 t_b1 (by simp)
      replace t_b18 := pv_bk q31 t_b18 (by simp)
      refine wl_nil ?_
      refine wk_tq trivial ?_
      refine wo_pure (m' := 131071) 16 rfl (by kernel_rfl) rfl rfl (fun H => at_assign rfl) ?_
      refine wo_pure (m' := 262143) 17 rfl (by kernel_rfl) rfl rfl (fun H => at_assign rfl) ?_
      refine wo_done (by kernel_rfl) ?_
      refine wk_prune [(4, .int .i64 x26), (5, .int .i64 x29)] ⟨rfl, rfl, trivial⟩ (fun f1 => ?_)
      refine wk_then ?_
      refine wc_ret ?_
      exact wk_ret2 (x := (x26, x29)) rfl (by decide) (by decide) rfl so h
  · intro J3 h hJ3
    refine wc_region ?_
    refine wl_val (at_loadA (cs := (c24 a0_0 a0_1 a0_2 a0_3)) Try.underlying24 rfl (by rw [len24]; exact sz24) rfl (ldA_full t_b1)) rfl ?_
    refine wl_callF (geom_Check.calls _ _ _ _ _ _ h) enter57 rfl trivial so ?_; intro x32 w33 h so
    obtain ⟨q34, h⟩ := h
    replace t_b1 := pv_bk q34 t_b1 (by simp)
    refine wl_val (at_neq rfl rfl) rfl ?_
    refine wl_val (at_move rfl) rfl ?_
    refine bif_ h (fun hb h => ?_) (fun hb h => ?_)
    · refine wl_set (t := 12) (v := .bool true) (congrArg Value.bool hb) ?_; clear hb
      refine wl_off (t := 12) rfl (by decide) rfl ?_
      refine wl_off (t := 12) rfl (by decide) rfl ?_
      refine wl_val (at_pick_t rfl rfl) rfl ?_
      refine wl_val (at_move rfl) rfl ?_
      refine wl_off (t := 16) rfl (by decide) rfl ?_
      refine wl_off (t := 16) rfl (by decide) rfl ?_
      refine wl_off (t := 16) rfl (by decide) rfl ?_
      refine wl_off (t := 16) rfl (by decide) rfl ?_
      refine wl_off (t := 16) rfl (by decide) rfl ?_
      refine wl_val (at_pick_t rfl rfl) rfl ?_
      refine wl_nil ?_
      exact wk_prune [(1, .int .i64 a1), (2, .pointer (some (⟨b1, 0, none⟩ : Addr))), (22, .bool true)] ⟨rfl, rfl, rfl, trivial⟩ (fun f1 => hJ3 (true) _ f1 h ⟨t_b1, trivial⟩ so)
    · refine wl_set (t := 12) (v := .bool false) (congrArg Value.bool hb) ?_; clear hb
      refine wl_on (t := 12) rfl (by decide) rfl ?_
      refine wl_val (at_move rfl) rfl ?_
      refine wl_on (t := 12) rfl (by decide) rfl ?_
      refine wl_val (at_lss rfl rfl) rfl ?_
      refine wl_val (at_pick_f rfl rfl) rfl ?_
      refine wl_val (at_move rfl) rfl ?_
      refine bif_ h (fun hb h => ?_) (fun hb h => ?_)
      · refine wl_set (t := 16) (v := .bool true) (congrArg Value.bool hb) ?_; clear hb
        refine wl_off (t := 16) rfl (by decide) rfl ?_
        refine wl_off (t := 16) rfl (by decide) rfl ?_
        refine wl_off (t := 16) rfl (by decide) rfl ?_
        refine wl_off (t := 16) rfl (by decide) rfl ?_
        refine wl_off (t := 16) rfl (by decide) rfl ?_
        refine wl_val (at_pick_t rfl rfl) rfl ?_
        refine wl_nil ?_
        exact wk_prune [(1, .int .i64 a1), (2, .pointer (some (⟨b1, 0, none⟩ : Addr))), (22, .bool true)] ⟨rfl, rfl, rfl, trivial⟩ (fun f1 => hJ3 (true) _ f1 h ⟨t_b1, trivial⟩ so)
      · refine wl_set (t := 16) (v := .bool false) (congrArg Value.bool hb) ?_; clear hb
        refine wl_on (t := 16) rfl (by decide) rfl ?_
        refine wl_val (at_move rfl) rfl ?_
        refine wl_on (t := 16) rfl (by decide) rfl ?_
        refine wl_val (at_fieldAddr Try.underlying24 rfl rfl sz22 (by decide) rfl) rfl ?_
        refine wl_on (t := 16) rfl (by decide) rfl ?_
        refine wl_val (at_load (v := .slice a0_3.a a0_3.n a0_3.c) Try.underlying22 rfl rfl ((t_b1.cell 3).trans (by first | rfl | simp [List.getElem?_append, ints_len, bools_len]))) rfl ?_
        refine wl_on (t := 16) rfl (by decide) rfl ?_
        refine wl_val (at_lenL Try.underlying22 rfl) rfl ?_
        refine wl_on (t := 16) rfl (by decide) rfl ?_
        refine wl_val (at_geq rfl rfl) rfl ?_
        refine wl_val (at_pick_f rfl rfl) rfl ?_
        refine wl_nil ?_
        exact wk_prune [(1, .int .i64 a1), (2, .pointer (some (⟨b1, 0, none⟩ : Addr))), (22, .bool (decide ((a0_3.n : Int) ≤ a1)))] ⟨rfl, rfl, rfl, trivial⟩ (fun f1 => hJ3 ((decide ((a0_3.n : Int) ≤ a1))) _ f1 h ⟨t_b1, trivial⟩ so)
def geom_Blocks.enc : Int × Int → Value := fun r => .tuple #[.int .i64 r.1, .int .i64 r.2]
def geom_Blocks.s (a0_0 : Int) (a0_1 : Int) (a0_2 : Int) (a0_3 : Sl) (a1 : Int) (H0 : Hp) (Q : (Int × Int) → Hp → Prop) : Prop :=
  Gn [] H0 (fun (b1 : Nat) (H2 : Hp) => geom_Samples.s a0_0 a0_1 a0_2 a0_3 a1 H2 (fun x3 H4 => geom_up.s x3.1 8 H4 (fun x5 H6 => geom_up.s x3.2 8 H6 (fun x7 H8 => Q (x5, x7) H8))))
set_option maxRecDepth 20000 in
set_option maxHeartbeats 4000000 in
theorem geom_Blocks.calls (a0_0 : Int) (a0_1 : Int) (a0_2 : Int) (a0_3 : Sl) (a1 : Int) (w0 : World) (Q : (Int × Int) → Hp → Prop) (h : geom_Blocks.s a0_0 a0_1 a0_2 a0_3 a1 w0.heap Q) :
    Ca Try.prog 58 #[.agg (c24 a0_0 a0_1 a0_2 a0_3).toArray, .int .i64 a1] w0 (Rt geom_Blocks.enc Q w0) := by
  refine ca_start (c := _) Try.func58 rfl Try.ntmps58 rfl ?_
  have so : Sm w0 w0 := Sm.refl w0
  unfold geom_Blocks.s at h
  refine wc_prune [(0, .agg (c24 a0_0 a0_1 a0_2 a0_3).toArray), (1, .int .i64 a1)] ⟨rfl, rfl, trivial⟩ (fun f1 => ?_)
  refine wc_seq ?_
  refine wc_region ?_
  refine wl_newT (T := 24) (cs := (c24 a0_0 a0_1 a0_2 a0_3)) (ef_box rfl rfl) rfl so ?_; intro b1 w2 hb_b1 t_b1 k_b1 so
  have g_b1 := Nat.le_of_eq hb_b1.symm
  have hc := k_b1.ch (F := [])
  refine wl_val (at_assign rfl) rfl ?_
  refine wl_val (at_assign rfl) rfl ?_
  refine wl_nil ?_
  refine wk_prune [(1, .int .i64 a1), (2, .pointer (some (⟨b1, 0, none⟩ : Addr)))] ⟨rfl, rfl, trivial⟩ (fun f1 => ?_)
  refine wk_then ?_
  refine wc_seq ?_
  refine wc_region ?_
  refine wl_val (at_loadA (cs := (c24 a0_0 a0_1 a0_2 a0_3)) Try.underlying24 rfl (by rw [len24]; exact sz24) rfl (ldA_full t_b1)) rfl ?_
  refine wl_val (at_move rfl) rfl ?_
  replace h := h b1 _ hc g_b1 t_b1.lt; clear hc
  refine wl_callF (geom_Samples.calls _ _ _ _ _ _ _ h) enter71 rfl trivial so ?_; intro x3 w4 h so
  refine wl_val (at_move rfl) rfl ?_
  refine wl_val (at_extract rfl rfl) rfl ?_
  refine wl_val (at_extract rfl rfl) rfl ?_
  refine wl_val (at_assign rfl) rfl ?_
  refine wl_val (at_assign rfl) rfl ?_
  refine wl_nil ?_
  refine wk_prune [(6, .int .i64 x3.1), (7, .int .i64 x3.2)] ⟨rfl, rfl, trivial⟩ (fun f1 => ?_)
  refine wk_then ?_
  refine wc_seq ?_
  refine wc_region ?_
  refine wl_val (at_move rfl) rfl ?_
  refine wl_callF (geom_up.calls _ _ _ _ h) enter60 rfl trivial so ?_; intro x5 w6 h so
  refine wl_val (at_move rfl) rfl ?_
  refine wl_callF (geom_up.calls _ _ _ _ h) enter60 rfl trivial so ?_; intro x7 w8 h so
  refine wl_val (at_assign rfl) rfl ?_
  refine wl_val (at_assign rfl) rfl ?_
  refine wl_nil ?_
  refine wk_prune [(4, .int .i64 x5), (5, .int .i64 x7)] ⟨rfl, rfl, trivial⟩ (fun f1 => ?_)
  refine wk_then ?_
  refine wc_ret ?_
  exact wk_ret2 (x := (x5, x7)) rfl (by decide) (by decide) rfl so h
def geom_Units.enc : Int × Int → Value := fun r => .tuple #[.int .i64 r.1, .int .i64 r.2]
def geom_Units.s (a0_0 : Int) (a0_1 : Int) (a0_2 : Int) (a0_3 : Sl) (a1 : Sl) (H0 : Hp) (Q : (Int × Int) → Hp → Prop) : Prop :=
  Gn [] H0 (fun (b1 : Nat) (H2 : Hp) => geom_Parts.s a0_0 a0_1 a0_2 a0_3 a1 H2 (fun x3 H4 => Pv [b1] H2 H4 ∧ (if (x3 != 0) = true then (Q (0, 0) H4) else (if ((a1.n : Int) == 1) = true then (0 ≤ (0 : Int) ∧ (0 : Int) < (a1.n : Int) ∧ someA a1.a (fun p9 => ldI .i64 H4 ((p9.add (Int.toNat 0 * 3)).add 0) (fun x12 => geom_Blocks.s a0_0 a0_1 a0_2 a0_3 x12 H4 (fun x14 H15 => Pv [b1] H4 H15 ∧ (Q (x14.1, x14.2) H15))))) else (geom_most.s a0_0 a0_1 a0_2 a0_3 H4 (fun x17 H18 => Pv [b1] H4 H18 ∧ (geom_up.s a0_1 (IntKind.wrap .i64 ((8 : Int) * x17.1)) H18 (fun x23 H24 => Pv [b1] H18 H24 ∧ (geom_up.s a0_2 (IntKind.wrap .i64 ((8 : Int) * x17.2)) H24 (fun x26 H27 => Pv [b1] H24 H27 ∧ (Q (x23, x26) H27)))))))))))
set_option maxRecDepth 20000 in
set_option maxHeartbeats 4000000 in
theorem geom_Units.calls (a0_0 : Int) (a0_1 : Int) (a0_2 : Int) (a0_3 : Sl) (a1 : Sl) (w0 : World) (Q : (Int × Int) → Hp → Prop) (h : geom_Units.s a0_0 a0_1 a0_2 a0_3 a1 w0.heap Q) :
    Ca Try.prog 35 #[.agg (c24 a0_0 a0_1 a0_2 a0_3).toArray, .slice a1.a a1.n a1.c] w0 (Rt geom_Units.enc Q w0) := by
  refine ca_start (c := _) Try.func35 rfl Try.ntmps35 rfl ?_
  have so : Sm w0 w0 := Sm.refl w0
  unfold geom_Units.s at h
  refine wc_prune [(0, .agg (c24 a0_0 a0_1 a0_2 a0_3).toArray), (1, .slice a1.a a1.n a1.c)] ⟨rfl, rfl, trivial⟩ (fun f1 => ?_)
  refine wc_seq ?_
  refine wc_region ?_
  refine wl_newT (T := 24) (cs := (c24 a0_0 a0_1 a0_2 a0_3)) (ef_box rfl rfl) rfl so ?_; intro b1 w2 hb_b1 t_b1 k_b1 so
  have g_b1 := Nat.le_of_eq hb_b1.symm
  have hc := k_b1.ch (F := [])
  refine wl_val (at_assign rfl) rfl ?_
  refine wl_val (at_assign rfl) rfl ?_
  refine wl_nil ?_
  refine wk_prune [(1, .slice a1.a a1.n a1.c), (2, .pointer (some (⟨b1, 0, none⟩ : Addr)))] ⟨rfl, rfl, trivial⟩ (fun f1 => ?_)
  refine wk_then ?_
  refine wc_seq ?_
  refine wc_seq ?_
  refine wc_region ?_
  refine wl_val (at_loadA (cs := (c24 a0_0 a0_1 a0_2 a0_3)) Try.underlying24 rfl (by rw [len24]; exact sz24) rfl (ldA_full t_b1)) rfl ?_
  refine wl_val (at_move rfl) rfl ?_
  replace h := h b1 _ hc g_b1 t_b1.lt; clear hc
  refine wl_callF (geom_Parts.calls _ _ _ _ _ _ _ h) enter34 rfl trivial so ?_; intro x3 w4 h so
  obtain ⟨q5, h⟩ := h
  replace t_b1 := pv_bk q5 t_b1 (by simp)
  refine wl_val (at_neq rfl rfl) rfl ?_
  refine wl_nil ?_
  refine wk_prune [(1, .slice a1.a a1.n a1.c), (2, .pointer (some (⟨b1, 0, none⟩ : Addr))), (11, .bool (x3 != 0))] ⟨rfl, rfl, rfl, trivial⟩ (fun f1 => ?_)
  refine wk_then ?_
  refine wc_cond rfl h (fun h => ?_) (fun h => ?_)
  · refine wc_seq ?_
    refine wc_region ?_
    refine wl_val (at_assign rfl) rfl ?_
    refine wl_val (at_assign rfl) rfl ?_
    refine wl_nil ?_
    refine wk_prune [(4, .int .i64 0), (5, .int .i64 0)] ⟨rfl, rfl, trivial⟩ (fun f1 => ?_)
    refine wk_then ?_
    refine wc_ret ?_
    refine wk_thenR ?_
    exact wk_ret2 (x := (0, 0)) rfl (by decide) (by decide) rfl so h
  · refine wc_skip ?_
    refine wk_prune [(1, .slice a1.a a1.n a1.c), (2, .pointer (some (⟨b1, 0, none⟩ : Addr)))] ⟨rfl, rfl, trivial⟩ (fun f1 => ?_)
    refine wk_then ?_
    refine wc_seq ?_
    refine wc_seq ?_
    refine wc_region ?_
    refine wl_val (at_move rfl) rfl ?_
    refine wl_val (at_lenL Try.underlying25 rfl) rfl ?_
    refine wl_val (at_eql rfl rfl) rfl ?_
    refine wl_nil ?_
    refine wk_prune [(1, .slice a1.a a1.n a1.c), (2, .pointer (some (⟨b1, 0, none⟩ : Addr))), (14, .bool ((a1.n : Int) == 1))] ⟨rfl, rfl, rfl, trivial⟩ (fun f1 => ?_)
    refine wk_then ?_
    refine wc_cond rfl h (fun h => ?_) (fun h => ?_)
    · refine wc_seq ?_
      refine wc_wo [0, 0, 2, 6, 14, 31, 63, 63, 255, 511] mixed (by kernel_rfl) so ?_; intro w6 hw so; rw [← hw] at h t_b1; clear hw
      refine wo_pure (m' := 2) 1 rfl (by kernel_rfl) rfl rfl (fun H => at_move rfl) ?_
      obtain ⟨q7, q8, p9, q10, h⟩ := h
      refine wo_pure (m' := 6) 2 rfl (by kernel_rfl) rfl rfl (fun H => at_ixAddrL Try.underlying25 sz76 (sl_some q10) rfl q7 q8) ?_
      refine wo_pure (m' := 14) 3 rfl (by kernel_rfl) rfl rfl (fun H => at_fieldAddr Try.underlying76 rfl rfl sz3 (by decide) rfl) ?_
      have q11 : ldA w6.heap (⟨b1, 0, none⟩ : Addr) (c24 a0_0 a0_1 a0_2 a0_3) := ldA_full t_b1
      refine wo_load (m' := 15) 0 (fun H => ldA H (⟨b1, 0, none⟩ : Addr) (c24 a0_0 a0_1 a0_2 a0_3)) rfl (by kernel_rfl) rfl rfl (fun H q11 => at_loadA (cs := (c24 a0_0 a0_1 a0_2 a0_3)) Try.underlying24 rfl (by rw [len24]; exact sz24) rfl (q11)) q11 ?_
      obtain ⟨x12, q13, h⟩ := h
      refine wo_load (m' := 31) 4 (fun H => cellAt H ((p9.add (Int.toNat 0 * 3)).add 0) = some (.int .i64 x12)) rfl (by kernel_rfl) rfl rfl (fun H q13 => at_load Try.underlying3 rfl rfl q13) q13 ?_
      refine wo_take (m' := 63) 5 [true, true] rfl (by kernel_rfl) rfl (by kernel_rfl) ?_
      refine wl_callF (geom_Blocks.calls _ _ _ _ _ _ _ h) enter58 rfl trivial so ?_; intro x14 w15 h so
      obtain ⟨q16, h⟩ := h
      replace t_b1 := pv_bk q16 t_b1 (by simp)
      refine wl_nil ?_
      refine wk_tq trivial ?_
      refine wo_pure (m' := 127) 6 rfl (by kernel_rfl) rfl rfl (fun H => at_extract rfl rfl) ?_
      refine wo_pure (m' := 255) 7 rfl (by kernel_rfl) rfl rfl (fun H => at_extract rfl rfl) ?_
      refine wo_pure (m' := 511) 8 rfl (by kernel_rfl) rfl rfl (fun H => at_assign rfl) ?_
      refine wo_pure (m' := 1023) 9 rfl (by kernel_rfl) rfl rfl (fun H => at_assign rfl) ?_
      refine wo_done (by kernel_rfl) ?_
      refine wk_prune [(4, .int .i64 x14.1), (5, .int .i64 x14.2)] ⟨rfl, rfl, trivial⟩ (fun f1 => ?_)
      refine wk_then ?_
      refine wc_ret ?_
      refine wk_thenR ?_
      exact wk_ret2 (x := (x14.1, x14.2)) rfl (by decide) (by decide) rfl so h
    · refine wc_skip ?_
      refine wk_prune [(2, .pointer (some (⟨b1, 0, none⟩ : Addr)))] ⟨rfl, trivial⟩ (fun f1 => ?_)
      refine wk_then ?_
      refine wc_seq ?_
      refine wc_region ?_
      refine wl_val (at_loadA (cs := (c24 a0_0 a0_1 a0_2 a0_3)) Try.underlying24 rfl (by rw [len24]; exact sz24) rfl (ldA_full t_b1)) rfl ?_
      refine wl_callF (geom_most.calls _ _ _ _ _ _ h) enter59 rfl trivial so ?_; intro x17 w18 h so
      obtain ⟨q19, h⟩ := h
      replace t_b1 := pv_bk q19 t_b1 (by simp)
      refine wl_val (at_move rfl) rfl ?_
      refine wl_val (at_extract rfl rfl) rfl ?_
      refine wl_val (at_extract rfl rfl) rfl ?_
      refine wl_val (at_assign rfl) rfl ?_
      refine wl_val (at_assign rfl) rfl ?_
      refine wl_nil ?_
      refine wk_prune [(2, .pointer (some (⟨b1, 0, none⟩ : Addr))), (6, .int .i64 x17.1), (7, .int .i64 x17.2)] ⟨rfl, rfl, rfl, trivial⟩ (fun f1 => ?_)
      refine wk_then ?_
      refine wc_seq ?_
      refine wc_wo [0, 1, 0, 4, 15, 0, 32, 0, 128, 511, 1023, 2047] mixed (by kernel_rfl) so ?_; intro w20 hw so; rw [← hw] at h t_b1; clear hw
      refine wo_pure (m' := 1) 0 rfl (by kernel_rfl) rfl rfl (fun H => at_fieldAddr Try.underlying24 rfl rfl sz3 (by decide) rfl) ?_
      refine wo_pure (m' := 5) 2 rfl (by kernel_rfl) rfl rfl (fun H => at_move rfl) ?_
      refine wo_pure (m' := 13) 3 rfl (by kernel_rfl) rfl rfl (fun H => at_mul rfl rfl) ?_
      refine wo_pure (m' := 45) 5 rfl (by kernel_rfl) rfl rfl (fun H => at_fieldAddr Try.underlying24 rfl rfl sz3 (by decide) rfl) ?_
      refine wo_pure (m' := 173) 7 rfl (by kernel_rfl) rfl rfl (fun H => at_move rfl) ?_
      refine wo_pure (m' := 429) 8 rfl (by kernel_rfl) rfl rfl (fun H => at_mul rfl rfl) ?_
      have q21 : cellAt w20.heap (⟨b1, 1, none⟩ : Addr) = some (.int .i64 a0_1) := (t_b1.cell 1).trans (by first | rfl | simp [List.getElem?_append, ints_len, bools_len])
      refine wo_load (m' := 431) 1 (fun H => cellAt H (⟨b1, 1, none⟩ : Addr) = some (.int .i64 a0_1)) rfl (by kernel_rfl) rfl rfl (fun H q21 => at_load (v := .int .i64 a0_1) Try.underlying3 rfl rfl (q21)) q21 ?_
      have q22 : cellAt w20.heap (⟨b1, 2, none⟩ : Addr) = some (.int .i64 a0_2) := (t_b1.cell 2).trans (by first | rfl | simp [List.getElem?_append, ints_len, bools_len])
      refine wo_load (m' := 495) 6 (fun H => cellAt H (⟨b1, 2, none⟩ : Addr) = some (.int .i64 a0_2)) rfl (by kernel_rfl) rfl rfl (fun H q22 => at_load (v := .int .i64 a0_2) Try.underlying3 rfl rfl (q22)) q22 ?_
      refine wo_take (m' := 511) 4 [false, true] rfl (by kernel_rfl) rfl (by kernel_rfl) ?_
      refine wl_callF (geom_up.calls _ _ _ _ h) enter60 rfl trivial so ?_; intro x23 w24 h so
      obtain ⟨q25, h⟩ := h
      replace t_b1 := pv_bk q25 t_b1 (by simp)
      refine wl_nil ?_
      refine wk_tq ⟨((t_b1.cell 2).trans (by first | rfl | simp [List.getElem?_append, ints_len, bools_len])), trivial⟩ ?_
      refine wo_take (m' := 1023) 9 [true] rfl (by kernel_rfl) rfl (by kernel_rfl) ?_
      refine wl_callF (geom_up.calls _ _ _ _ h) enter60 rfl trivial so ?_; intro x26 w27 h so
      obtain ⟨q28, h⟩ := h
      replace t_b1 := pv_bk q28 t_b1 (by simp)
      refine wl_nil ?_
      refine wk_tq trivial ?_
      refine wo_pure (m' := 2047) 10 rfl (by kernel_rfl) rfl rfl (fun H => at_assign rfl) ?_
      refine wo_pure (m' := 4095) 11 rfl (by kernel_rfl) rfl rfl (fun H => at_assign rfl) ?_
      refine wo_done (by kernel_rfl) ?_
      refine wk_prune [(4, .int .i64 x23), (5, .int .i64 x26)] ⟨rfl, rfl, trivial⟩ (fun f1 => ?_)
      refine wk_then ?_
      refine wc_ret ?_
      exact wk_ret2 (x := (x23, x26)) rfl (by decide) (by decide) rfl so h
def geom_Walk.enc : Addr × Addr × Addr × Addr × Addr → Value := fun r => .func (.func 42) #[] #[.pointer (some r.1), .pointer (some r.2.1), .pointer (some r.2.2.1), .pointer (some r.2.2.2.1), .pointer (some r.2.2.2.2)]
def geom_Walk.s (a0_0 : Int) (a0_1 : Int) (a0_2 : Int) (a0_3 : Sl) (a1 : Sl) (a2 : Int) (a3 : Int) (H0 : Hp) (Q : (Addr × Addr × Addr × Addr × Addr) → Hp → Prop) : Prop :=
  Gn [] H0 (fun (b1 : Nat) (H2 : Hp) => Gn [] H2 (fun (b3 : Nat) (H4 : Hp) => Gn [] H4 (fun (b5 : Nat) (H6 : Hp) => ∃ y10 : List Value, y10.length = a0_3.n * 4 ∧ rdS H6 a0_3.a y10 ∧ apS H6 ⟨none, 0, 0⟩ 100 4 4 z100.cells a0_3.n y10 (fun l8 H9 => Pv [b1, b3, b5] H6 H9 ∧ (Gr [b1] H9 (fun (H14 : Hp) => ∃ y18 : List Value, y18.length = a1.n * 3 ∧ rdS H14 a1.a y18 ∧ apS H14 ⟨none, 0, 0⟩ 76 3 16 z76.cells a1.n y18 (fun l16 H17 => Pv [b1, b3, b5] H14 H17 ∧ (Gr [b3] H17 (fun (H22 : Hp) => geom_Units.s a0_0 a0_1 a0_2 l8 l16 H22 (fun x23 H24 => Pv [b1, b3, b5] H22 H24 ∧ (Gn [] H24 (fun (b26 : Nat) (H28 : Hp) => Bk H28 b5 3 [.int .i64 a2] → (Join (fun (s30 : Int) (H31 : Hp) => ldI .i64 H31 (⟨b5, 0, none⟩ : Addr) (fun x32 => st H31 (⟨b5, 0, none⟩ : Addr) (.int .i64 (if (IntKind.wrap .i64 (x23.1 * x23.2)) < x32 then (IntKind.wrap .i64 (x23.1 * x23.2)) else x32)) (fun H34 => Pv [b1, b3, b26] H31 H34 ∧ (ldI .i64 H34 (⟨b5, 0, none⟩ : Addr) (fun x36 => ldI .i64 H34 (⟨b5, 0, none⟩ : Addr) (fun x38 => Gn [] H34 (fun (b40 : Nat) (H42 : Hp) => Bk H42 b40 3 [.int .i64 (IntKind.wrap .i64 (x36 + (if (IntKind.wrap .i64 ((IntKind.wrap .i64 (x23.1 * x23.2)) - x38)) < s30 then (IntKind.wrap .i64 ((IntKind.wrap .i64 (x23.1 * x23.2)) - x38)) else s30)))] → (Bk H42 b1 24 (c24 a0_0 a0_1 a0_2 l8) → (Bk H42 b3 25 [.slice l16.a l16.n l16.c] → (Bk H42 b26 3 [.int .i64 x23.1] → (Q ((⟨b5, 0, none⟩ : Addr), (⟨b40, 0, none⟩ : Addr), (⟨b1, 0, none⟩ : Addr), (⟨b3, 0, none⟩ : Addr), (⟨b26, 0, none⟩ : Addr)) H42))))))))))) (fun (J29 : Int → Hp → Prop) => ldI .i64 H28 (⟨b5, 0, none⟩ : Addr) (fun x43 => if decide (x43 < 0) = true then (ldI .i64 H28 (⟨b5, 0, none⟩ : Addr) (fun x45 => Lt ((IntKind.wrap .i64 ((if a3 < 0 then 0 else a3) + (if x45 < (IntKind.wrap .i64 (0 - (if a3 < 0 then 0 else a3))) then (IntKind.wrap .i64 (0 - (if a3 < 0 then 0 else a3))) else x45))) : Int) (fun x47 => st H28 (⟨b5, 0, none⟩ : Addr) (.int .i64 0) (fun H49 => Pv [b1, b3, b26] H28 H49 ∧ (J29 (x47) H49))))) else (J29 ((if a3 < 0 then 0 else a3)) H28))))))))))))))))
set_option maxRecDepth 20000 in
set_option maxHeartbeats 4000000 in
theorem geom_Walk.calls (a0_0 : Int) (a0_1 : Int) (a0_2 : Int) (a0_3 : Sl) (a1 : Sl) (a2 : Int) (a3 : Int) (w0 : World) (Q : (Addr × Addr × Addr × Addr × Addr) → Hp → Prop) (h : geom_Walk.s a0_0 a0_1 a0_2 a0_3 a1 a2 a3 w0.heap Q) :
    Ca Try.prog 27 #[.agg (c24 a0_0 a0_1 a0_2 a0_3).toArray, .slice a1.a a1.n a1.c, .int .i64 a2, .int .i64 a3] w0 (Rt geom_Walk.enc Q w0) := by
  refine ca_start (c := _) Try.func27 rfl Try.ntmps27 rfl ?_
  have so : Sm w0 w0 := Sm.refl w0
  unfold geom_Walk.s at h
  refine wc_prune [(0, .agg (c24 a0_0 a0_1 a0_2 a0_3).toArray), (1, .slice a1.a a1.n a1.c), (2, .int .i64 a2), (3, .int .i64 a3)] ⟨rfl, rfl, rfl, rfl, trivial⟩ (fun f1 => ?_)
  refine wc_seq ?_
  refine wc_region ?_
  refine wl_newT (T := 24) (cs := (c24 a0_0 a0_1 a0_2 a0_3)) (ef_box rfl rfl) rfl so ?_; intro b1 w2 hb_b1 t_b1 k_b1 so
  have g_b1 := Nat.le_of_eq hb_b1.symm
  have hc := k_b1.ch (F := [])
  replace h := h b1 _ hc g_b1 t_b1.lt; clear hc
  refine wl_newT (T := 25) (cs := [.slice a1.a a1.n a1.c]) (ef_box rfl rfl) rfl so ?_; intro b3 w4 hb_b3 t_b3 k_b3 so
  have g_b3 := Nat.le_of_eq hb_b3.symm
  have hc := k_b3.ch (F := [])
  have n_b1_b3 : b1 ≠ b3 := fun e => by have := t_b1.lt; omega
  replace t_b1 := t_b1.keep k_b3
  replace h := h b3 _ hc g_b3 t_b3.lt; clear hc
  refine wl_newT (T := 3) (cs := [.int .i64 a2]) (ef_box rfl rfl) rfl so ?_; intro b5 w6 hb_b5 t_b5 k_b5 so
  have g_b5 := Nat.le_of_eq hb_b5.symm
  have hc := k_b5.ch (F := [])
  have n_b1_b5 : b1 ≠ b5 := fun e => by have := t_b1.lt; omega
  replace t_b1 := t_b1.keep k_b5
  have n_b3_b5 : b3 ≠ b5 := fun e => by have := t_b3.lt; omega
  replace t_b3 := t_b3.keep k_b5
  refine wl_val (at_assign rfl) rfl ?_
  refine wl_nil ?_
  refine wk_prune [(3, .int .i64 a3), (4, .pointer (some (⟨b1, 0, none⟩ : Addr))), (5, .pointer (some (⟨b3, 0, none⟩ : Addr))), (6, .pointer (some (⟨b5, 0, none⟩ : Addr)))] ⟨rfl, rfl, rfl, rfl, trivial⟩ (fun f1 => ?_)
  refine wk_then ?_
  refine wc_seq ?_
  refine wc_region ?_
  refine wl_val (at_fieldAddr Try.underlying24 rfl rfl sz22 (by decide) rfl) rfl ?_
  refine wl_val (at_load (v := .slice a0_3.a a0_3.n a0_3.c) Try.underlying22 rfl rfl ((t_b1.cell 3).trans (by first | rfl | simp [List.getElem?_append, ints_len, bools_len]))) rfl ?_
  obtain ⟨i7, i7a, i7b, i7c, i7d⟩ := info100
  replace h := h b5 _ hc g_b5 t_b5.lt; clear hc
  obtain ⟨y10, q11, q12, h⟩ := h
  refine wl_ap (fx_append (s := ⟨none, 0, 0⟩) (t := a0_3) (m := a0_3.n) (xs := y10) Try.underlying22 Try.underlying22 i7a i7b i7c i7d rfl rfl rfl q11 q12 h) rfl so ?_; intro l8 w9 h so
  obtain ⟨q13, h⟩ := h
  replace t_b1 := pv_bk q13 t_b1 (by simp)
  replace t_b3 := pv_bk q13 t_b3 (by simp)
  replace t_b5 := pv_bk q13 t_b5 (by simp)
  refine wl_val (at_fieldAddr Try.underlying24 rfl rfl sz22 (by decide) rfl) rfl ?_
  refine wl_stT (v := .slice l8.a l8.n l8.c) (cs' := (c24 a0_0 a0_1 a0_2 l8)) t_b1 (by first | decide | (rw [len24]; decide) | (rw [len24]; show 3 < _; decide) | simp [ints_len, bools_len]) (by first | rfl | simp [List.set_append, ints_len, bools_len]) rfl so (fun q1 q2 => ef_store (sz := sz22) rfl rfl rfl q1 q2) ?_; intro w14 t_b1 s_w14 so
  replace t_b3 := t_b3.same s_w14 (Ne.symm n_b1_b3)
  replace t_b5 := t_b5.same s_w14 (Ne.symm n_b1_b5)
  have hc := s_w14.ch
  refine wl_nil ?_
  refine wk_prune [(3, .int .i64 a3), (4, .pointer (some (⟨b1, 0, none⟩ : Addr))), (5, .pointer (some (⟨b3, 0, none⟩ : Addr))), (6, .pointer (some (⟨b5, 0, none⟩ : Addr)))] ⟨rfl, rfl, rfl, rfl, trivial⟩ (fun f1 => ?_)
  refine wk_then ?_
  refine wc_seq ?_
  refine wc_region ?_
  refine wl_val (at_load (v := .slice a1.a a1.n a1.c) Try.underlying25 rfl rfl ((t_b3.cell 0).trans (by first | rfl | simp [List.getElem?_append, ints_len, bools_len]))) rfl ?_
  obtain ⟨i15, i15a, i15b, i15c, i15d⟩ := info76
  replace h := h _ hc; clear hc
  obtain ⟨y18, q19, q20, h⟩ := h
  refine wl_ap (fx_append (s := ⟨none, 0, 0⟩) (t := a1) (m := a1.n) (xs := y18) Try.underlying25 Try.underlying25 i15a i15b i15c i15d rfl rfl rfl q19 q20 h) rfl so ?_; intro l16 w17 h so
  obtain ⟨q21, h⟩ := h
  replace t_b1 := pv_bk q21 t_b1 (by simp)
  replace t_b3 := pv_bk q21 t_b3 (by simp)
  replace t_b5 := pv_bk q21 t_b5 (by simp)
  refine wl_stT (v := .slice l16.a l16.n l16.c) (cs' := [.slice l16.a l16.n l16.c]) t_b3 (by first | decide | (rw [len25]; decide) | (rw [len25]; show 0 < _; decide) | simp [ints_len, bools_len]) (by first | rfl | simp [List.set_append, ints_len, bools_len]) rfl so (fun q1 q2 => ef_store (sz := sz25) rfl rfl rfl q1 q2) ?_; intro w22 t_b3 s_w22 so
  replace t_b1 := t_b1.same s_w22 (n_b1_b3)
  replace t_b5 := t_b5.same s_w22 (Ne.symm n_b3_b5)
  have hc := s_w22.ch
  refine wl_nil ?_
  refine wk_prune [(3, .int .i64 a3), (4, .pointer (some (⟨b1, 0, none⟩ : Addr))), (5, .pointer (some (⟨b3, 0, none⟩ : Addr))), (6, .pointer (some (⟨b5, 0, none⟩ : Addr)))] ⟨rfl, rfl, rfl, rfl, trivial⟩ (fun f1 => ?_)
  refine wk_then ?_
  refine wc_seq ?_
  refine wc_region ?_
  refine wl_val (at_loadA (cs := (c24 a0_0 a0_1 a0_2 l8)) Try.underlying24 rfl (by rw [len24]; exact sz24) rfl (ldA_full t_b1)) rfl ?_
  refine wl_val (at_load (v := .slice l16.a l16.n l16.c) Try.underlying25 rfl rfl ((t_b3.cell 0).trans (by first | rfl | simp [List.getElem?_append, ints_len, bools_len]))) rfl ?_
  replace h := h _ hc; clear hc
  refine wl_callF (geom_Units.calls _ _ _ _ _ _ _ h) enter35 rfl trivial so ?_; intro x23 w24 h so
  obtain ⟨q25, h⟩ := h
  replace t_b1 := pv_bk q25 t_b1 (by simp)
  replace t_b3 := pv_bk q25 t_b3 (by simp)
  replace t_b5 := pv_bk q25 t_b5 (by simp)
  refine wl_val (at_move rfl) rfl ?_
  refine wl_val (at_extract rfl rfl) rfl ?_
  refine wl_val (at_extract rfl rfl) rfl ?_
  refine wl_newT (T := 3) (cs := [.int .i64 0]) (ef_alloc zero3 rfl) rfl so ?_; intro b26 w27 hb_b26 t_b26 k_b26 so
  have g_b26 := Nat.le_of_eq hb_b26.symm
  have hc := k_b26.ch (F := [])
  have n_b1_b26 : b1 ≠ b26 := fun e => by have := t_b1.lt; omega
  replace t_b1 := t_b1.keep k_b26
  have n_b3_b26 : b3 ≠ b26 := fun e => by have := t_b3.lt; omega
  replace t_b3 := t_b3.keep k_b26
  have n_b5_b26 : b5 ≠ b26 := fun e => by have := t_b5.lt; omega
  replace t_b5 := t_b5.keep k_b26
  refine wl_stT (v := .int .i64 x23.1) (cs' := [.int .i64 x23.1]) t_b26 (by first | decide | (rw [len3]; decide) | (rw [len3]; show 0 < _; decide) | simp [ints_len, bools_len]) (by first | rfl | simp [List.set_append, ints_len, bools_len]) rfl so (fun q1 q2 => ef_store (sz := sz3) rfl rfl rfl q1 q2) ?_; intro w28 t_b26 s_w28 so
  replace t_b1 := t_b1.same s_w28 (n_b1_b26)
  replace t_b3 := t_b3.same s_w28 (n_b3_b26)
  replace t_b5 := t_b5.same s_w28 (n_b5_b26)
  replace hc := ch_same hc s_w28 (.inr g_b26)
  refine wl_val (at_assign rfl) rfl ?_
  refine wl_nil ?_
  refine wk_prune [(3, .int .i64 a3), (4, .pointer (some (⟨b1, 0, none⟩ : Addr))), (5, .pointer (some (⟨b3, 0, none⟩ : Addr))), (6, .pointer (some (⟨b5, 0, none⟩ : Addr))), (9, .pointer (some (⟨b26, 0, none⟩ : Addr))), (10, .int .i64 x23.2)] ⟨rfl, rfl, rfl, rfl, rfl, rfl, trivial⟩ (fun f1 => ?_)
  refine wk_then ?_
  refine wc_seq ?_
  refine wc_region ?_
  refine wl_val (at_move rfl) rfl ?_
  refine wl_val (at_max rfl rfl) rfl ?_
  refine wl_val (at_assign rfl) rfl ?_
  refine wl_nil ?_
  refine wk_prune [(3, .int .i64 (if a3 < 0 then 0 else a3)), (4, .pointer (some (⟨b1, 0, none⟩ : Addr))), (5, .pointer (some (⟨b3, 0, none⟩ : Addr))), (6, .pointer (some (⟨b5, 0, none⟩ : Addr))), (9, .pointer (some (⟨b26, 0, none⟩ : Addr))), (10, .int .i64 x23.2)] ⟨rfl, rfl, rfl, rfl, rfl, rfl, trivial⟩ (fun f1 => ?_)
  refine wk_then ?_
  replace h := h b26 _ hc g_b26 t_b26.lt; clear hc
  replace h := h t_b5
  refine wc_seq ?_
  refine wc_joinG (w0 := w0) (fun (H : Hp) => Bk H b1 24 (c24 a0_0 a0_1 a0_2 l8) ∧ Bk H b3 25 [.slice l16.a l16.n l16.c] ∧ Bk H b26 3 [.int .i64 x23.1] ∧ True) (fun (s30 : Int) => [(3, .int .i64 s30), (4, .pointer (some (⟨b1, 0, none⟩ : Addr))), (5, .pointer (some (⟨b3, 0, none⟩ : Addr))), (6, .pointer (some (⟨b5, 0, none⟩ : Addr))), (9, .pointer (some (⟨b26, 0, none⟩ : Addr))), (10, .int .i64 x23.2)]) (fun (s30 : Int) => []) h ?_ ?_
  · rintro s30 w31 f1 h ⟨t_b1, t_b3, t_b26, _⟩ so; refine wk_then ?_
    refine wc_seq ?_
    refine wc_region ?_
    obtain ⟨x32, q33, h⟩ := h
    refine wl_val (at_load Try.underlying3 rfl rfl q33) rfl ?_
    refine wl_val (at_load (v := .int .i64 x23.1) Try.underlying3 rfl rfl ((t_b26.cell 0).trans (by first | rfl | simp [List.getElem?_append, ints_len, bools_len]))) rfl ?_
    refine wl_val (at_move rfl) rfl ?_
    refine wl_val (at_mul rfl rfl) rfl ?_
    refine wl_val (at_min rfl rfl) rfl ?_
    refine wl_st (v := .int .i64 (if (IntKind.wrap .i64 (x23.1 * x23.2)) < x32 then (IntKind.wrap .i64 (x23.1 * x23.2)) else x32)) h rfl so (fun q1 q2 => ef_store (sz := sz3) rfl rfl rfl q1 q2) ?_; intro w34 h so
    obtain ⟨q35, h⟩ := h
    replace t_b1 := pv_bk q35 t_b1 (by simp)
    replace t_b3 := pv_bk q35 t_b3 (by simp)
    replace t_b26 := pv_bk q35 t_b26 (by simp)
    refine wl_nil ?_
    refine wk_prune [(3, .int .i64 s30), (4, .pointer (some (⟨b1, 0, none⟩ : Addr))), (5, .pointer (some (⟨b3, 0, none⟩ : Addr))), (6, .pointer (some (⟨b5, 0, none⟩ : Addr))), (9, .pointer (some (⟨b26, 0, none⟩ : Addr))), (10, .int .i64 x23.2)] ⟨rfl, rfl, rfl, rfl, rfl, rfl, trivial⟩ (fun f1 => ?_)
    refine wk_then ?_
    refine wc_seq ?_
    refine wc_region ?_
    obtain ⟨x36, q37, h⟩ := h
    refine wl_val (at_load Try.underlying3 rfl rfl q37) rfl ?_
    refine wl_val (at_move rfl) rfl ?_
    refine wl_val (at_load (v := .int .i64 x23.1) Try.underlying3 rfl rfl ((t_b26.cell 0).trans (by first | rfl | simp [List.getElem?_append, ints_len, bools_len]))) rfl ?_
    refine wl_val (at_move rfl) rfl ?_
    refine wl_val (at_mul rfl rfl) rfl ?_
    obtain ⟨x38, q39, h⟩ := h
    refine wl_val (at_load Try.underlying3 rfl rfl q39) rfl ?_
    refine wl_val (at_sub rfl rfl) rfl ?_
    refine wl_val (at_min rfl rfl) rfl ?_
    refine wl_val (at_add rfl rfl) rfl ?_
    refine wl_newT (T := 3) (cs := [.int .i64 0]) (ef_alloc zero3 rfl) rfl so ?_; intro b40 w41 hb_b40 t_b40 k_b40 so
    have g_b40 := Nat.le_of_eq hb_b40.symm
    have hc := k_b40.ch (F := [])
    have n_b1_b40 : b1 ≠ b40 := fun e => by have := t_b1.lt; omega
    replace t_b1 := t_b1.keep k_b40
    have n_b3_b40 : b3 ≠ b40 := fun e => by have := t_b3.lt; omega
    replace t_b3 := t_b3.keep k_b40
    have n_b26_b40 : b26 ≠ b40 := fun e => by have := t_b26.lt; omega
    replace t_b26 := t_b26.keep k_b40
    refine wl_stT (v := .int .i64 (IntKind.wrap .i64 (x36 + (if (IntKind.wrap .i64 ((IntKind.wrap .i64 (x23.1 * x23.2)) - x38)) < s30 then (IntKind.wrap .i64 ((IntKind.wrap .i64 (x23.1 * x23.2)) - x38)) else s30)))) (cs' := [.int .i64 (IntKind.wrap .i64 (x36 + (if (IntKind.wrap .i64 ((IntKind.wrap .i64 (x23.1 * x23.2)) - x38)) < s30 then (IntKind.wrap .i64 ((IntKind.wrap .i64 (x23.1 * x23.2)) - x38)) else s30)))]) t_b40 (by first | decide | (rw [len3]; decide) | (rw [len3]; show 0 < _; decide) | simp [ints_len, bools_len]) (by first | rfl | simp [List.set_append, ints_len, bools_len]) rfl so (fun q1 q2 => ef_store (sz := sz3) rfl rfl rfl q1 q2) ?_; intro w42 t_b40 s_w42 so
    replace t_b1 := t_b1.same s_w42 (n_b1_b40)
    replace t_b3 := t_b3.same s_w42 (n_b3_b40)
    replace t_b26 := t_b26.same s_w42 (n_b26_b40)
    replace hc := ch_same hc s_w42 (.inr g_b40)
    refine wl_nil ?_
    refine wk_prune [(4, .pointer (some (⟨b1, 0, none⟩ : Addr))), (5, .pointer (some (⟨b3, 0, none⟩ : Addr))), (6, .pointer (some (⟨b5, 0, none⟩ : Addr))), (9, .pointer (some (⟨b26, 0, none⟩ : Addr))), (11, .pointer (some (⟨b40, 0, none⟩ : Addr)))] ⟨rfl, rfl, rfl, rfl, rfl, trivial⟩ (fun f1 => ?_)
    refine wk_then ?_
    refine wc_seq ?_
    refine wc_region ?_
    replace h := h b40 _ hc g_b40 t_b40.lt; clear hc
    replace h := h t_b40
    replace h := h t_b1
    replace h := h t_b3
    replace h := h t_b26
    refine wl_val (at_makeFunc (v1 := []) (v2 := [.pointer (some (⟨b5, 0, none⟩ : Addr)), .pointer (some (⟨b40, 0, none⟩ : Addr)), .pointer (some (⟨b1, 0, none⟩ : Addr)), .pointer (some (⟨b3, 0, none⟩ : Addr)), .pointer (some (⟨b26, 0, none⟩ : Addr))]) rfl rfl) rfl ?_
    refine wl_val (at_assign rfl) rfl ?_
    refine wl_nil ?_
    refine wk_prune [(8, .func (.func 42) #[] #[.pointer (some (⟨b5, 0, none⟩ : Addr)), .pointer (some (⟨b40, 0, none⟩ : Addr)), .pointer (some (⟨b1, 0, none⟩ : Addr)), .pointer (some (⟨b3, 0, none⟩ : Addr)), .pointer (some (⟨b26, 0, none⟩ : Addr))])] ⟨rfl, trivial⟩ (fun f1 => ?_)
    refine wk_then ?_
    refine wc_ret ?_
    exact wk_ret1 (x := ((⟨b5, 0, none⟩ : Addr), (⟨b40, 0, none⟩ : Addr), (⟨b1, 0, none⟩ : Addr), (⟨b3, 0, none⟩ : Addr), (⟨b26, 0, none⟩ : Addr))) rfl (by decide) rfl so h
  · intro J29 h hJ29
    refine wc_seq ?_
    refine wc_region ?_
    obtain ⟨x43, q44, h⟩ := h
    refine wl_val (at_load Try.underlying3 rfl rfl q44) rfl ?_
    refine wl_val (at_lss rfl rfl) rfl ?_
    refine wl_nil ?_
    refine wk_prune [(3, .int .i64 (if a3 < 0 then 0 else a3)), (4, .pointer (some (⟨b1, 0, none⟩ : Addr))), (5, .pointer (some (⟨b3, 0, none⟩ : Addr))), (6, .pointer (some (⟨b5, 0, none⟩ : Addr))), (9, .pointer (some (⟨b26, 0, none⟩ : Addr))), (10, .int .i64 x23.2), (27, .bool (decide (x43 < 0)))] ⟨rfl, rfl, rfl, rfl, rfl, rfl, rfl, trivial⟩ (fun f1 => ?_)
    refine wk_then ?_
    refine wc_cond rfl h (fun h => ?_) (fun h => ?_)
    · refine wc_seq ?_
      refine wc_region ?_
      refine wl_val (at_move rfl) rfl ?_
      obtain ⟨x45, q46, h⟩ := h
      refine wl_val (at_load Try.underlying3 rfl rfl q46) rfl ?_
      refine wl_val (at_move rfl) rfl ?_
      refine wl_val (at_neg rfl) rfl ?_
      refine wl_val (at_max rfl rfl) rfl ?_
      refine wl_val (at_add rfl rfl) rfl ?_
      refine wl_val (at_assign rfl) rfl ?_
      obtain ⟨x47, e48⟩ : ∃ x : Int, x = (IntKind.wrap .i64 ((if a3 < 0 then 0 else a3) + (if x45 < (IntKind.wrap .i64 (0 - (if a3 < 0 then 0 else a3))) then (IntKind.wrap .i64 (0 - (if a3 < 0 then 0 else a3))) else x45))) := ⟨_, rfl⟩; replace h := h x47 e48
      refine wl_set (t := 3) (v := .int .i64 x47) (congrArg (Value.int .i64) e48.symm) ?_
      refine wl_nil ?_
      refine wk_prune [(3, .int .i64 x47), (4, .pointer (some (⟨b1, 0, none⟩ : Addr))), (5, .pointer (some (⟨b3, 0, none⟩ : Addr))), (6, .pointer (some (⟨b5, 0, none⟩ : Addr))), (9, .pointer (some (⟨b26, 0, none⟩ : Addr))), (10, .int .i64 x23.2)] ⟨rfl, rfl, rfl, rfl, rfl, rfl, trivial⟩ (fun f1 => ?_)
      refine wk_then ?_
      refine wc_region ?_
      refine wl_st (v := .int .i64 0) h rfl so (fun q1 q2 => ef_store (sz := sz3) rfl rfl rfl q1 q2) ?_; intro w49 h so
      obtain ⟨q50, h⟩ := h
      replace t_b1 := pv_bk q50 t_b1 (by simp)
      replace t_b3 := pv_bk q50 t_b3 (by simp)
      replace t_b26 := pv_bk q50 t_b26 (by simp)
      refine wl_nil ?_
      exact wk_prune [(3, .int .i64 x47), (4, .pointer (some (⟨b1, 0, none⟩ : Addr))), (5, .pointer (some (⟨b3, 0, none⟩ : Addr))), (6, .pointer (some (⟨b5, 0, none⟩ : Addr))), (9, .pointer (some (⟨b26, 0, none⟩ : Addr))), (10, .int .i64 x23.2)] ⟨rfl, rfl, rfl, rfl, rfl, rfl, trivial⟩ (fun f1 => hJ29 (x47) _ f1 h ⟨t_b1, t_b3, t_b26, trivial⟩ so)
    · refine wc_skip ?_
      exact wk_prune [(3, .int .i64 (if a3 < 0 then 0 else a3)), (4, .pointer (some (⟨b1, 0, none⟩ : Addr))), (5, .pointer (some (⟨b3, 0, none⟩ : Addr))), (6, .pointer (some (⟨b5, 0, none⟩ : Addr))), (9, .pointer (some (⟨b26, 0, none⟩ : Addr))), (10, .int .i64 x23.2)] ⟨rfl, rfl, rfl, rfl, rfl, rfl, trivial⟩ (fun f1 => hJ29 ((if a3 < 0 then 0 else a3)) _ f1 h ⟨t_b1, t_b3, t_b26, trivial⟩ so)
def geom_spots.enc : Addr × Addr × Addr × Addr → Value := fun r => .func (.func 66) #[] #[.pointer (some r.1), .pointer (some r.2.1), .pointer (some r.2.2.1), .pointer (some r.2.2.2)]
def geom_spots.s (a0_0 : Int) (a0_1 : Int) (a0_2 : Int) (a0_3 : Sl) (a1 : Sl) (a2 : Int) (a3 : Int) (H0 : Hp) (Q : (Addr × Addr × Addr × Addr) → Hp → Prop) : Prop :=
  Gn [] H0 (fun (b1 : Nat) (H2 : Hp) => Gn [] H2 (fun (b3 : Nat) (H4 : Hp) => Gn [] H4 (fun (b5 : Nat) (H6 : Hp) => Gn [] H6 (fun (b7 : Nat) (H8 : Hp) => Bk H8 b3 25 [.slice a1.a a1.n a1.c] → (Bk H8 b5 3 [.int .i64 a2] → (Bk H8 b7 3 [.int .i64 a3] → (Bk H8 b1 24 (c24 a0_0 a0_1 a0_2 a0_3) → (Q ((⟨b3, 0, none⟩ : Addr), (⟨b5, 0, none⟩ : Addr), (⟨b7, 0, none⟩ : Addr), (⟨b1, 0, none⟩ : Addr)) H8))))))))
set_option maxRecDepth 20000 in
set_option maxHeartbeats 4000000 in
theorem geom_spots.calls (a0_0 : Int) (a0_1 : Int) (a0_2 : Int) (a0_3 : Sl) (a1 : Sl) (a2 : Int) (a3 : Int) (w0 : World) (Q : (Addr × Addr × Addr × Addr) → Hp → Prop) (h : geom_spots.s a0_0 a0_1 a0_2 a0_3 a1 a2 a3 w0.heap Q) :
    Ca Try.prog 43 #[.agg (c24 a0_0 a0_1 a0_2 a0_3).toArray, .slice a1.a a1.n a1.c, .int .i64 a2, .int .i64 a3] w0 (Rt geom_spots.enc Q w0) := by
  refine ca_start (c := _) Try.func43 rfl Try.ntmps43 rfl ?_
  have so : Sm w0 w0 := Sm.refl w0
  unfold geom_spots.s at h
  refine wc_prune [(0, .agg (c24 a0_0 a0_1 a0_2 a0_3).toArray), (1, .slice a1.a a1.n a1.c), (2, .int .i64 a2), (3, .int .i64 a3)] ⟨rfl, rfl, rfl, rfl, trivial⟩ (fun f1 => ?_)
  refine wc_seq ?_
  refine wc_region ?_
  refine wl_newT (T := 24) (cs := (c24 a0_0 a0_1 a0_2 a0_3)) (ef_box rfl rfl) rfl so ?_; intro b1 w2 hb_b1 t_b1 k_b1 so
  have g_b1 := Nat.le_of_eq hb_b1.symm
  have hc := k_b1.ch (F := [])
  replace h := h b1 _ hc g_b1 t_b1.lt; clear hc
  refine wl_newT (T := 25) (cs := [.slice a1.a a1.n a1.c]) (ef_box rfl rfl) rfl so ?_; intro b3 w4 hb_b3 t_b3 k_b3 so
  have g_b3 := Nat.le_of_eq hb_b3.symm
  have hc := k_b3.ch (F := [])
  have n_b1_b3 : b1 ≠ b3 := fun e => by have := t_b1.lt; omega
  replace t_b1 := t_b1.keep k_b3
  replace h := h b3 _ hc g_b3 t_b3.lt; clear hc
  refine wl_newT (T := 3) (cs := [.int .i64 a2]) (ef_box rfl rfl) rfl so ?_; intro b5 w6 hb_b5 t_b5 k_b5 so
  have g_b5 := Nat.le_of_eq hb_b5.symm
  have hc := k_b5.ch (F := [])
  have n_b1_b5 : b1 ≠ b5 := fun e => by have := t_b1.lt; omega
  replace t_b1 := t_b1.keep k_b5
  have n_b3_b5 : b3 ≠ b5 := fun e => by have := t_b3.lt; omega
  replace t_b3 := t_b3.keep k_b5
  replace h := h b5 _ hc g_b5 t_b5.lt; clear hc
  refine wl_newT (T := 3) (cs := [.int .i64 a3]) (ef_box rfl rfl) rfl so ?_; intro b7 w8 hb_b7 t_b7 k_b7 so
  have g_b7 := Nat.le_of_eq hb_b7.symm
  have hc := k_b7.ch (F := [])
  have n_b1_b7 : b1 ≠ b7 := fun e => by have := t_b1.lt; omega
  replace t_b1 := t_b1.keep k_b7
  have n_b3_b7 : b3 ≠ b7 := fun e => by have := t_b3.lt; omega
  replace t_b3 := t_b3.keep k_b7
  have n_b5_b7 : b5 ≠ b7 := fun e => by have := t_b5.lt; omega
  replace t_b5 := t_b5.keep k_b7
  refine wl_val (at_assign rfl) rfl ?_
  refine wl_nil ?_
  refine wk_prune [(4, .pointer (some (⟨b1, 0, none⟩ : Addr))), (5, .pointer (some (⟨b3, 0, none⟩ : Addr))), (6, .pointer (some (⟨b5, 0, none⟩ : Addr))), (7, .pointer (some (⟨b7, 0, none⟩ : Addr)))] ⟨rfl, rfl, rfl, rfl, trivial⟩ (fun f1 => ?_)
  refine wk_then ?_
  refine wc_seq ?_
  refine wc_region ?_
  replace h := h b7 _ hc g_b7 t_b7.lt; clear hc
  replace h := h t_b3
  replace h := h t_b5
  replace h := h t_b7
  replace h := h t_b1
  refine wl_val (at_makeFunc (v1 := []) (v2 := [.pointer (some (⟨b3, 0, none⟩ : Addr)), .pointer (some (⟨b5, 0, none⟩ : Addr)), .pointer (some (⟨b7, 0, none⟩ : Addr)), .pointer (some (⟨b1, 0, none⟩ : Addr))]) rfl rfl) rfl ?_
  refine wl_val (at_assign rfl) rfl ?_
  refine wl_nil ?_
  refine wk_prune [(8, .func (.func 66) #[] #[.pointer (some (⟨b3, 0, none⟩ : Addr)), .pointer (some (⟨b5, 0, none⟩ : Addr)), .pointer (some (⟨b7, 0, none⟩ : Addr)), .pointer (some (⟨b1, 0, none⟩ : Addr))])] ⟨rfl, trivial⟩ (fun f1 => ?_)
  refine wk_then ?_
  refine wc_ret ?_
  exact wk_ret1 (x := ((⟨b3, 0, none⟩ : Addr), (⟨b5, 0, none⟩ : Addr), (⟨b7, 0, none⟩ : Addr), (⟨b1, 0, none⟩ : Addr))) rfl (by decide) rfl so h
def geom_spots_1.yenc : Int × Int × Int × Int × Bool → Array Value := fun x => #[.agg (c92 x.1 x.2.1 x.2.2.1 x.2.2.2.1 x.2.2.2.2).toArray]
def geom_spots_1.enc : Unit → Value := fun _ => .tuple #[]
def geom_spots_1.s (Y0 : (Int × Int × Int × Int × Bool) → Hp → (Bool → Hp → Prop) → Prop) (a1 : Addr) (a2 : Addr) (a3 : Addr) (a4 : Addr) (H0 : Hp) (Q : Unit → Hp → Prop) : Prop :=
  ldL H0 a1 (fun x1 => if ((x1.n : Int) == 1) = true then (ldL H0 a1 (fun x4 => 0 ≤ (0 : Int) ∧ (0 : Int) < (x4.n : Int) ∧ someA x4.a (fun p8 => ldI .i64 H0 ((p8.add (Int.toNat 0 * 3)).add 0) (fun x10 => ldI .i64 H0 a2 (fun x12 => ldI .i64 H0 a3 (fun x14 => Y0 (0, x10, x12, x14, true) H0 (fun b16 H17 => Q () H17))))))) else (ldL H0 a1 (fun x18 => ∃ k20, Fix (fun (rec25 : Int → Hp → Prop) (s22 : Int) (H23 : Hp) => if decide (s22 < (x18.n : Int)) = true then (0 ≤ s22 ∧ s22 < (x18.n : Int) ∧ someA x18.a (fun p28 => ∃ x30 : Int, ∃ x31 : Int, ∃ x32 : Int, ldA H23 (p28.add (Int.toNat s22 * 3)) (c76 x30 x31 x32) ∧ (Gn [] H23 (fun (b34 : Nat) (H36 : Hp) => ∃ x37 : Int, ∃ x38 : Int, ∃ x39 : Int, ∃ x40 : Sl, ldA H36 a4 (c24 x37 x38 x39 x40) ∧ (geom_Blocks.s x37 x38 x39 x40 x30 H36 (fun x42 H43 => Pv [b34] H36 H43 ∧ (ldL H43 (a4.add 3) (fun x45 => 0 ≤ x30 ∧ x30 < (x45.n : Int) ∧ someA x45.a (fun p49 => ldI .u8 H43 ((p49.add (Int.toNat x30 * 4)).add 1) (fun x51 => ldL H43 (a4.add 3) (fun x53 => 0 ≤ x30 ∧ x30 < (x53.n : Int) ∧ someA x53.a (fun p57 => ldI .u8 H43 ((p57.add (Int.toNat x30 * 4)).add 2) (fun x59 => ∃ k62, Fix (fun (rec67 : Int → Hp → Prop) (s64 : Int) (H65 : Hp) => if decide (s64 < (IntKind.wrap .i64 ((IntKind.wrap .i64 x51) * (IntKind.wrap .i64 x59)))) = true then ((IntKind.wrap .i64 x51) ≠ 0 ∧ ((IntKind.wrap .i64 x51) ≠ 0 ∧ (ldI .i64 H65 a2 (fun x72 => ldI .i64 H65 a3 (fun x74 => Gn [] H65 (fun (b76 : Nat) (H77 : Hp) => cellAt H77 a3 = some (.int .i64 x74) ∧ cellAt H77 a2 = some (.int .i64 x72) ∧ (Gr [b76] H77 (fun (H80 : Hp) => Bk H80 b76 92 (c92 s22 x30 (IntKind.wrap .i64 ((IntKind.wrap .i64 (x72 * (IntKind.wrap .i64 x51))) + (Int.tmod s64 (IntKind.wrap .i64 x51)))) (IntKind.wrap .i64 ((IntKind.wrap .i64 (x74 * (IntKind.wrap .i64 x59))) + (IntKind.wrap .i64 (Int.tdiv s64 (IntKind.wrap .i64 x51))))) false) → (Join (fun (s82 : Unit) (H83 : Hp) => ∃ x84 : Int, ∃ x85 : Int, ∃ x86 : Int, ∃ x87 : Int, ∃ x88 : Bool, ldA H83 (⟨b76, 0, none⟩ : Addr) (c92 x84 x85 x86 x87 x88) ∧ (Y0 (x84, x85, x86, x87, x88) H83 (fun b90 H91 => Pv [b34] H83 H91 ∧ (if (!b90) = true then (Q () H91) else (rec67 ((IntKind.wrap .i64 (s64 + 1))) H91))))) (fun (J81 : Unit → Hp → Prop) => ldI .i64 H80 (⟨b76, 2, none⟩ : Addr) (fun x93 => if decide (x93 < x42.1) = true then (ldI .i64 H80 (⟨b76, 3, none⟩ : Addr) (fun x95 => st H80 (⟨b76, 4, none⟩ : Addr) (.bool (decide (x95 < x42.2))) (fun H97 => Pv [b34] H80 H97 ∧ (J81 () H97)))) else (st H80 (⟨b76, 4, none⟩ : Addr) (.bool false) (fun H99 => Pv [b34] H80 H99 ∧ (J81 () H99)))))))))))))) else (rec25 ((IntKind.wrap .i64 (s22 + 1))) H65)) k62 (0) H43))))))))))))) else (Q () H23)) k20 (0) H0)))
set_option maxRecDepth 20000 in
set_option maxHeartbeats 4000000 in
theorem geom_spots_1.calls (yv0 : Value) (Y0 : (Int × Int × Int × Int × Bool) → Hp → (Bool → Hp → Prop) → Prop) (hY0 : YOk Try.prog geom_spots_1.yenc yv0 Y0) (a1 : Addr) (a2 : Addr) (a3 : Addr) (a4 : Addr) (w0 : World) (Q : Unit → Hp → Prop) (h : geom_spots_1.s Y0 a1 a2 a3 a4 w0.heap Q) :
    Ca Try.prog 66 #[yv0, .pointer (some a1), .pointer (some a2), .pointer (some a3), .pointer (some a4)] w0 (Rt geom_spots_1.enc Q w0) := by
  refine ca_start (c := _) Try.func66 rfl Try.ntmps66 rfl ?_
  have so : Sm w0 w0 := Sm.refl w0
  unfold geom_spots_1.s at h
  refine wc_prune [(0, yv0), (1, .pointer (some a1)), (2, .pointer (some a2)), (3, .pointer (some a3)), (4, .pointer (some a4))] ⟨rfl, rfl, rfl, rfl, rfl, trivial⟩ (fun f1 => ?_)
  refine wc_seq ?_
  refine wc_seq ?_
  refine wc_region ?_
  obtain ⟨x1, q2, h⟩ := h
  refine wl_val (at_load Try.underlying25 rfl rfl q2) rfl ?_
  refine wl_val (at_lenL Try.underlying25 rfl) rfl ?_
  refine wl_val (at_eql rfl rfl) rfl ?_
  refine wl_nil ?_
  refine wk_prune [(0, yv0), (1, .pointer (some a1)), (2, .pointer (some a2)), (3, .pointer (some a3)), (4, .pointer (some a4)), (16, .bool ((x1.n : Int) == 1))] ⟨rfl, rfl, rfl, rfl, rfl, rfl, trivial⟩ (fun f1 => ?_)
  refine wk_then ?_
  refine wc_cond rfl h (fun h => ?_) (fun h => ?_)
  · refine wc_seq ?_
    refine wc_wo [0, 0, 2, 6, 14, 0, 0, 126, 255] mixed (by kernel_rfl) so ?_; intro w3 hw so; rw [← hw] at h; clear hw
    refine wo_pure (m' := 1) 0 rfl (by kernel_rfl) rfl rfl (fun H => at_move rfl) ?_
    obtain ⟨x4, q5, h⟩ := h
    refine wo_load (m' := 3) 1 (fun H => cellAt H a1 = some (.slice x4.a x4.n x4.c)) rfl (by kernel_rfl) rfl rfl (fun H q5 => at_load Try.underlying25 rfl rfl q5) q5 ?_
    obtain ⟨q6, q7, p8, q9, h⟩ := h
    refine wo_pure (m' := 7) 2 rfl (by kernel_rfl) rfl rfl (fun H => at_ixAddrL Try.underlying25 sz76 (sl_some q9) rfl q6 q7) ?_
    refine wo_pure (m' := 15) 3 rfl (by kernel_rfl) rfl rfl (fun H => at_fieldAddr Try.underlying76 rfl rfl sz3 (by decide) rfl) ?_
    obtain ⟨x10, q11, h⟩ := h
    refine wo_load (m' := 31) 4 (fun H => cellAt H ((p8.add (Int.toNat 0 * 3)).add 0) = some (.int .i64 x10)) rfl (by kernel_rfl) rfl rfl (fun H q11 => at_load Try.underlying3 rfl rfl q11) q11 ?_
    obtain ⟨x12, q13, h⟩ := h
    refine wo_load (m' := 63) 5 (fun H => cellAt H a2 = some (.int .i64 x12)) rfl (by kernel_rfl) rfl rfl (fun H q13 => at_load Try.underlying3 rfl rfl q13) q13 ?_
    obtain ⟨x14, q15, h⟩ := h
    refine wo_load (m' := 127) 6 (fun H => cellAt H a3 = some (.int .i64 x14)) rfl (by kernel_rfl) rfl rfl (fun H q15 => at_load Try.underlying3 rfl rfl q15) q15 ?_
    refine wo_pure (m' := 255) 7 rfl (by kernel_rfl) rfl rfl (fun H => at_build (cs := (c92 0 x10 x12 x14 true)) (ps := [(1, .int .i64 x10), (2, .int .i64 x12), (3, .int .i64 x14), (4, .bool true)]) rfl (fun w => by simp [Instr.build, Instr.fill, go_sem, Try.underlying92, z92] <;> rfl)) ?_
    refine wo_take (m' := 511) 8 [true, true, true, true] rfl (by kernel_rfl) rfl (by kernel_rfl) ?_
    refine wl_yield (a := (0, x10, x12, x14, true)) hY0 rfl rfl rfl h so ?_; intro b16 w17 h so
    refine wl_nil ?_
    refine wk_tq trivial ?_
    refine wo_done (by kernel_rfl) ?_
    refine wk_prune [] trivial (fun f1 => ?_)
    refine wk_then ?_
    refine wc_ret ?_
    refine wk_thenR ?_
    exact wk_ret0 (x := ()) rfl rfl so h
  · refine wc_skip ?_
    refine wk_prune [(0, yv0), (1, .pointer (some a1)), (2, .pointer (some a2)), (3, .pointer (some a3)), (4, .pointer (some a4))] ⟨rfl, rfl, rfl, rfl, rfl, trivial⟩ (fun f1 => ?_)
    refine wk_then ?_
    refine wc_seq ?_
    refine wc_region ?_
    obtain ⟨x18, q19, h⟩ := h
    refine wl_val (at_load Try.underlying25 rfl rfl q19) rfl ?_
    refine wl_val (at_lenL Try.underlying25 rfl) rfl ?_
    refine wl_val (at_move rfl) rfl ?_
    refine wl_nil ?_
    refine wk_prune [(0, yv0), (2, .pointer (some a2)), (3, .pointer (some a3)), (4, .pointer (some a4)), (26, .slice x18.a x18.n x18.c), (27, .int .i64 (x18.n : Int)), (28, .int .i64 0)] ⟨rfl, rfl, rfl, rfl, rfl, rfl, rfl, trivial⟩ (fun f1 => ?_)
    refine wk_then ?_
    refine wc_block ?_
    obtain ⟨k20, h⟩ := h
    refine wc_loop (fun k a w => ∃ (s22 : Int) (f1 : Nat → Value), a = ac 97 (en f1 [(0, yv0), (2, .pointer (some a2)), (3, .pointer (some a3)), (4, .pointer (some a4)), (26, .slice x18.a x18.n x18.c), (27, .int .i64 (x18.n : Int)), (28, .int .i64 s22)]) [] ∧ Sm w0 w ∧ Fix _ k s22 w.heap) k20 ⟨(0), _, ac_again ⟨rfl, rfl, rfl, rfl, rfl, rfl, rfl, trivial⟩, so, h⟩ ?_
    rintro k21 a24 w23 ⟨s22, f1, rfl, so, h⟩
    rcases k21 with _ | k21
    · exact h.elim
    replace h := Fix.un h; refine wc_in ?_
    refine wc_seq ?_
    refine wc_region ?_
    refine wl_val (at_lss rfl rfl) rfl ?_
    refine wl_nil ?_
    refine wk_prune [(0, yv0), (2, .pointer (some a2)), (3, .pointer (some a3)), (4, .pointer (some a4)), (26, .slice x18.a x18.n x18.c), (27, .int .i64 (x18.n : Int)), (28, .int .i64 s22), (29, .bool (decide (s22 < (x18.n : Int))))] ⟨rfl, rfl, rfl, rfl, rfl, rfl, rfl, rfl, trivial⟩ (fun f1 => ?_)
    refine wk_then ?_
    refine wc_seq ?_
    refine wc_cond rfl h (fun h => ?_) (fun h => ?_)
    · refine wc_skip ?_
      refine wk_prune [(0, yv0), (2, .pointer (some a2)), (3, .pointer (some a3)), (4, .pointer (some a4)), (26, .slice x18.a x18.n x18.c), (27, .int .i64 (x18.n : Int)), (28, .int .i64 s22)] ⟨rfl, rfl, rfl, rfl, rfl, rfl, rfl, trivial⟩ (fun f1 => ?_)
      refine wk_then ?_
      refine wc_seq ?_
      refine wc_block ?_
      refine wc_seq ?_
      refine wc_region ?_
      refine wl_val (at_move rfl) rfl ?_
      obtain ⟨q26, q27, p28, q29, h⟩ := h
      refine wl_val (at_ixAddrL Try.underlying25 sz76 (sl_some q29) rfl q26 q27) rfl ?_
      obtain ⟨x30, x31, x32, q33, h⟩ := h
      refine wl_val (at_loadA (cs := (c76 x30 x31 x32)) Try.underlying76 rfl (by rw [len76]; exact sz76) rfl q33) rfl ?_
      refine wl_newT (T := 76) (cs := (c76 0 0 0)) (ef_alloc zero76 rfl) rfl so ?_; intro b34 w35 hb_b34 t_b34 k_b34 so
      have g_b34 := Nat.le_of_eq hb_b34.symm
      have hc := k_b34.ch (F := [])
      refine wl_val (at_assign rfl) rfl ?_
      refine wl_stWT (vs := (c76 x30 x31 x32)) t_b34 (by first | (rw [len76, len76]) | (rw [len76]) | rfl) rfl so (fun q => ef_storeA (p := (⟨b34, 0, none⟩ : Addr)) (cs := (c76 x30 x31 x32)) (by rw [len76]; exact sz76) rfl rfl (one76 _ _ _) q) ?_; intro w36 t_b34 s_w36 so
      replace hc := ch_same hc s_w36 (.inr g_b34)
      refine wl_nil ?_
      refine wk_prune [(0, yv0), (2, .pointer (some a2)), (3, .pointer (some a3)), (4, .pointer (some a4)), (6, .int .i64 s22), (7, .pointer (some (⟨b34, 0, none⟩ : Addr))), (26, .slice x18.a x18.n x18.c), (27, .int .i64 (x18.n : Int)), (28, .int .i64 s22)] ⟨rfl, rfl, rfl, rfl, rfl, rfl, rfl, rfl, rfl, trivial⟩ (fun f1 => ?_)
      refine wk_then ?_
      refine wc_seq ?_
      refine wc_region ?_
      replace h := h b34 _ hc g_b34 t_b34.lt; clear hc
      obtain ⟨x37, x38, x39, x40, q41, h⟩ := h
      refine wl_val (at_loadA (cs := (c24 x37 x38 x39 x40)) Try.underlying24 rfl (by rw [len24]; exact sz24) rfl q41) rfl ?_
      refine wl_val (at_fieldAddr Try.underlying76 rfl rfl sz3 (by decide) rfl) rfl ?_
      refine wl_val (at_load (v := .int .i64 x30) Try.underlying3 rfl rfl ((t_b34.cell 0).trans (by first | rfl | simp [List.getElem?_append, ints_len, bools_len]))) rfl ?_
      refine wl_callF (geom_Blocks.calls _ _ _ _ _ _ _ h) enter58 rfl trivial so ?_; intro x42 w43 h so
      obtain ⟨q44, h⟩ := h
      replace t_b34 := pv_bk q44 t_b34 (by simp)
      refine wl_val (at_move rfl) rfl ?_
      refine wl_val (at_extract rfl rfl) rfl ?_
      refine wl_val (at_extract rfl rfl) rfl ?_
      refine wl_val (at_assign rfl) rfl ?_
      refine wl_val (at_assign rfl) rfl ?_
      refine wl_nil ?_
      refine wk_prune [(0, yv0), (2, .pointer (some a2)), (3, .pointer (some a3)), (4, .pointer (some a4)), (6, .int .i64 s22), (7, .pointer (some (⟨b34, 0, none⟩ : Addr))), (8, .int .i64 x42.1), (9, .int .i64 x42.2), (26, .slice x18.a x18.n x18.c), (27, .int .i64 (x18.n : Int)), (28, .int .i64 s22)] ⟨rfl, rfl, rfl, rfl, rfl, rfl, rfl, rfl, rfl, rfl, rfl, trivial⟩ (fun f1 => ?_)
      refine wk_then ?_
      refine wc_seq ?_
      refine wc_draw mixed (by kernel_rfl) so ?_
      refine wq_val (at_fieldAddr Try.underlying24 rfl rfl sz22 (by decide) rfl) rfl ?_
      obtain ⟨x45, q46, h⟩ := h
      refine wq_val (at_load Try.underlying22 rfl rfl q46) rfl ?_
      refine wq_val (at_fieldAddr Try.underlying76 rfl rfl sz3 (by decide) rfl) rfl ?_
      refine wq_val (at_load (v := .int .i64 x30) Try.underlying3 rfl rfl ((t_b34.cell 0).trans (by first | rfl | simp [List.getElem?_append, ints_len, bools_len]))) rfl ?_
      obtain ⟨q47, q48, p49, q50, h⟩ := h
      refine wq_val (at_ixAddrL Try.underlying22 sz100 (sl_some q50) rfl q47 q48) rfl ?_
      refine wq_val (at_fieldAddr Try.underlying100 rfl rfl sz5 (by decide) rfl) rfl ?_
      obtain ⟨x51, q52, h⟩ := h
      refine wq_val (at_load Try.underlying5 rfl rfl q52) rfl ?_
      refine wq_val (at_conv Try.underlying5 Try.underlying3 rfl) rfl ?_
      refine wq_val (at_fieldAddr Try.underlying24 rfl rfl sz22 (by decide) rfl) rfl ?_
      obtain ⟨x53, q54, h⟩ := h
      refine wq_val (at_load Try.underlying22 rfl rfl q54) rfl ?_
      refine wq_val (at_fieldAddr Try.underlying76 rfl rfl sz3 (by decide) rfl) rfl ?_
      refine wq_val (at_load (v := .int .i64 x30) Try.underlying3 rfl rfl ((t_b34.cell 0).trans (by first | rfl | simp [List.getElem?_append, ints_len, bools_len]))) rfl ?_
      obtain ⟨q55, q56, p57, q58, h⟩ := h
      refine wq_val (at_ixAddrL Try.underlying22 sz100 (sl_some q58) rfl q55 q56) rfl ?_
      refine wq_val (at_fieldAddr Try.underlying100 rfl rfl sz5 (by decide) rfl) rfl ?_
      obtain ⟨x59, q60, h⟩ := h
      refine wq_val (at_load Try.underlying5 rfl rfl q60) rfl ?_
      refine wq_val (at_conv Try.underlying5 Try.underlying3 rfl) rfl ?_
      refine wq_val (at_assign rfl) rfl ?_
      refine wq_val (at_assign rfl) rfl ?_
      refine wq_nil ?_; intro w61 hw so; rw [← hw] at h t_b34; clear hw
      refine wk_prune [(0, yv0), (2, .pointer (some a2)), (3, .pointer (some a3)), (4, .pointer (some a4)), (6, .int .i64 s22), (7, .pointer (some (⟨b34, 0, none⟩ : Addr))), (8, .int .i64 x42.1), (9, .int .i64 x42.2), (10, .int .i64 (IntKind.wrap .i64 x51)), (11, .int .i64 (IntKind.wrap .i64 x59)), (26, .slice x18.a x18.n x18.c), (27, .int .i64 (x18.n : Int)), (28, .int .i64 s22)] ⟨rfl, rfl, rfl, rfl, rfl, rfl, rfl, rfl, rfl, rfl, rfl, rfl, rfl, trivial⟩ (fun f1 => ?_)
      refine wk_then ?_
      refine wc_seq ?_
      refine wc_region ?_
      refine wl_val (at_move rfl) rfl ?_
      refine wl_val (at_move rfl) rfl ?_
      refine wl_val (at_mul rfl rfl) rfl ?_
      refine wl_val (at_move rfl) rfl ?_
      refine wl_nil ?_
      refine wk_prune [(0, yv0), (2, .pointer (some a2)), (3, .pointer (some a3)), (4, .pointer (some a4)), (6, .int .i64 s22), (7, .pointer (some (⟨b34, 0, none⟩ : Addr))), (8, .int .i64 x42.1), (9, .int .i64 x42.2), (10, .int .i64 (IntKind.wrap .i64 x51)), (11, .int .i64 (IntKind.wrap .i64 x59)), (26, .slice x18.a x18.n x18.c), (27, .int .i64 (x18.n : Int)), (28, .int .i64 s22), (58, .int .i64 (IntKind.wrap .i64 ((IntKind.wrap .i64 x51) * (IntKind.wrap .i64 x59)))), (59, .int .i64 0)] ⟨rfl, rfl, rfl, rfl, rfl, rfl, rfl, rfl, rfl, rfl, rfl, rfl, rfl, rfl, rfl, trivial⟩ (fun f1 => ?_)
      refine wk_then ?_
      refine wc_block ?_
      obtain ⟨k62, h⟩ := h
      refine wc_loop (fun k a w => ∃ (s64 : Int) (f1 : Nat → Value), a = ac 97 (en f1 [(0, yv0), (2, .pointer (some a2)), (3, .pointer (some a3)), (4, .pointer (some a4)), (6, .int .i64 s22), (7, .pointer (some (⟨b34, 0, none⟩ : Addr))), (8, .int .i64 x42.1), (9, .int .i64 x42.2), (10, .int .i64 (IntKind.wrap .i64 x51)), (11, .int .i64 (IntKind.wrap .i64 x59)), (26, .slice x18.a x18.n x18.c), (27, .int .i64 (x18.n : Int)), (28, .int .i64 s22), (58, .int .i64 (IntKind.wrap .i64 ((IntKind.wrap .i64 x51) * (IntKind.wrap .i64 x59)))), (59, .int .i64 s64)]) [] ∧ Sm w0 w ∧ (Bk w.heap b34 76 (c76 x30 x31 x32) ∧ True) ∧ Fix _ k s64 w.heap) k62 ⟨(0), _, ac_again ⟨rfl, rfl, rfl, rfl, rfl, rfl, rfl, rfl, rfl, rfl, rfl, rfl, rfl, rfl, rfl, trivial⟩, so, ⟨t_b34, trivial⟩, h⟩ ?_
      rintro k63 a66 w65 ⟨s64, f1, rfl, so, ⟨t_b34, _⟩, h⟩
      rcases k63 with _ | k63
      · exact h.elim
      replace h := Fix.un h; refine wc_in ?_
      refine wc_seq ?_
      refine wc_region ?_
      refine wl_val (at_lss rfl rfl) rfl ?_
      refine wl_nil ?_
      refine wk_prune [(0, yv0), (2, .pointer (some a2)), (3, .pointer (some a3)), (4, .pointer (some a4)), (6, .int .i64 s22), (7, .pointer (some (⟨b34, 0, none⟩ : Addr))), (8, .int .i64 x42.1), (9, .int .i64 x42.2), (10, .int .i64 (IntKind.wrap .i64 x51)), (11, .int .i64 (IntKind.wrap .i64 x59)), (26, .slice x18.a x18.n x18.c), (27, .int .i64 (x18.n : Int)), (28, .int .i64 s22), (58, .int .i64 (IntKind.wrap .i64 ((IntKind.wrap .i64 x51) * (IntKind.wrap .i64 x59)))), (59, .int .i64 s64), (60, .bool (decide (s64 < (IntKind.wrap .i64 ((IntKind.wrap .i64 x51) * (IntKind.wrap .i64 x59))))))] ⟨rfl, rfl, rfl, rfl, rfl, rfl, rfl, rfl, rfl, rfl, rfl, rfl, rfl, rfl, rfl, rfl, trivial⟩ (fun f1 => ?_)
      refine wk_then ?_
      refine wc_seq ?_
      refine wc_cond rfl h (fun h => ?_) (fun h => ?_)
      · refine wc_skip ?_
        refine wk_prune [(0, yv0), (2, .pointer (some a2)), (3, .pointer (some a3)), (4, .pointer (some a4)), (6, .int .i64 s22), (7, .pointer (some (⟨b34, 0, none⟩ : Addr))), (8, .int .i64 x42.1), (9, .int .i64 x42.2), (10, .int .i64 (IntKind.wrap .i64 x51)), (11, .int .i64 (IntKind.wrap .i64 x59)), (26, .slice x18.a x18.n x18.c), (27, .int .i64 (x18.n : Int)), (28, .int .i64 s22), (58, .int .i64 (IntKind.wrap .i64 ((IntKind.wrap .i64 x51) * (IntKind.wrap .i64 x59)))), (59, .int .i64 s64)] ⟨rfl, rfl, rfl, rfl, rfl, rfl, rfl, rfl, rfl, rfl, rfl, rfl, rfl, rfl, rfl, trivial⟩ (fun f1 => ?_)
        refine wk_then ?_
        refine wc_seq ?_
        refine wc_block ?_
        refine wc_seq ?_
        refine wc_region ?_
        refine wl_val (at_move rfl) rfl ?_
        refine wl_val (at_assign rfl) rfl ?_
        refine wl_nil ?_
        refine wk_prune [(0, yv0), (2, .pointer (some a2)), (3, .pointer (some a3)), (4, .pointer (some a4)), (6, .int .i64 s22), (7, .pointer (some (⟨b34, 0, none⟩ : Addr))), (8, .int .i64 x42.1), (9, .int .i64 x42.2), (10, .int .i64 (IntKind.wrap .i64 x51)), (11, .int .i64 (IntKind.wrap .i64 x59)), (12, .int .i64 s64), (26, .slice x18.a x18.n x18.c), (27, .int .i64 (x18.n : Int)), (28, .int .i64 s22), (58, .int .i64 (IntKind.wrap .i64 ((IntKind.wrap .i64 x51) * (IntKind.wrap .i64 x59)))), (59, .int .i64 s64)] ⟨rfl, rfl, rfl, rfl, rfl, rfl, rfl, rfl, rfl, rfl, rfl, rfl, rfl, rfl, rfl, rfl, trivial⟩ (fun f1 => ?_)
        refine wk_then ?_
        refine wc_seq ?_
        refine wc_wo [0, 0, 2, 0, 0, 24, 0, 0, 192, 504, 0, 0, 3072, 0, 0, 24576, 64512, 131071, 0, 524287] mixed (by kernel_rfl) so ?_; intro w68 hw so; rw [← hw] at h t_b34; clear hw
        refine wo_pure (m' := 1) 0 rfl (by kernel_rfl) rfl rfl (fun H => at_move rfl) ?_
        refine wo_pure (m' := 3) 1 rfl (by kernel_rfl) rfl rfl (fun H => at_fieldAddr Try.underlying76 rfl rfl sz3 (by decide) rfl) ?_
        refine wo_pure (m' := 19) 4 rfl (by kernel_rfl) rfl rfl (fun H => at_move rfl) ?_
        refine wo_pure (m' := 83) 6 rfl (by kernel_rfl) rfl rfl (fun H => at_move rfl) ?_
        refine wo_pure (m' := 211) 7 rfl (by kernel_rfl) rfl rfl (fun H => at_move rfl) ?_
        obtain ⟨q69, h⟩ := h
        refine wo_pure (m' := 467) 8 rfl (by kernel_rfl) rfl rfl (fun H => at_rem rfl rfl q69) ?_
        refine wo_pure (m' := 2515) 11 rfl (by kernel_rfl) rfl rfl (fun H => at_move rfl) ?_
        refine wo_pure (m' := 10707) 13 rfl (by kernel_rfl) rfl rfl (fun H => at_move rfl) ?_
        refine wo_pure (m' := 27091) 14 rfl (by kernel_rfl) rfl rfl (fun H => at_move rfl) ?_
        obtain ⟨q70, h⟩ := h
        refine wo_pure (m' := 59859) 15 rfl (by kernel_rfl) rfl rfl (fun H => at_quo rfl rfl q70) ?_
        have q71 : cellAt w68.heap (⟨b34, 0, none⟩ : Addr) = some (.int .i64 x30) := (t_b34.cell 0).trans (by first | rfl | simp [List.getElem?_append, ints_len, bools_len])
        refine wo_load (m' := 59863) 2 (fun H => cellAt H (⟨b34, 0, none⟩ : Addr) = some (.int .i64 x30)) rfl (by kernel_rfl) rfl rfl (fun H q71 => at_load (v := .int .i64 x30) Try.underlying3 rfl rfl (q71)) q71 ?_
        obtain ⟨x72, q73, h⟩ := h
        refine wo_load (m' := 59871) 3 (fun H => cellAt H a2 = some (.int .i64 x72)) rfl (by kernel_rfl) rfl rfl (fun H q73 => at_load Try.underlying3 rfl rfl q73) q73 ?_
        refine wo_pure (m' := 59903) 5 rfl (by kernel_rfl) rfl rfl (fun H => at_mul rfl rfl) ?_
        refine wo_pure (m' := 60415) 9 rfl (by kernel_rfl) rfl rfl (fun H => at_add rfl rfl) ?_
        obtain ⟨x74, q75, h⟩ := h
        refine wo_load (m' := 61439) 10 (fun H => cellAt H a3 = some (.int .i64 x74)) rfl (by kernel_rfl) rfl rfl (fun H q75 => at_load Try.underlying3 rfl rfl q75) q75 ?_
        refine wo_pure (m' := 65535) 12 rfl (by kernel_rfl) rfl rfl (fun H => at_mul rfl rfl) ?_
        refine wo_pure (m' := 131071) 16 rfl (by kernel_rfl) rfl rfl (fun H => at_add rfl rfl) ?_
        refine wo_pure (m' := 262143) 17 rfl (by kernel_rfl) rfl rfl (fun H => at_build (cs := (c92 s22 x30 (IntKind.wrap .i64 ((IntKind.wrap .i64 (x72 * (IntKind.wrap .i64 x51))) + (Int.tmod s64 (IntKind.wrap .i64 x51)))) (IntKind.wrap .i64 ((IntKind.wrap .i64 (x74 * (IntKind.wrap .i64 x59))) + (IntKind.wrap .i64 (Int.tdiv s64 (IntKind.wrap .i64 x51))))) false)) (ps := [(0, .int .i64 s22), (1, .int .i64 x30), (2, .int .i64 (IntKind.wrap .i64 ((IntKind.wrap .i64 (x72 * (IntKind.wrap .i64 x51))) + (Int.tmod s64 (IntKind.wrap .i64 x51))))), (3, .int .i64 (IntKind.wrap .i64 ((IntKind.wrap .i64 (x74 * (IntKind.wrap .i64 x59))) + (IntKind.wrap .i64 (Int.tdiv s64 (IntKind.wrap .i64 x51))))))]) rfl (fun w => by simp [Instr.build, Instr.fill, go_sem, Try.underlying92, z92] <;> rfl)) ?_
        refine wo_take (m' := 524287) 18 [false, false, false] rfl (by kernel_rfl) rfl (by kernel_rfl) ?_
        refine wl_newT (T := 92) (cs := (c92 0 0 0 0 false)) (ef_alloc zero92 rfl) rfl so ?_; intro b76 w77 hb_b76 t_b76 k_b76 so
        have g_b76 := Nat.le_of_eq hb_b76.symm
        have hc := k_b76.ch (F := [])
        have n_b34_b76 : b34 ≠ b76 := fun e => by have := t_b34.lt; omega
        replace t_b34 := t_b34.keep k_b76
        refine wl_nil ?_
        replace h := h b76 _ hc g_b76 t_b76.lt; clear hc
        obtain ⟨q78, q79, h⟩ := h
        refine wk_tq ⟨q78, q79, ((t_b34.cell 0).trans (by first | rfl | simp [List.getElem?_append, ints_len, bools_len])), trivial⟩ ?_
        refine wo_take (m' := 1048575) 19 [true, true, true] rfl (by kernel_rfl) rfl (by kernel_rfl) ?_
        refine wl_stWT (vs := (c92 s22 x30 (IntKind.wrap .i64 ((IntKind.wrap .i64 (x72 * (IntKind.wrap .i64 x51))) + (Int.tmod s64 (IntKind.wrap .i64 x51)))) (IntKind.wrap .i64 ((IntKind.wrap .i64 (x74 * (IntKind.wrap .i64 x59))) + (IntKind.wrap .i64 (Int.tdiv s64 (IntKind.wrap .i64 x51))))) false)) t_b76 (by first | (rw [len92, len92]) | (rw [len92]) | rfl) rfl so (fun q => ef_storeA (p := (⟨b76, 0, none⟩ : Addr)) (cs := (c92 s22 x30 (IntKind.wrap .i64 ((IntKind.wrap .i64 (x72 * (IntKind.wrap .i64 x51))) + (Int.tmod s64 (IntKind.wrap .i64 x51)))) (IntKind.wrap .i64 ((IntKind.wrap .i64 (x74 * (IntKind.wrap .i64 x59))) + (IntKind.wrap .i64 (Int.tdiv s64 (IntKind.wrap .i64 x51))))) false)) (by rw [len92]; exact sz92) rfl rfl (one92 _ _ _ _ _) q) ?_; intro w80 t_b76 s_w80 so
        replace t_b34 := t_b34.same s_w80 (n_b34_b76)
        have hc := s_w80.ch
        refine wl_nil ?_
        refine wk_tq trivial ?_
        refine wo_done (by kernel_rfl) ?_
        refine wk_prune [(0, yv0), (2, .pointer (some a2)), (3, .pointer (some a3)), (4, .pointer (some a4)), (6, .int .i64 s22), (7, .pointer (some (⟨b34, 0, none⟩ : Addr))), (8, .int .i64 x42.1), (9, .int .i64 x42.2), (10, .int .i64 (IntKind.wrap .i64 x51)), (11, .int .i64 (IntKind.wrap .i64 x59)), (13, .pointer (some (⟨b76, 0, none⟩ : Addr))), (26, .slice x18.a x18.n x18.c), (27, .int .i64 (x18.n : Int)), (28, .int .i64 s22), (58, .int .i64 (IntKind.wrap .i64 ((IntKind.wrap .i64 x51) * (IntKind.wrap .i64 x59)))), (59, .int .i64 s64)] ⟨rfl, rfl, rfl, rfl, rfl, rfl, rfl, rfl, rfl, rfl, rfl, rfl, rfl, rfl, rfl, rfl, trivial⟩ (fun f1 => ?_)
        refine wk_then ?_
        replace h := h _ hc; clear hc
        replace h := h t_b76
        refine wc_seq ?_
        refine wc_joinG (w0 := w0) (fun (H : Hp) => Bk H b34 76 (c76 x30 x31 x32) ∧ True) (fun (s82 : Unit) => [(0, yv0), (2, .pointer (some a2)), (3, .pointer (some a3)), (4, .pointer (some a4)), (6, .int .i64 s22), (7, .pointer (some (⟨b34, 0, none⟩ : Addr))), (8, .int .i64 x42.1), (9, .int .i64 x42.2), (10, .int .i64 (IntKind.wrap .i64 x51)), (11, .int .i64 (IntKind.wrap .i64 x59)), (13, .pointer (some (⟨b76, 0, none⟩ : Addr))), (26, .slice x18.a x18.n x18.c), (27, .int .i64 (x18.n : Int)), (28, .int .i64 s22), (58, .int .i64 (IntKind.wrap .i64 ((IntKind.wrap .i64 x51) * (IntKind.wrap .i64 x59)))), (59, .int .i64 s64)]) (fun (s82 : Unit) => []) h ?_ ?_
        · rintro s82 w83 f1 h ⟨t_b34, _⟩ so; refine wk_then ?_
          refine wc_seq ?_
          refine wc_region ?_
          refine wl_val (at_move rfl) rfl ?_
          obtain ⟨x84, x85, x86, x87, x88, q89, h⟩ := h
          refine wl_val (at_loadA (cs := (c92 x84 x85 x86 x87 x88)) Try.underlying92 rfl (by rw [len92]; exact sz92) rfl q89) rfl ?_
          refine wl_yield (a := (x84, x85, x86, x87, x88)) hY0 rfl rfl rfl h so ?_; intro b90 w91 h so
          obtain ⟨q92, h⟩ := h
          replace t_b34 := pv_bk q92 t_b34 (by simp)
          refine wl_val (at_not rfl) rfl ?_
          refine wl_nil ?_
          refine wk_prune [(0, yv0), (2, .pointer (some a2)), (3, .pointer (some a3)), (4, .pointer (some a4)), (6, .int .i64 s22), (7, .pointer (some (⟨b34, 0, none⟩ : Addr))), (8, .int .i64 x42.1), (9, .int .i64 x42.2), (10, .int .i64 (IntKind.wrap .i64 x51)), (11, .int .i64 (IntKind.wrap .i64 x59)), (26, .slice x18.a x18.n x18.c), (27, .int .i64 (x18.n : Int)), (28, .int .i64 s22), (58, .int .i64 (IntKind.wrap .i64 ((IntKind.wrap .i64 x51) * (IntKind.wrap .i64 x59)))), (59, .int .i64 s64), (94, .bool (!b90))] ⟨rfl, rfl, rfl, rfl, rfl, rfl, rfl, rfl, rfl, rfl, rfl, rfl, rfl, rfl, rfl, rfl, trivial⟩ (fun f1 => ?_)
          refine wk_then ?_
          refine wc_cond rfl h (fun h => ?_) (fun h => ?_)
          · refine wc_ret ?_
            refine wk_blkR ?_
            refine wk_thenR ?_
            refine wk_thenR ?_
            refine wk_blkR ?_
            refine wk_blkR ?_
            refine wk_thenR ?_
            refine wk_thenR ?_
            refine wk_blkR ?_
            exact wk_ret0 (x := ()) rfl rfl so h
          · refine wc_skip ?_
            refine wk_blkN ?_
            refine wk_prune [(0, yv0), (2, .pointer (some a2)), (3, .pointer (some a3)), (4, .pointer (some a4)), (6, .int .i64 s22), (7, .pointer (some (⟨b34, 0, none⟩ : Addr))), (8, .int .i64 x42.1), (9, .int .i64 x42.2), (10, .int .i64 (IntKind.wrap .i64 x51)), (11, .int .i64 (IntKind.wrap .i64 x59)), (26, .slice x18.a x18.n x18.c), (27, .int .i64 (x18.n : Int)), (28, .int .i64 s22), (58, .int .i64 (IntKind.wrap .i64 ((IntKind.wrap .i64 x51) * (IntKind.wrap .i64 x59)))), (59, .int .i64 s64)] ⟨rfl, rfl, rfl, rfl, rfl, rfl, rfl, rfl, rfl, rfl, rfl, rfl, rfl, rfl, rfl, trivial⟩ (fun f1 => ?_)
            refine wk_then ?_
            refine wc_region ?_
            refine wl_val (at_add rfl rfl) rfl ?_
            refine wl_val (at_move rfl) rfl ?_
            refine wl_nil ?_
            exact wk_again ⟨((IntKind.wrap .i64 (s64 + 1))), _, ac_again ⟨rfl, rfl, rfl, rfl, rfl, rfl, rfl, rfl, rfl, rfl, rfl, rfl, rfl, rfl, rfl, trivial⟩, so, ⟨t_b34, trivial⟩, h⟩
        · intro J81 h hJ81
          refine wc_region ?_
          refine wl_val (at_fieldAddr Try.underlying92 rfl rfl sz3 (by decide) rfl) rfl ?_
          obtain ⟨x93, q94, h⟩ := h
          refine wl_val (at_load Try.underlying3 rfl rfl q94) rfl ?_
          refine wl_val (at_move rfl) rfl ?_
          refine wl_val (at_lss rfl rfl) rfl ?_
          refine wl_val (at_move rfl) rfl ?_
          refine bif_ h (fun hb h => ?_) (fun hb h => ?_)
          · refine wl_set (t := 84) (v := .bool true) (congrArg Value.bool hb) ?_; clear hb
            refine wl_on (t := 84) rfl (by decide) rfl ?_
            refine wl_val (at_fieldAddr Try.underlying92 rfl rfl sz3 (by decide) rfl) rfl ?_
            refine wl_on (t := 84) rfl (by decide) rfl ?_
            obtain ⟨x95, q96, h⟩ := h
            refine wl_val (at_load Try.underlying3 rfl rfl q96) rfl ?_
            refine wl_on (t := 84) rfl (by decide) rfl ?_
            refine wl_val (at_move rfl) rfl ?_
            refine wl_on (t := 84) rfl (by decide) rfl ?_
            refine wl_val (at_lss rfl rfl) rfl ?_
            refine wl_val (at_pick_t rfl rfl) rfl ?_
            refine wl_val (at_fieldAddr Try.underlying92 rfl rfl sz4 (by decide) rfl) rfl ?_
            refine wl_st (v := .bool (decide (x95 < x42.2))) h rfl so (fun q1 q2 => ef_store (sz := sz4) rfl rfl rfl q1 q2) ?_; intro w97 h so
            obtain ⟨q98, h⟩ := h
            replace t_b34 := pv_bk q98 t_b34 (by simp)
            refine wl_nil ?_
            exact wk_prune [(0, yv0), (2, .pointer (some a2)), (3, .pointer (some a3)), (4, .pointer (some a4)), (6, .int .i64 s22), (7, .pointer (some (⟨b34, 0, none⟩ : Addr))), (8, .int .i64 x42.1), (9, .int .i64 x42.2), (10, .int .i64 (IntKind.wrap .i64 x51)), (11, .int .i64 (IntKind.wrap .i64 x59)), (13, .pointer (some (⟨b76, 0, none⟩ : Addr))), (26, .slice x18.a x18.n x18.c), (27, .int .i64 (x18.n : Int)), (28, .int .i64 s22), (58, .int .i64 (IntKind.wrap .i64 ((IntKind.wrap .i64 x51) * (IntKind.wrap .i64 x59)))), (59, .int .i64 s64)] ⟨rfl, rfl, rfl, rfl, rfl, rfl, rfl, rfl, rfl, rfl, rfl, rfl, rfl, rfl, rfl, rfl, trivial⟩ (fun f1 => hJ81 () _ f1 h ⟨t_b34, trivial⟩ so)
          · refine wl_set (t := 84) (v := .bool false) (congrArg Value.bool hb) ?_; clear hb
            refine wl_off (t := 84) rfl (by decide) rfl ?_
            refine wl_off (t := 84) rfl (by decide) rfl ?_
            refine wl_off (t := 84) rfl (by decide) rfl ?_
            refine wl_off (t := 84) rfl (by decide) rfl ?_
            refine wl_val (at_pick_f rfl rfl) rfl ?_
            refine wl_val (at_fieldAddr Try.underlying92 rfl rfl sz4 (by decide) rfl) rfl ?_
            refine wl_st (v := .bool false) h rfl so (fun q1 q2 => ef_store (sz := sz4) rfl rfl rfl q1 q2) ?_; intro w99 h so
            obtain ⟨q100, h⟩ := h
            replace t_b34 := pv_bk q100 t_b34 (by simp)
            refine wl_nil ?_
            exact wk_prune [(0, yv0), (2, .pointer (some a2)), (3, .pointer (some a3)), (4, .pointer (some a4)), (6, .int .i64 s22), (7, .pointer (some (⟨b34, 0, none⟩ : Addr))), (8, .int .i64 x42.1), (9, .int .i64 x42.2), (10, .int .i64 (IntKind.wrap .i64 x51)), (11, .int .i64 (IntKind.wrap .i64 x59)), (13, .pointer (some (⟨b76, 0, none⟩ : Addr))), (26, .slice x18.a x18.n x18.c), (27, .int .i64 (x18.n : Int)), (28, .int .i64 s22), (58, .int .i64 (IntKind.wrap .i64 ((IntKind.wrap .i64 x51) * (IntKind.wrap .i64 x59)))), (59, .int .i64 s64)] ⟨rfl, rfl, rfl, rfl, rfl, rfl, rfl, rfl, rfl, rfl, rfl, rfl, rfl, rfl, rfl, rfl, trivial⟩ (fun f1 => hJ81 () _ f1 h ⟨t_b34, trivial⟩ so)
      · refine wc_exit ?_
        refine wk_thenE ?_
        refine wk_thenE ?_
        refine wk_blkE ?_
        refine wk_blkN ?_
        refine wk_prune [(0, yv0), (2, .pointer (some a2)), (3, .pointer (some a3)), (4, .pointer (some a4)), (26, .slice x18.a x18.n x18.c), (27, .int .i64 (x18.n : Int)), (28, .int .i64 s22)] ⟨rfl, rfl, rfl, rfl, rfl, rfl, rfl, trivial⟩ (fun f1 => ?_)
        refine wk_then ?_
        refine wc_region ?_
        refine wl_val (at_add rfl rfl) rfl ?_
        refine wl_val (at_move rfl) rfl ?_
        refine wl_nil ?_
        exact wk_again ⟨((IntKind.wrap .i64 (s22 + 1))), _, ac_again ⟨rfl, rfl, rfl, rfl, rfl, rfl, rfl, trivial⟩, so, h⟩
    · refine wc_exit ?_
      refine wk_thenE ?_
      refine wk_thenE ?_
      refine wk_blkE ?_
      exact wk_ret0n (x := ()) rfl rfl so h
def geom_Walk_1.yenc : Int × Int × Int × Int × Bool → Array Value := fun x => #[.agg (c92 x.1 x.2.1 x.2.2.1 x.2.2.2.1 x.2.2.2.2).toArray]
def geom_Walk_1.enc : Unit → Value := fun _ => .tuple #[]
def geom_Walk_1.s (yv0 : Value) (Y0 : (Int × Int × Int × Int × Bool) → Hp → (Bool → Hp → Prop) → Prop) (a1 : Addr) (a2 : Addr) (a3 : Addr) (a4 : Addr) (a5 : Addr) (H0 : Hp) (Q : Unit → Hp → Prop) : Prop :=
  Gn [] H0 (fun (b1 : Nat) (H2 : Hp) => ldI .i64 H2 a1 (fun x3 => Bk H2 b1 126 [yv0] → (∃ k5, Fix (fun (rec10 : (Int × (List Nat)) → Hp → Prop) (s7 : Int × (List Nat)) (H8 : Hp) => ldI .i64 H8 a2 (fun x11 => if decide (s7.1 < x11) = true then (∃ x14 : Int, ∃ x15 : Int, ∃ x16 : Int, ∃ x17 : Sl, ldA H8 a3 (c24 x14 x15 x16 x17) ∧ (ldL H8 a4 (fun x19 => ldI .i64 H8 a5 (fun x21 => x21 ≠ 0 ∧ (ldI .i64 H8 a5 (fun x24 => x24 ≠ 0 ∧ (geom_spots.s x14 x15 x16 x17 x19 (Int.tmod s7.1 x21) (IntKind.wrap .i64 (Int.tdiv s7.1 x24)) H8 (fun x27 H28 => Rg H28 (fun r29 D37 H32 => geom_spots_1.s (fun (x33 : Int × Int × Int × Int × Bool) (H35 : Hp) (K34 : Bool → Hp → Prop) => Lp H35 (D37 + 1) r29 ∧ (Gn [] H35 (fun (b38 : Nat) (H40 : Hp) => Lp H40 (D37 + 1) r29 ∧ Up (putL H40 (D37 + 1) (bsy r29)) (fun H41 => Pv [b38] H40 H41 ∧ (ldF H41 (⟨b1, 0, none⟩ : Addr) (fun x43 => x43 = yv0 ∧ Y0 (x33.1, x33.2.1, x33.2.2.1, x33.2.2.2.1, x33.2.2.2.2) H41 (fun b45 H46 => if (!b45) = true then (Lp H46 (D37 + 1) (bsy r29) ∧ K34 false (putL H46 (D37 + 1) (dn r29 .ret))) else (Lp H46 (D37 + 1) (bsy r29) ∧ K34 true (putL H46 (D37 + 1) r29))))))))) x27.1 x27.2.1 x27.2.2.1 x27.2.2.2 H32 (fun _ H36 => (Lp H36 (D37 + 1) r29 ∧ Up (putL H36 (D37 + 1) (exh r29)) (fun H49 => rec10 ((IntKind.wrap .i64 (s7.1 + 1)), (D37 :: s7.2)) H49)) ∨ (Lp H36 (D37 + 1) (dn r29 .ret) ∧ Up (putL H36 (D37 + 1) (exh (dn r29 .ret))) (fun H50 => tkD (D37 :: s7.2) H50 (fun H51 => Q () H51))))))))))))) else (tkD s7.2 H8 (fun H52 => Q () H52)))) k5 (x3, []) H2)))
set_option maxRecDepth 20000 in
set_option maxHeartbeats 4000000 in
theorem geom_Walk_1.calls (yv0 : Value) (Y0 : (Int × Int × Int × Int × Bool) → Hp → (Bool → Hp → Prop) → Prop) (hY0 : YOk Try.prog geom_Walk_1.yenc yv0 Y0) (a1 : Addr) (a2 : Addr) (a3 : Addr) (a4 : Addr) (a5 : Addr) (w0 : World) (Q : Unit → Hp → Prop) (h : geom_Walk_1.s yv0 Y0 a1 a2 a3 a4 a5 w0.heap Q) :
    Ca Try.prog 42 #[yv0, .pointer (some a1), .pointer (some a2), .pointer (some a3), .pointer (some a4), .pointer (some a5)] w0 (Rt geom_Walk_1.enc Q w0) := by
  refine ca_startM (c := _) Try.func42 rfl Try.ntmps42 rfl ?_
  have so : Sm w0 w0 := Sm.refl w0
  unfold geom_Walk_1.s at h
  refine wc_prune [(0, yv0), (1, .pointer (some a1)), (2, .pointer (some a2)), (3, .pointer (some a3)), (4, .pointer (some a4)), (5, .pointer (some a5))] ⟨rfl, rfl, rfl, rfl, rfl, rfl, trivial⟩ (fun f1 => ?_)
  refine wc_seq ?_
  refine wc_region ?_
  refine wl_newT (T := 126) (cs := [yv0]) (ef_box rfl (YOk.cells hY0)) rfl so ?_; intro b1 w2 hb_b1 t_b1 k_b1 so
  have g_b1 := Nat.le_of_eq hb_b1.symm
  have hc := k_b1.ch (F := [])
  refine wl_nil ?_
  refine wk_prune [(1, .pointer (some a1)), (2, .pointer (some a2)), (3, .pointer (some a3)), (4, .pointer (some a4)), (5, .pointer (some a5)), (6, .pointer (some (⟨b1, 0, none⟩ : Addr)))] ⟨rfl, rfl, rfl, rfl, rfl, rfl, trivial⟩ (fun f1 => ?_)
  refine wk_then ?_
  refine wc_seq ?_
  refine wc_region ?_
  replace h := h b1 _ hc g_b1 t_b1.lt; clear hc
  obtain ⟨x3, q4, h⟩ := h
  refine wl_val (at_load Try.underlying3 rfl rfl q4) rfl ?_
  refine wl_val (at_assign rfl) rfl ?_
  refine wl_nil ?_
  refine wk_prune [(2, .pointer (some a2)), (3, .pointer (some a3)), (4, .pointer (some a4)), (5, .pointer (some a5)), (6, .pointer (some (⟨b1, 0, none⟩ : Addr))), (7, .int .i64 x3)] ⟨rfl, rfl, rfl, rfl, rfl, rfl, trivial⟩ (fun f1 => ?_)
  refine wk_then ?_
  refine wc_block ?_
  replace h := h t_b1
  obtain ⟨k5, h⟩ := h
  refine wc_loop (fun k a w => ∃ (s7 : Int × (List Nat)) (f1 : Nat → Value), a = ac 29 (en f1 [(2, .pointer (some a2)), (3, .pointer (some a3)), (4, .pointer (some a4)), (5, .pointer (some a5)), (6, .pointer (some (⟨b1, 0, none⟩ : Addr))), (7, .int .i64 s7.1)]) (mks s7.2) ∧ Sm w0 w ∧ Fix _ k s7 w.heap) k5 ⟨(x3, []), _, ac_again ⟨rfl, rfl, rfl, rfl, rfl, rfl, trivial⟩, so, h⟩ ?_
  rintro k6 a9 w8 ⟨s7, f1, rfl, so, h⟩
  rcases k6 with _ | k6
  · exact h.elim
  replace h := Fix.un h; refine wc_in ?_
  refine wc_seq ?_
  refine wc_seq ?_
  refine wc_region ?_
  refine wl_val (at_move rfl) rfl ?_
  obtain ⟨x11, q12, h⟩ := h
  refine wl_val (at_load Try.underlying3 rfl rfl q12) rfl ?_
  refine wl_val (at_lss rfl rfl) rfl ?_
  refine wl_nil ?_
  refine wk_prune [(2, .pointer (some a2)), (3, .pointer (some a3)), (4, .pointer (some a4)), (5, .pointer (some a5)), (6, .pointer (some (⟨b1, 0, none⟩ : Addr))), (7, .int .i64 s7.1), (12, .bool (decide (s7.1 < x11)))] ⟨rfl, rfl, rfl, rfl, rfl, rfl, rfl, trivial⟩ (fun f1 => ?_)
  refine wk_then ?_
  refine wc_cond rfl h (fun h => ?_) (fun h => ?_)
  · refine wc_skip ?_
    refine wk_prune [(2, .pointer (some a2)), (3, .pointer (some a3)), (4, .pointer (some a4)), (5, .pointer (some a5)), (6, .pointer (some (⟨b1, 0, none⟩ : Addr))), (7, .int .i64 s7.1)] ⟨rfl, rfl, rfl, rfl, rfl, rfl, trivial⟩ (fun f1 => ?_)
    refine wk_then ?_
    refine wc_seq ?_
    refine wc_block ?_
    refine wc_seq ?_
    refine wc_wo [0, 0, 0, 0, 12, 0, 0, 96, 255] mixed (by kernel_rfl) so ?_; intro w13 hw so; rw [← hw] at h; clear hw
    refine wo_pure (m' := 4) 2 rfl (by kernel_rfl) rfl rfl (fun H => at_move rfl) ?_
    refine wo_pure (m' := 36) 5 rfl (by kernel_rfl) rfl rfl (fun H => at_move rfl) ?_
    obtain ⟨x14, x15, x16, x17, q18, h⟩ := h
    refine wo_load (m' := 37) 0 (fun H => ldA H a3 (c24 x14 x15 x16 x17)) rfl (by kernel_rfl) rfl rfl (fun H q18 => at_loadA (cs := (c24 x14 x15 x16 x17)) Try.underlying24 rfl (by rw [len24]; exact sz24) rfl q18) q18 ?_
    obtain ⟨x19, q20, h⟩ := h
    refine wo_load (m' := 39) 1 (fun H => cellAt H a4 = some (.slice x19.a x19.n x19.c)) rfl (by kernel_rfl) rfl rfl (fun H q20 => at_load Try.underlying25 rfl rfl q20) q20 ?_
    obtain ⟨x21, q22, h⟩ := h
    refine wo_load (m' := 47) 3 (fun H => cellAt H a5 = some (.int .i64 x21)) rfl (by kernel_rfl) rfl rfl (fun H q22 => at_load Try.underlying3 rfl rfl q22) q22 ?_
    obtain ⟨q23, h⟩ := h
    refine wo_pure (m' := 63) 4 rfl (by kernel_rfl) rfl rfl (fun H => at_rem rfl rfl q23) ?_
    obtain ⟨x24, q25, h⟩ := h
    refine wo_load (m' := 127) 6 (fun H => cellAt H a5 = some (.int .i64 x24)) rfl (by kernel_rfl) rfl rfl (fun H q25 => at_load Try.underlying3 rfl rfl q25) q25 ?_
    obtain ⟨q26, h⟩ := h
    refine wo_pure (m' := 255) 7 rfl (by kernel_rfl) rfl rfl (fun H => at_quo rfl rfl q26) ?_
    refine wo_take (m' := 511) 8 [true, true, true, true] rfl (by kernel_rfl) rfl (by kernel_rfl) ?_
    refine wl_callF (geom_spots.calls _ _ _ _ _ _ _ _ _ h) enter43 rfl trivial so ?_; intro x27 w28 h so
    refine wl_nil ?_
    refine wk_tq trivial ?_
    refine wo_done (by kernel_rfl) ?_
    refine wk_prune [(2, .pointer (some a2)), (3, .pointer (some a3)), (4, .pointer (some a4)), (5, .pointer (some a5)), (6, .pointer (some (⟨b1, 0, none⟩ : Addr))), (7, .int .i64 s7.1), (23, .func (.func 66) #[] #[.pointer (some x27.1), .pointer (some x27.2.1), .pointer (some x27.2.2.1), .pointer (some x27.2.2.2)])] ⟨rfl, rfl, rfl, rfl, rfl, rfl, rfl, trivial⟩ (fun f1 => ?_)
    refine wk_then ?_
    refine wc_block ?_
    refine wc_prune [(2, .pointer (some a2)), (3, .pointer (some a3)), (4, .pointer (some a4)), (5, .pointer (some a5)), (6, .pointer (some (⟨b1, 0, none⟩ : Addr))), (7, .int .i64 s7.1), (23, .func (.func 66) #[] #[.pointer (some x27.1), .pointer (some x27.2.1), .pointer (some x27.2.2.1), .pointer (some x27.2.2.2)])] ⟨rfl, rfl, rfl, rfl, rfl, rfl, rfl, trivial⟩ (fun f1 => ?_)
    refine wc_rng (caps := [.pointer (some x27.1), .pointer (some x27.2.1), .pointer (some x27.2.2.1), .pointer (some x27.2.2.2)]) rfl enter66 so h ?_; intro r29 D37 w32 q30 q31 h so
    refine Ca.mono (geom_spots_1.calls _ _ (yok (ps := [24]) q31 (fun _ => rfl) fun x33 w35 K34 h => ?_) _ _ _ _ w32 _ h) ?_
    · refine ⟨h.1, ?_⟩; replace h := h.2; have so := Sm.refl w35; refine wc_prune [(6, .pointer (some (⟨b1, 0, none⟩ : Addr))), (24, .agg (c92 x33.1 x33.2.1 x33.2.2.1 x33.2.2.2.1 x33.2.2.2.2).toArray)] ⟨rfl, rfl, trivial⟩ (fun f1 => ?_)
      refine wc_region ?_
      refine wl_newT (T := 92) (cs := (c92 0 0 0 0 false)) (ef_alloc zero92 rfl) rfl so ?_; intro b38 w39 hb_b38 t_b38 k_b38 so
      have g_b38 := Nat.le_of_eq hb_b38.symm
      have hc := k_b38.ch (F := [])
      refine wl_stWT (vs := (c92 x33.1 x33.2.1 x33.2.2.1 x33.2.2.2.1 x33.2.2.2.2)) t_b38 (by first | (rw [len92, len92]) | (rw [len92]) | rfl) rfl so (fun q => ef_storeA (p := (⟨b38, 0, none⟩ : Addr)) (cs := (c92 x33.1 x33.2.1 x33.2.2.1 x33.2.2.2.1 x33.2.2.2.2)) (by rw [len92]; exact sz92) rfl rfl (one92 _ _ _ _ _) q) ?_; intro w40 t_b38 s_w40 so
      replace hc := ch_same hc s_w40 (.inr g_b38)
      refine wl_nil ?_
      replace h := h b38 _ hc g_b38 t_b38.lt; clear hc
      refine wk_prune [(6, .pointer (some (⟨b1, 0, none⟩ : Addr))), (8, .pointer (some (⟨b38, 0, none⟩ : Addr)))] ⟨rfl, rfl, trivial⟩ (fun f1 => ?_)
      refine wk_asg q30 h so ?_; intro w41 h so
      obtain ⟨q42, h⟩ := h
      replace t_b38 := pv_bk q42 t_b38 (by simp)
      refine wc_block ?_
      refine wc_seq ?_
      refine wc_region ?_
      obtain ⟨x43, q44, h⟩ := h
      refine wl_val (at_load Try.underlying126 rfl rfl q44) rfl ?_
      refine wl_val (at_loadA (cs := (c92 x33.1 x33.2.1 x33.2.2.1 x33.2.2.2.1 x33.2.2.2.2)) Try.underlying92 rfl (by rw [len92]; exact sz92) rfl (ldA_full t_b38)) rfl ?_
      obtain ⟨q47, h⟩ := h; refine wl_yield (a := (x33.1, x33.2.1, x33.2.2.1, x33.2.2.2.1, x33.2.2.2.2)) hY0 q47 rfl rfl h so ?_; intro b45 w46 h so
      refine wl_val (at_not rfl) rfl ?_
      refine wl_nil ?_
      refine wk_prune [(28, .bool (!b45))] ⟨rfl, trivial⟩ (fun f1 => ?_)
      refine wk_then ?_
      refine wc_cond rfl h (fun h => ?_) (fun h => ?_)
      · refine wc_ret ?_
        refine wk_blkR ?_
        exact wk_rdR h so
      · refine wc_skip ?_
        refine wk_blkN ?_
        exact wk_rdN q30 h so
    · rintro _ w36 ⟨_, rfl, h, q48⟩; replace so := so.trans q48
      rcases h with h | h
      · refine rp_none q30 h so ?_; intro w49 h so
        refine wk_blkN ?_
        refine wk_blkN ?_
        refine wk_prune [(2, .pointer (some a2)), (3, .pointer (some a3)), (4, .pointer (some a4)), (5, .pointer (some a5)), (6, .pointer (some (⟨b1, 0, none⟩ : Addr))), (7, .int .i64 s7.1)] ⟨rfl, rfl, rfl, rfl, rfl, rfl, trivial⟩ (fun f1 => ?_)
        refine wk_then ?_
        refine wc_region ?_
        refine wl_val (at_move rfl) rfl ?_
        refine wl_val (at_add rfl rfl) rfl ?_
        refine wl_val (at_assign rfl) rfl ?_
        refine wl_nil ?_
        exact wk_again ⟨((IntKind.wrap .i64 (s7.1 + 1)), (D37 :: s7.2)), _, ac_again ⟨rfl, rfl, rfl, rfl, rfl, rfl, trivial⟩, so, h⟩
      · refine rp_jump h so ?_; intro w50 h so; refine wc_ret ?_
        refine wk_blkR ?_
        refine wk_blkR ?_
        refine wk_thenR ?_
        refine wk_thenR ?_
        refine wk_blkR ?_
        refine wk_tk h so ?_; intro w51 h so
        exact wk_ret0 (x := ()) rfl rfl so h
  · refine wc_exit ?_
    refine wk_thenE ?_
    refine wk_thenE ?_
    refine wk_blkE ?_
    refine wk_tkN h so ?_; intro w52 h so
    exact wk_ret0n (x := ()) rfl rfl so h
end Go.Proofs.Ytmnoecpnoofdjaa.G
