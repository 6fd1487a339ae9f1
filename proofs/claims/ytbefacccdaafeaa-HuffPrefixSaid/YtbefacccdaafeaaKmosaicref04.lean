import Derived.Test.YtbefacccdaafeaaGF
import Derived.Test.YtbefacccdaafeaaKmosaicref01
namespace Go.Proofs.Ytbefacccdaafeaa.G
open Go.RowKit
set_option linter.unusedVariables false
set_option linter.unusedSimpArgs false
/-- mosaic/mosaicref04.power -/
def mosaicref04_power.enc : Int → Value := fun r => .int .i64 r
def mosaicref04_power.s (a0 : Int) (H0 : Hp) (Q : Int → Hp → Prop) : Prop :=
  ∃ k1, Fix (fun (rec6 : (Int × Int) → Hp → Prop) (s3 : Int × Int) (H4 : Hp) => if decide (s3.2 < a0) = true then (rec6 ((IntKind.wrap .i64 ((2 : Int) * s3.1)), (IntKind.wrap .i64 (s3.2 + 1))) H4) else (Q s3.1 H4)) k1 (1, 0) H0
set_option maxRecDepth 20000 in
set_option maxHeartbeats 4000000 in
theorem mosaicref04_power.calls (a0 : Int) (w0 : World) (Q : Int → Hp → Prop) (h : mosaicref04_power.s a0 w0.heap Q) :
    Ca Try.prog 64 #[.int .i64 a0] w0 (Rt mosaicref04_power.enc Q w0) := by
  refine ca_start (c := _) Try.func64 rfl Try.ntmps64 rfl ?_
  have so : Sm w0 w0 := Sm.refl w0
  unfold mosaicref04_power.s at h
  refine wc_prune [(0, .int .i64 a0)] ⟨rfl, trivial⟩ (fun f1 => ?_)
  refine wc_seq ?_
  refine wc_region ?_
  refine wl_val (at_assign rfl) rfl ?_
  refine wl_nil ?_
  refine wk_prune [(0, .int .i64 a0)] ⟨rfl, trivial⟩ (fun f1 => ?_)
  refine wk_then ?_
  refine wc_seq ?_
  refine wc_region ?_
  refine wl_val (at_assign rfl) rfl ?_
  refine wl_nil ?_
  refine wk_prune [(0, .int .i64 a0), (3, .int .i64 1)] ⟨rfl, rfl, trivial⟩ (fun f1 => ?_)
  refine wk_then ?_
  refine wc_seq ?_
  refine wc_seq ?_
  refine wc_region ?_
  refine wl_val (at_assign rfl) rfl ?_
  refine wl_nil ?_
  refine wk_prune [(0, .int .i64 a0), (3, .int .i64 1), (4, .int .i64 0)] ⟨rfl, rfl, rfl, trivial⟩ (fun f1 => ?_)
  refine wk_then ?_
  refine wc_block ?_
  obtain ⟨k1, h⟩ := h
  refine wc_loop (fun k a w => ∃ (s3 : Int × Int) (f1 : Nat → Value), a = ac 13 (en f1 [(0, .int .i64 a0), (3, .int .i64 s3.1), (4, .int .i64 s3.2)]) [] ∧ Sm w0 w ∧ Fix _ k s3 w.heap) k1 ⟨(1, 0), _, ac_again ⟨rfl, rfl, rfl, trivial⟩, so, h⟩ ?_
  rintro k2 a5 w4 ⟨s3, f1, rfl, so, h⟩
  rcases k2 with _ | k2
  · exact h.elim
  replace h := Fix.un h; refine wc_in ?_
  refine wc_seq ?_
  refine wc_seq ?_
  refine wc_region ?_
  refine wl_val (at_move rfl) rfl ?_
  refine wl_val (at_move rfl) rfl ?_
  refine wl_val (at_lss rfl rfl) rfl ?_
  refine wl_nil ?_
  refine wk_prune [(0, .int .i64 a0), (3, .int .i64 s3.1), (4, .int .i64 s3.2), (7, .bool (decide (s3.2 < a0)))] ⟨rfl, rfl, rfl, rfl, trivial⟩ (fun f1 => ?_)
  refine wk_then ?_
  refine wc_cond rfl h (fun h => ?_) (fun h => ?_)
  · refine wc_skip ?_
    refine wk_prune [(0, .int .i64 a0), (3, .int .i64 s3.1), (4, .int .i64 s3.2)] ⟨rfl, rfl, rfl, trivial⟩ (fun f1 => ?_)
    refine wk_then ?_
    refine wc_seq ?_
    refine wc_block ?_
    refine wc_region ?_
    refine wl_val (at_move rfl) rfl ?_
    refine wl_val (at_mul rfl rfl) rfl ?_
    refine wl_val (at_assign rfl) rfl ?_
    refine wl_nil ?_
    refine wk_blkN ?_
    refine wk_prune [(0, .int .i64 a0), (3, .int .i64 (IntKind.wrap .i64 ((2 : Int) * s3.1))), (4, .int .i64 s3.2)] ⟨rfl, rfl, rfl, trivial⟩ (fun f1 => ?_)
    refine wk_then ?_
    refine wc_region ?_
    refine wl_val (at_move rfl) rfl ?_
    refine wl_val (at_add rfl rfl) rfl ?_
    refine wl_val (at_assign rfl) rfl ?_
    refine wl_nil ?_
    exact wk_again ⟨((IntKind.wrap .i64 ((2 : Int) * s3.1)), (IntKind.wrap .i64 (s3.2 + 1))), _, ac_again ⟨rfl, rfl, rfl, trivial⟩, so, h⟩
  · refine wc_exit ?_
    refine wk_thenE ?_
    refine wk_thenE ?_
    refine wk_blkE ?_
    refine wk_prune [(3, .int .i64 s3.1)] ⟨rfl, trivial⟩ (fun f1 => ?_)
    refine wk_then ?_
    refine wc_seq ?_
    refine wc_region ?_
    refine wl_val (at_move rfl) rfl ?_
    refine wl_val (at_assign rfl) rfl ?_
    refine wl_nil ?_
    refine wk_prune [(2, .int .i64 s3.1)] ⟨rfl, trivial⟩ (fun f1 => ?_)
    refine wk_then ?_
    refine wc_ret ?_
    exact wk_ret1 (x := s3.1) rfl (by decide) rfl so h

/-- mosaic/mosaicref04.Weight -/
def mosaicref04_Weight.enc : Int × Int → Value := fun r => .tuple #[.int .i64 r.1, .int .i64 r.2]
def mosaicref04_Weight.s (a0_0 : Ints 16) (a0_1 : Sl) (H0 : Hp) (Q : (Int × Int) → Hp → Prop) : Prop :=
  Gn [] H0 (fun (b1 : Nat) (H2 : Hp) => Bk H2 b1 25 (c25 a0_0 a0_1) → (∃ k3, Fix (fun (rec8 : (Int × Int × Int) → Hp → Prop) (s5 : Int × Int × Int) (H6 : Hp) => if decide (s5.2.2 ≤ 16) = true then (0 ≤ (IntKind.wrap .i64 (s5.2.2 - 1)) ∧ (IntKind.wrap .i64 (s5.2.2 - 1)) < (16 : Int) ∧ (ldI .u8 H6 ((⟨b1, 0, none⟩ : Addr).add (Int.toNat (IntKind.wrap .i64 (s5.2.2 - 1)) * 1)) (fun x12 => mosaicref04_power.s (IntKind.wrap .i64 ((16 : Int) - s5.2.2)) H6 (fun x14 H15 => cellAt H15 ((⟨b1, 0, none⟩ : Addr).add (Int.toNat (IntKind.wrap .i64 (s5.2.2 - 1)) * 1)) = some (.int .u8 x12) ∧ (0 ≤ (IntKind.wrap .i64 (s5.2.2 - 1)) ∧ (IntKind.wrap .i64 (s5.2.2 - 1)) < (16 : Int) ∧ (ldI .u8 H15 ((⟨b1, 0, none⟩ : Addr).add (Int.toNat (IntKind.wrap .i64 (s5.2.2 - 1)) * 1)) (fun x19 => Lt ((IntKind.wrap .i64 (s5.2.1 + (IntKind.wrap .i64 x19))) : Int) (fun x21 => rec8 ((IntKind.wrap .i64 (s5.1 + (IntKind.wrap .i64 ((IntKind.wrap .i64 x12) * x14)))), x21, (IntKind.wrap .i64 (s5.2.2 + 1))) H15)))))))) else (Q (s5.1, s5.2.1) H6)) k3 (0, 0, 1) H2))
set_option maxRecDepth 20000 in
set_option maxHeartbeats 4000000 in
theorem mosaicref04_Weight.calls (a0_0 : Ints 16) (a0_1 : Sl) (w0 : World) (Q : (Int × Int) → Hp → Prop) (h : mosaicref04_Weight.s a0_0 a0_1 w0.heap Q) :
    Ca Try.prog 46 #[.agg (c25 a0_0 a0_1).toArray] w0 (Rt mosaicref04_Weight.enc Q w0) := by
  refine ca_start (c := _) Try.func46 rfl Try.ntmps46 rfl ?_
  have so : Sm w0 w0 := Sm.refl w0
  unfold mosaicref04_Weight.s at h
  refine wc_prune [(0, .agg (c25 a0_0 a0_1).toArray)] ⟨rfl, trivial⟩ (fun f1 => ?_)
  refine wc_seq ?_
  refine wc_region ?_
  refine wl_newT (T := 25) (cs := (c25 a0_0 a0_1)) (ef_box rfl rfl) rfl so ?_; intro b1 w2 hb_b1 t_b1 k_b1 so
  have g_b1 := Nat.le_of_eq hb_b1.symm
  have hc := k_b1.ch (F := [])
  refine wl_val (at_assign rfl) rfl ?_
  refine wl_val (at_assign rfl) rfl ?_
  refine wl_nil ?_
  refine wk_prune [(1, .pointer (some (⟨b1, 0, none⟩ : Addr)))] ⟨rfl, trivial⟩ (fun f1 => ?_)
  refine wk_then ?_
  refine wc_seq ?_
  refine wc_region ?_
  refine wl_val (at_assign rfl) rfl ?_
  refine wl_nil ?_
  refine wk_prune [(1, .pointer (some (⟨b1, 0, none⟩ : Addr))), (4, .int .i64 0)] ⟨rfl, rfl, trivial⟩ (fun f1 => ?_)
  refine wk_then ?_
  refine wc_seq ?_
  refine wc_region ?_
  refine wl_val (at_assign rfl) rfl ?_
  refine wl_nil ?_
  refine wk_prune [(1, .pointer (some (⟨b1, 0, none⟩ : Addr))), (4, .int .i64 0), (5, .int .i64 0)] ⟨rfl, rfl, rfl, trivial⟩ (fun f1 => ?_)
  refine wk_then ?_
  refine wc_seq ?_
  refine wc_seq ?_
  refine wc_region ?_
  refine wl_val (at_assign rfl) rfl ?_
  refine wl_nil ?_
  refine wk_prune [(1, .pointer (some (⟨b1, 0, none⟩ : Addr))), (4, .int .i64 0), (5, .int .i64 0), (6, .int .i64 1)] ⟨rfl, rfl, rfl, rfl, trivial⟩ (fun f1 => ?_)
  refine wk_then ?_
  refine wc_block ?_
  replace h := h b1 _ hc g_b1 t_b1.lt; clear hc
  replace h := h t_b1
  obtain ⟨k3, h⟩ := h
  refine wc_loop (fun k a w => ∃ (s5 : Int × Int × Int) (f1 : Nat → Value), a = ac 33 (en f1 [(1, .pointer (some (⟨b1, 0, none⟩ : Addr))), (4, .int .i64 s5.1), (5, .int .i64 s5.2.1), (6, .int .i64 s5.2.2)]) [] ∧ Sm w0 w ∧ Fix _ k s5 w.heap) k3 ⟨(0, 0, 1), _, ac_again ⟨rfl, rfl, rfl, rfl, trivial⟩, so, h⟩ ?_
  rintro k4 a7 w6 ⟨s5, f1, rfl, so, h⟩
  rcases k4 with _ | k4
  · exact h.elim
  replace h := Fix.un h; refine wc_in ?_
  refine wc_seq ?_
  refine wc_seq ?_
  refine wc_region ?_
  refine wl_val (at_move rfl) rfl ?_
  refine wl_val (at_leq rfl rfl) rfl ?_
  refine wl_nil ?_
  refine wk_prune [(1, .pointer (some (⟨b1, 0, none⟩ : Addr))), (4, .int .i64 s5.1), (5, .int .i64 s5.2.1), (6, .int .i64 s5.2.2), (8, .bool (decide (s5.2.2 ≤ 16)))] ⟨rfl, rfl, rfl, rfl, rfl, trivial⟩ (fun f1 => ?_)
  refine wk_then ?_
  refine wc_cond rfl h (fun h => ?_) (fun h => ?_)
  · refine wc_skip ?_
    refine wk_prune [(1, .pointer (some (⟨b1, 0, none⟩ : Addr))), (4, .int .i64 s5.1), (5, .int .i64 s5.2.1), (6, .int .i64 s5.2.2)] ⟨rfl, rfl, rfl, rfl, trivial⟩ (fun f1 => ?_)
    refine wk_then ?_
    refine wc_seq ?_
    refine wc_block ?_
    refine wc_seq ?_
    refine wc_wo [0, 0, 2, 0, 14, 30, 62, 0, 128, 384, 1022, 2047, 4095] mixed (by kernel_rfl) so ?_; intro w9 hw so; rw [← hw] at h; clear hw
    refine wo_pure (m' := 1) 0 rfl (by kernel_rfl) rfl rfl (fun H => at_move rfl) ?_
    refine wo_pure (m' := 3) 1 rfl (by kernel_rfl) rfl rfl (fun H => at_move rfl) ?_
    refine wo_pure (m' := 7) 2 rfl (by kernel_rfl) rfl rfl (fun H => at_sub rfl rfl) ?_
    refine wo_pure (m' := 15) 3 rfl (by kernel_rfl) rfl rfl (fun H => at_fieldAddr Try.underlying25 rfl rfl sz22 (by decide) rfl) ?_
    obtain ⟨q10, q11, h⟩ := h
    refine wo_pure (m' := 31) 4 rfl (by kernel_rfl) rfl rfl (fun H => at_ixAddrA Try.underlying22 sz5 rfl rfl q10 q11) ?_
    refine wo_pure (m' := 159) 7 rfl (by kernel_rfl) rfl rfl (fun H => at_move rfl) ?_
    refine wo_pure (m' := 415) 8 rfl (by kernel_rfl) rfl rfl (fun H => at_sub rfl rfl) ?_
    obtain ⟨x12, q13, h⟩ := h
    refine wo_load (m' := 447) 5 (fun H => cellAt H ((⟨b1, 0, none⟩ : Addr).add (Int.toNat (IntKind.wrap .i64 (s5.2.2 - 1)) * 1)) = some (.int .u8 x12)) rfl (by kernel_rfl) rfl rfl (fun H q13 => at_load Try.underlying5 rfl rfl q13) q13 ?_
    refine wo_pure (m' := 511) 6 rfl (by kernel_rfl) rfl rfl (fun H => at_conv Try.underlying5 Try.underlying3 rfl) ?_
    refine wo_take (m' := 1023) 9 [false] rfl (by kernel_rfl) rfl (by kernel_rfl) ?_
    refine wl_callF (mosaicref04_power.calls _ _ _ h) enter64 rfl trivial so ?_; intro x14 w15 h so
    refine wl_nil ?_
    obtain ⟨q16, h⟩ := h
    refine wk_tq ⟨q16, trivial⟩ ?_
    refine wo_pure (m' := 2047) 10 rfl (by kernel_rfl) rfl rfl (fun H => at_mul rfl rfl) ?_
    refine wo_pure (m' := 4095) 11 rfl (by kernel_rfl) rfl rfl (fun H => at_add rfl rfl) ?_
    refine wo_pure (m' := 8191) 12 rfl (by kernel_rfl) rfl rfl (fun H => at_assign rfl) ?_
    refine wo_done (by kernel_rfl) ?_
    refine wk_prune [(1, .pointer (some (⟨b1, 0, none⟩ : Addr))), (4, .int .i64 (IntKind.wrap .i64 (s5.1 + (IntKind.wrap .i64 ((IntKind.wrap .i64 x12) * x14))))), (5, .int .i64 s5.2.1), (6, .int .i64 s5.2.2)] ⟨rfl, rfl, rfl, rfl, trivial⟩ (fun f1 => ?_)
    refine wk_then ?_
    refine wc_region ?_
    refine wl_val (at_move rfl) rfl ?_
    refine wl_val (at_move rfl) rfl ?_
    refine wl_val (at_sub rfl rfl) rfl ?_
    refine wl_val (at_fieldAddr Try.underlying25 rfl rfl sz22 (by decide) rfl) rfl ?_
    obtain ⟨q17, q18, h⟩ := h
    refine wl_val (at_ixAddrA Try.underlying22 sz5 rfl rfl q17 q18) rfl ?_
    obtain ⟨x19, q20, h⟩ := h
    refine wl_val (at_load Try.underlying5 rfl rfl q20) rfl ?_
    refine wl_val (at_conv Try.underlying5 Try.underlying3 rfl) rfl ?_
    refine wl_val (at_add rfl rfl) rfl ?_
    refine wl_val (at_assign rfl) rfl ?_
    obtain ⟨x21, e22⟩ : ∃ x : Int, x = (IntKind.wrap .i64 (s5.2.1 + (IntKind.wrap .i64 x19))) := ⟨_, rfl⟩; replace h := h x21 e22
    refine wl_set (t := 5) (v := .int .i64 x21) (congrArg (Value.int .i64) e22.symm) ?_
    refine wl_nil ?_
    refine wk_blkN ?_
    refine wk_prune [(1, .pointer (some (⟨b1, 0, none⟩ : Addr))), (4, .int .i64 (IntKind.wrap .i64 (s5.1 + (IntKind.wrap .i64 ((IntKind.wrap .i64 x12) * x14))))), (5, .int .i64 x21), (6, .int .i64 s5.2.2)] ⟨rfl, rfl, rfl, rfl, trivial⟩ (fun f1 => ?_)
    refine wk_then ?_
    refine wc_region ?_
    refine wl_val (at_move rfl) rfl ?_
    refine wl_val (at_add rfl rfl) rfl ?_
    refine wl_val (at_assign rfl) rfl ?_
    refine wl_nil ?_
    exact wk_again ⟨((IntKind.wrap .i64 (s5.1 + (IntKind.wrap .i64 ((IntKind.wrap .i64 x12) * x14)))), x21, (IntKind.wrap .i64 (s5.2.2 + 1))), _, ac_again ⟨rfl, rfl, rfl, rfl, trivial⟩, so, h⟩
  · refine wc_exit ?_
    refine wk_thenE ?_
    refine wk_thenE ?_
    refine wk_blkE ?_
    refine wk_prune [(4, .int .i64 s5.1), (5, .int .i64 s5.2.1)] ⟨rfl, rfl, trivial⟩ (fun f1 => ?_)
    refine wk_then ?_
    refine wc_seq ?_
    refine wc_region ?_
    refine wl_val (at_move rfl) rfl ?_
    refine wl_val (at_move rfl) rfl ?_
    refine wl_val (at_assign rfl) rfl ?_
    refine wl_val (at_assign rfl) rfl ?_
    refine wl_nil ?_
    refine wk_prune [(2, .int .i64 s5.1), (3, .int .i64 s5.2.1)] ⟨rfl, rfl, trivial⟩ (fun f1 => ?_)
    refine wk_then ?_
    refine wc_ret ?_
    exact wk_ret2 (x := (s5.1, s5.2.1)) rfl (by decide) (by decide) rfl so h

/-- mosaic/mosaicref04.Check -/
def mosaicref04_Check.enc : Int → Value := fun r => .int .i64 r
def mosaicref04_Check.s (a0_0 : Ints 16) (a0_1 : Sl) (H0 : Hp) (Q : Int → Hp → Prop) : Prop :=
  Gn [] H0 (fun (b1 : Nat) (H2 : Hp) => mosaicref04_Weight.s a0_0 a0_1 H2 (fun x3 H4 => Pv [b1] H2 H4 ∧ (Join (fun (s7 : Bool) (H8 : Hp) => if s7 = true then (Q 40 H8) else (if decide ((65535 : Int) < x3.1) = true then (Q 41 H8) else (∃ k9, Fix (fun (rec14 : Int → Hp → Prop) (s11 : Int) (H12 : Hp) => if decide (s11 < x3.2) = true then (∃ k15, Fix (fun (rec20 : Int → Hp → Prop) (s17 : Int) (H18 : Hp) => if decide (s17 < s11) = true then (0 ≤ s17 ∧ s17 < (a0_1.n : Int) ∧ someA a0_1.a (fun p23 => ldI .u8 H18 (p23.add (Int.toNat s17 * 1)) (fun x25 => 0 ≤ s11 ∧ s11 < (a0_1.n : Int) ∧ (ldI .u8 H18 (p23.add (Int.toNat s11 * 1)) (fun x29 => if (x25 == x29) = true then (Q 42 H18) else (rec20 ((IntKind.wrap .i64 (s17 + 1))) H18)))))) else (rec14 ((IntKind.wrap .i64 (s11 + 1))) H18)) k15 (0) H12) else (Q 0 H12)) k9 (0) H8))) (fun (J6 : Bool → Hp → Prop) => if (x3.2 == 0) = true then (J6 (true) H4) else (if decide ((256 : Int) < x3.2) = true then (J6 (true) H4) else (J6 ((x3.2 != (a0_1.n : Int))) H4))))))
set_option maxRecDepth 20000 in
set_option maxHeartbeats 4000000 in
theorem mosaicref04_Check.calls (a0_0 : Ints 16) (a0_1 : Sl) (w0 : World) (Q : Int → Hp → Prop) (h : mosaicref04_Check.s a0_0 a0_1 w0.heap Q) :
    Ca Try.prog 12 #[.agg (c25 a0_0 a0_1).toArray] w0 (Rt mosaicref04_Check.enc Q w0) := by
  refine ca_start (c := _) Try.func12 rfl Try.ntmps12 rfl ?_
  have so : Sm w0 w0 := Sm.refl w0
  unfold mosaicref04_Check.s at h
  refine wc_prune [(0, .agg (c25 a0_0 a0_1).toArray)] ⟨rfl, trivial⟩ (fun f1 => ?_)
  refine wc_seq ?_
  refine wc_region ?_
  refine wl_newT (T := 25) (cs := (c25 a0_0 a0_1)) (ef_box rfl rfl) rfl so ?_; intro b1 w2 hb_b1 t_b1 k_b1 so
  have g_b1 := Nat.le_of_eq hb_b1.symm
  have hc := k_b1.ch (F := [])
  refine wl_val (at_assign rfl) rfl ?_
  refine wl_nil ?_
  refine wk_prune [(1, .pointer (some (⟨b1, 0, none⟩ : Addr)))] ⟨rfl, trivial⟩ (fun f1 => ?_)
  refine wk_then ?_
  refine wc_seq ?_
  refine wc_region ?_
  refine wl_val (at_loadA (cs := (c25 a0_0 a0_1)) Try.underlying25 rfl (by rw [len25]; exact sz25) rfl (ldA_full t_b1)) rfl ?_
  replace h := h b1 _ hc g_b1 t_b1.lt; clear hc
  refine wl_callF (mosaicref04_Weight.calls _ _ _ _ h) enter46 rfl trivial so ?_; intro x3 w4 h so
  obtain ⟨q5, h⟩ := h
  replace t_b1 := pv_bk q5 t_b1 (by simp)
  refine wl_val (at_move rfl) rfl ?_
  refine wl_val (at_extract rfl rfl) rfl ?_
  refine wl_val (at_extract rfl rfl) rfl ?_
  refine wl_val (at_assign rfl) rfl ?_
  refine wl_val (at_assign rfl) rfl ?_
  refine wl_nil ?_
  refine wk_prune [(1, .pointer (some (⟨b1, 0, none⟩ : Addr))), (3, .int .i64 x3.1), (4, .int .i64 x3.2)] ⟨rfl, rfl, rfl, trivial⟩ (fun f1 => ?_)
  refine wk_then ?_
  refine wc_seq ?_
  refine wc_seq ?_
  refine wc_joinG (w0 := w0) (fun (H : Hp) => Bk H b1 25 (c25 a0_0 a0_1) ∧ True) (fun (s7 : Bool) => [(1, .pointer (some (⟨b1, 0, none⟩ : Addr))), (3, .int .i64 x3.1), (4, .int .i64 x3.2), (24, .bool s7)]) (fun (s7 : Bool) => []) h ?_ ?_
  · rintro s7 w8 f1 h ⟨t_b1, _⟩ so; refine wk_then ?_
    refine wc_cond rfl h (fun h => ?_) (fun h => ?_)
    · refine wc_seq ?_
      refine wc_region ?_
      refine wl_val (at_assign rfl) rfl ?_
      refine wl_nil ?_
      refine wk_prune [(2, .int .i64 40)] ⟨rfl, trivial⟩ (fun f1 => ?_)
      refine wk_then ?_
      refine wc_ret ?_
      refine wk_thenR ?_
      exact wk_ret1 (x := 40) rfl (by decide) rfl so h
    · refine wc_skip ?_
      refine wk_prune [(1, .pointer (some (⟨b1, 0, none⟩ : Addr))), (3, .int .i64 x3.1), (4, .int .i64 x3.2)] ⟨rfl, rfl, rfl, trivial⟩ (fun f1 => ?_)
      refine wk_then ?_
      refine wc_seq ?_
      refine wc_seq ?_
      refine wc_region ?_
      refine wl_val (at_move rfl) rfl ?_
      refine wl_val (at_gtr rfl rfl) rfl ?_
      refine wl_nil ?_
      refine wk_prune [(1, .pointer (some (⟨b1, 0, none⟩ : Addr))), (4, .int .i64 x3.2), (26, .bool (decide ((65535 : Int) < x3.1)))] ⟨rfl, rfl, rfl, trivial⟩ (fun f1 => ?_)
      refine wk_then ?_
      refine wc_cond rfl h (fun h => ?_) (fun h => ?_)
      · refine wc_seq ?_
        refine wc_region ?_
        refine wl_val (at_assign rfl) rfl ?_
        refine wl_nil ?_
        refine wk_prune [(2, .int .i64 41)] ⟨rfl, trivial⟩ (fun f1 => ?_)
        refine wk_then ?_
        refine wc_ret ?_
        refine wk_thenR ?_
        exact wk_ret1 (x := 41) rfl (by decide) rfl so h
      · refine wc_skip ?_
        refine wk_prune [(1, .pointer (some (⟨b1, 0, none⟩ : Addr))), (4, .int .i64 x3.2)] ⟨rfl, rfl, trivial⟩ (fun f1 => ?_)
        refine wk_then ?_
        refine wc_seq ?_
        refine wc_seq ?_
        refine wc_region ?_
        refine wl_val (at_assign rfl) rfl ?_
        refine wl_nil ?_
        refine wk_prune [(1, .pointer (some (⟨b1, 0, none⟩ : Addr))), (4, .int .i64 x3.2), (5, .int .i64 0)] ⟨rfl, rfl, rfl, trivial⟩ (fun f1 => ?_)
        refine wk_then ?_
        refine wc_block ?_
        obtain ⟨k9, h⟩ := h
        refine wc_loop (fun k a w => ∃ (s11 : Int) (f1 : Nat → Value), a = ac 48 (en f1 [(1, .pointer (some (⟨b1, 0, none⟩ : Addr))), (4, .int .i64 x3.2), (5, .int .i64 s11)]) [] ∧ Sm w0 w ∧ (Bk w.heap b1 25 (c25 a0_0 a0_1) ∧ True) ∧ Fix _ k s11 w.heap) k9 ⟨(0), _, ac_again ⟨rfl, rfl, rfl, trivial⟩, so, ⟨t_b1, trivial⟩, h⟩ ?_
        rintro k10 a13 w12 ⟨s11, f1, rfl, so, ⟨t_b1, _⟩, h⟩
        rcases k10 with _ | k10
        · exact h.elim
        replace h := Fix.un h; refine wc_in ?_
        refine wc_seq ?_
        refine wc_seq ?_
        refine wc_region ?_
        refine wl_val (at_move rfl) rfl ?_
        refine wl_val (at_move rfl) rfl ?_
        refine wl_val (at_lss rfl rfl) rfl ?_
        refine wl_nil ?_
        refine wk_prune [(1, .pointer (some (⟨b1, 0, none⟩ : Addr))), (4, .int .i64 x3.2), (5, .int .i64 s11), (29, .bool (decide (s11 < x3.2)))] ⟨rfl, rfl, rfl, rfl, trivial⟩ (fun f1 => ?_)
        refine wk_then ?_
        refine wc_cond rfl h (fun h => ?_) (fun h => ?_)
        · refine wc_skip ?_
          refine wk_prune [(1, .pointer (some (⟨b1, 0, none⟩ : Addr))), (4, .int .i64 x3.2), (5, .int .i64 s11)] ⟨rfl, rfl, rfl, trivial⟩ (fun f1 => ?_)
          refine wk_then ?_
          refine wc_seq ?_
          refine wc_block ?_
          refine wc_seq ?_
          refine wc_region ?_
          refine wl_val (at_assign rfl) rfl ?_
          refine wl_nil ?_
          refine wk_prune [(1, .pointer (some (⟨b1, 0, none⟩ : Addr))), (4, .int .i64 x3.2), (5, .int .i64 s11), (6, .int .i64 0)] ⟨rfl, rfl, rfl, rfl, trivial⟩ (fun f1 => ?_)
          refine wk_then ?_
          refine wc_block ?_
          obtain ⟨k15, h⟩ := h
          refine wc_loop (fun k a w => ∃ (s17 : Int) (f1 : Nat → Value), a = ac 48 (en f1 [(1, .pointer (some (⟨b1, 0, none⟩ : Addr))), (4, .int .i64 x3.2), (5, .int .i64 s11), (6, .int .i64 s17)]) [] ∧ Sm w0 w ∧ (Bk w.heap b1 25 (c25 a0_0 a0_1) ∧ True) ∧ Fix _ k s17 w.heap) k15 ⟨(0), _, ac_again ⟨rfl, rfl, rfl, rfl, trivial⟩, so, ⟨t_b1, trivial⟩, h⟩ ?_
          rintro k16 a19 w18 ⟨s17, f1, rfl, so, ⟨t_b1, _⟩, h⟩
          rcases k16 with _ | k16
          · exact h.elim
          replace h := Fix.un h; refine wc_in ?_
          refine wc_seq ?_
          refine wc_seq ?_
          refine wc_region ?_
          refine wl_val (at_move rfl) rfl ?_
          refine wl_val (at_move rfl) rfl ?_
          refine wl_val (at_lss rfl rfl) rfl ?_
          refine wl_nil ?_
          refine wk_prune [(1, .pointer (some (⟨b1, 0, none⟩ : Addr))), (4, .int .i64 x3.2), (5, .int .i64 s11), (6, .int .i64 s17), (34, .bool (decide (s17 < s11)))] ⟨rfl, rfl, rfl, rfl, rfl, trivial⟩ (fun f1 => ?_)
          refine wk_then ?_
          refine wc_cond rfl h (fun h => ?_) (fun h => ?_)
          · refine wc_skip ?_
            refine wk_prune [(1, .pointer (some (⟨b1, 0, none⟩ : Addr))), (4, .int .i64 x3.2), (5, .int .i64 s11), (6, .int .i64 s17)] ⟨rfl, rfl, rfl, rfl, trivial⟩ (fun f1 => ?_)
            refine wk_then ?_
            refine wc_seq ?_
            refine wc_block ?_
            refine wc_seq ?_
            refine wc_draw mixed (by kernel_rfl) so ?_
            refine wq_val (at_fieldAddr Try.underlying25 rfl rfl sz23 (by decide) rfl) rfl ?_
            refine wq_val (at_load (v := .slice a0_1.a a0_1.n a0_1.c) Try.underlying23 rfl rfl ((t_b1.cell 16).trans (by first | rfl | simp [List.getElem?_append, ints_len, bools_len]))) rfl ?_
            refine wq_val (at_move rfl) rfl ?_
            obtain ⟨q21, q22, p23, q24, h⟩ := h
            refine wq_val (at_ixAddrL Try.underlying23 sz5 (sl_some q24) rfl q21 q22) rfl ?_
            obtain ⟨x25, q26, h⟩ := h
            refine wq_val (at_load Try.underlying5 rfl rfl q26) rfl ?_
            refine wq_val (at_fieldAddr Try.underlying25 rfl rfl sz23 (by decide) rfl) rfl ?_
            refine wq_val (at_load (v := .slice a0_1.a a0_1.n a0_1.c) Try.underlying23 rfl rfl ((t_b1.cell 16).trans (by first | rfl | simp [List.getElem?_append, ints_len, bools_len]))) rfl ?_
            refine wq_val (at_move rfl) rfl ?_
            obtain ⟨q27, q28, h⟩ := h
            refine wq_val (at_ixAddrL Try.underlying23 sz5 (sl_some q24) rfl q27 q28) rfl ?_
            obtain ⟨x29, q30, h⟩ := h
            refine wq_val (at_load Try.underlying5 rfl rfl q30) rfl ?_
            refine wq_val (at_eql rfl rfl) rfl ?_
            refine wq_nil ?_; intro w31 hw so; rw [← hw] at h t_b1; clear hw
            refine wk_prune [(1, .pointer (some (⟨b1, 0, none⟩ : Addr))), (4, .int .i64 x3.2), (5, .int .i64 s11), (6, .int .i64 s17), (47, .bool (x25 == x29))] ⟨rfl, rfl, rfl, rfl, rfl, trivial⟩ (fun f1 => ?_)
            refine wk_then ?_
            refine wc_cond rfl h (fun h => ?_) (fun h => ?_)
            · refine wc_seq ?_
              refine wc_region ?_
              refine wl_val (at_assign rfl) rfl ?_
              refine wl_nil ?_
              refine wk_prune [(2, .int .i64 42)] ⟨rfl, trivial⟩ (fun f1 => ?_)
              refine wk_then ?_
              refine wc_ret ?_
              refine wk_blkR ?_
              refine wk_thenR ?_
              refine wk_thenR ?_
              refine wk_blkR ?_
              refine wk_blkR ?_
              refine wk_thenR ?_
              refine wk_thenR ?_
              refine wk_blkR ?_
              refine wk_thenR ?_
              exact wk_ret1 (x := 42) rfl (by decide) rfl so h
            · refine wc_skip ?_
              refine wk_blkN ?_
              refine wk_prune [(1, .pointer (some (⟨b1, 0, none⟩ : Addr))), (4, .int .i64 x3.2), (5, .int .i64 s11), (6, .int .i64 s17)] ⟨rfl, rfl, rfl, rfl, trivial⟩ (fun f1 => ?_)
              refine wk_then ?_
              refine wc_region ?_
              refine wl_val (at_move rfl) rfl ?_
              refine wl_val (at_add rfl rfl) rfl ?_
              refine wl_val (at_assign rfl) rfl ?_
              refine wl_nil ?_
              exact wk_again ⟨((IntKind.wrap .i64 (s17 + 1))), _, ac_again ⟨rfl, rfl, rfl, rfl, trivial⟩, so, ⟨t_b1, trivial⟩, h⟩
          · refine wc_exit ?_
            refine wk_thenE ?_
            refine wk_thenE ?_
            refine wk_blkE ?_
            refine wk_blkN ?_
            refine wk_prune [(1, .pointer (some (⟨b1, 0, none⟩ : Addr))), (4, .int .i64 x3.2), (5, .int .i64 s11)] ⟨rfl, rfl, rfl, trivial⟩ (fun f1 => ?_)
            refine wk_then ?_
            refine wc_region ?_
            refine wl_val (at_move rfl) rfl ?_
            refine wl_val (at_add rfl rfl) rfl ?_
            refine wl_val (at_assign rfl) rfl ?_
            refine wl_nil ?_
            exact wk_again ⟨((IntKind.wrap .i64 (s11 + 1))), _, ac_again ⟨rfl, rfl, rfl, trivial⟩, so, ⟨t_b1, trivial⟩, h⟩
        · refine wc_exit ?_
          refine wk_thenE ?_
          refine wk_thenE ?_
          refine wk_blkE ?_
          refine wk_prune [] trivial (fun f1 => ?_)
          refine wk_then ?_
          refine wc_seq ?_
          refine wc_region ?_
          refine wl_val (at_assign rfl) rfl ?_
          refine wl_nil ?_
          refine wk_prune [(2, .int .i64 0)] ⟨rfl, trivial⟩ (fun f1 => ?_)
          refine wk_then ?_
          refine wc_ret ?_
          exact wk_ret1 (x := 0) rfl (by decide) rfl so h
  · intro J6 h hJ6
    refine wc_region ?_
    refine wl_val (at_move rfl) rfl ?_
    refine wl_val (at_eql rfl rfl) rfl ?_
    refine wl_val (at_move rfl) rfl ?_
    refine bif_ h (fun hb h => ?_) (fun hb h => ?_)
    · refine wl_set (t := 14) (v := .bool true) (congrArg Value.bool hb) ?_; clear hb
      refine wl_off (t := 14) rfl (by decide) rfl ?_
      refine wl_off (t := 14) rfl (by decide) rfl ?_
      refine wl_val (at_pick_t rfl rfl) rfl ?_
      refine wl_val (at_move rfl) rfl ?_
      refine wl_off (t := 18) rfl (by decide) rfl ?_
      refine wl_off (t := 18) rfl (by decide) rfl ?_
      refine wl_off (t := 18) rfl (by decide) rfl ?_
      refine wl_off (t := 18) rfl (by decide) rfl ?_
      refine wl_off (t := 18) rfl (by decide) rfl ?_
      refine wl_val (at_pick_t rfl rfl) rfl ?_
      refine wl_nil ?_
      exact wk_prune [(1, .pointer (some (⟨b1, 0, none⟩ : Addr))), (3, .int .i64 x3.1), (4, .int .i64 x3.2), (24, .bool true)] ⟨rfl, rfl, rfl, rfl, trivial⟩ (fun f1 => hJ6 (true) _ f1 h ⟨t_b1, trivial⟩ so)
    · refine wl_set (t := 14) (v := .bool false) (congrArg Value.bool hb) ?_; clear hb
      refine wl_on (t := 14) rfl (by decide) rfl ?_
      refine wl_val (at_move rfl) rfl ?_
      refine wl_on (t := 14) rfl (by decide) rfl ?_
      refine wl_val (at_gtr rfl rfl) rfl ?_
      refine wl_val (at_pick_f rfl rfl) rfl ?_
      refine wl_val (at_move rfl) rfl ?_
      refine bif_ h (fun hb h => ?_) (fun hb h => ?_)
      · refine wl_set (t := 18) (v := .bool true) (congrArg Value.bool hb) ?_; clear hb
        refine wl_off (t := 18) rfl (by decide) rfl ?_
        refine wl_off (t := 18) rfl (by decide) rfl ?_
        refine wl_off (t := 18) rfl (by decide) rfl ?_
        refine wl_off (t := 18) rfl (by decide) rfl ?_
        refine wl_off (t := 18) rfl (by decide) rfl ?_
        refine wl_val (at_pick_t rfl rfl) rfl ?_
        refine wl_nil ?_
        exact wk_prune [(1, .pointer (some (⟨b1, 0, none⟩ : Addr))), (3, .int .i64 x3.1), (4, .int .i64 x3.2), (24, .bool true)] ⟨rfl, rfl, rfl, rfl, trivial⟩ (fun f1 => hJ6 (true) _ f1 h ⟨t_b1, trivial⟩ so)
      · refine wl_set (t := 18) (v := .bool false) (congrArg Value.bool hb) ?_; clear hb
        refine wl_on (t := 18) rfl (by decide) rfl ?_
        refine wl_val (at_move rfl) rfl ?_
        refine wl_on (t := 18) rfl (by decide) rfl ?_
        refine wl_val (at_fieldAddr Try.underlying25 rfl rfl sz23 (by decide) rfl) rfl ?_
        refine wl_on (t := 18) rfl (by decide) rfl ?_
        refine wl_val (at_load (v := .slice a0_1.a a0_1.n a0_1.c) Try.underlying23 rfl rfl ((t_b1.cell 16).trans (by first | rfl | simp [List.getElem?_append, ints_len, bools_len]))) rfl ?_
        refine wl_on (t := 18) rfl (by decide) rfl ?_
        refine wl_val (at_lenL Try.underlying23 rfl) rfl ?_
        refine wl_on (t := 18) rfl (by decide) rfl ?_
        refine wl_val (at_neq rfl rfl) rfl ?_
        refine wl_val (at_pick_f rfl rfl) rfl ?_
        refine wl_nil ?_
        exact wk_prune [(1, .pointer (some (⟨b1, 0, none⟩ : Addr))), (3, .int .i64 x3.1), (4, .int .i64 x3.2), (24, .bool (x3.2 != (a0_1.n : Int)))] ⟨rfl, rfl, rfl, rfl, trivial⟩ (fun f1 => hJ6 ((x3.2 != (a0_1.n : Int))) _ f1 h ⟨t_b1, trivial⟩ so)

/-- mosaic/mosaicref04.Room -/
def mosaicref04_Room.enc : Int → Value := fun r => .int .i64 r
def mosaicref04_Room.s (a0_0 : Ints 16) (a0_1 : Sl) (H0 : Hp) (Q : Int → Hp → Prop) : Prop :=
  Gn [] H0 (fun (b1 : Nat) (H2 : Hp) => mosaicref04_Check.s a0_0 a0_1 H2 (fun x3 H4 => Pv [b1] H2 H4 ∧ (if (x3 != 0) = true then (Q 0 H4) else (mosaicref04_Weight.s a0_0 a0_1 H4 (fun x6 H7 => Q (IntKind.wrap .i64 ((65536 : Int) - x6.1)) H7)))))
set_option maxRecDepth 20000 in
set_option maxHeartbeats 4000000 in
theorem mosaicref04_Room.calls (a0_0 : Ints 16) (a0_1 : Sl) (w0 : World) (Q : Int → Hp → Prop) (h : mosaicref04_Room.s a0_0 a0_1 w0.heap Q) :
    Ca Try.prog 15 #[.agg (c25 a0_0 a0_1).toArray] w0 (Rt mosaicref04_Room.enc Q w0) := by
  refine ca_start (c := _) Try.func15 rfl Try.ntmps15 rfl ?_
  have so : Sm w0 w0 := Sm.refl w0
  unfold mosaicref04_Room.s at h
  refine wc_prune [(0, .agg (c25 a0_0 a0_1).toArray)] ⟨rfl, trivial⟩ (fun f1 => ?_)
  refine wc_seq ?_
  refine wc_region ?_
  refine wl_newT (T := 25) (cs := (c25 a0_0 a0_1)) (ef_box rfl rfl) rfl so ?_; intro b1 w2 hb_b1 t_b1 k_b1 so
  have g_b1 := Nat.le_of_eq hb_b1.symm
  have hc := k_b1.ch (F := [])
  refine wl_val (at_assign rfl) rfl ?_
  refine wl_nil ?_
  refine wk_prune [(1, .pointer (some (⟨b1, 0, none⟩ : Addr)))] ⟨rfl, trivial⟩ (fun f1 => ?_)
  refine wk_then ?_
  refine wc_seq ?_
  refine wc_seq ?_
  refine wc_region ?_
  refine wl_val (at_loadA (cs := (c25 a0_0 a0_1)) Try.underlying25 rfl (by rw [len25]; exact sz25) rfl (ldA_full t_b1)) rfl ?_
  replace h := h b1 _ hc g_b1 t_b1.lt; clear hc
  refine wl_callF (mosaicref04_Check.calls _ _ _ _ h) enter12 rfl trivial so ?_; intro x3 w4 h so
  obtain ⟨q5, h⟩ := h
  replace t_b1 := pv_bk q5 t_b1 (by simp)
  refine wl_val (at_neq rfl rfl) rfl ?_
  refine wl_nil ?_
  refine wk_prune [(1, .pointer (some (⟨b1, 0, none⟩ : Addr))), (7, .bool (x3 != 0))] ⟨rfl, rfl, trivial⟩ (fun f1 => ?_)
  refine wk_then ?_
  refine wc_cond rfl h (fun h => ?_) (fun h => ?_)
  · refine wc_seq ?_
    refine wc_region ?_
    refine wl_val (at_assign rfl) rfl ?_
    refine wl_nil ?_
    refine wk_prune [(2, .int .i64 0)] ⟨rfl, trivial⟩ (fun f1 => ?_)
    refine wk_then ?_
    refine wc_ret ?_
    refine wk_thenR ?_
    exact wk_ret1 (x := 0) rfl (by decide) rfl so h
  · refine wc_skip ?_
    refine wk_prune [(1, .pointer (some (⟨b1, 0, none⟩ : Addr)))] ⟨rfl, trivial⟩ (fun f1 => ?_)
    refine wk_then ?_
    refine wc_seq ?_
    refine wc_region ?_
    refine wl_val (at_loadA (cs := (c25 a0_0 a0_1)) Try.underlying25 rfl (by rw [len25]; exact sz25) rfl (ldA_full t_b1)) rfl ?_
    refine wl_callF (mosaicref04_Weight.calls _ _ _ _ h) enter46 rfl trivial so ?_; intro x6 w7 h so
    refine wl_val (at_move rfl) rfl ?_
    refine wl_val (at_extract rfl rfl) rfl ?_
    refine wl_val (at_extract rfl rfl) rfl ?_
    refine wl_val (at_assign rfl) rfl ?_
    refine wl_val (at_assign rfl) rfl ?_
    refine wl_nil ?_
    refine wk_prune [(3, .int .i64 x6.1)] ⟨rfl, trivial⟩ (fun f1 => ?_)
    refine wk_then ?_
    refine wc_seq ?_
    refine wc_region ?_
    refine wl_val (at_move rfl) rfl ?_
    refine wl_val (at_sub rfl rfl) rfl ?_
    refine wl_val (at_assign rfl) rfl ?_
    refine wl_nil ?_
    refine wk_prune [(2, .int .i64 (IntKind.wrap .i64 ((65536 : Int) - x6.1)))] ⟨rfl, trivial⟩ (fun f1 => ?_)
    refine wk_then ?_
    refine wc_ret ?_
    exact wk_ret1 (x := (IntKind.wrap .i64 ((65536 : Int) - x6.1))) rfl (by decide) rfl so h

/-- mosaic/mosaicref04.More -/
def mosaicref04_More.enc : ByteArray → Value := fun r => .string r
def mosaicref04_More.s (a0 : ByteArray) (H0 : Hp) (Q : ByteArray → Hp → Prop) : Prop :=
  ∃ k1, Fix (fun (rec6 : Int → Hp → Prop) (s3 : Int) (H4 : Hp) => if decide ((0 : Int) ≤ s3) = true then (0 ≤ s3 ∧ s3 < (a0.size : Int) ∧ (if ((bt a0 s3) == 48) = true then (0 ≤ s3 ∧ s3 ≤ (a0.size : Int) ∧ ((a0.extract 0 (Int.toNat s3)).size + (⟨#[49]⟩ : ByteArray).size ≤ 9223372036854775807 ∧ (Lt (((a0.extract 0 (Int.toNat s3)) ++ (⟨#[49]⟩ : ByteArray)) : ByteArray) (fun x12 => ∃ k14, Fix (fun (rec19 : ByteArray → Hp → Prop) (s16 : ByteArray) (H17 : Hp) => if decide ((s16.size : Int) < (a0.size : Int)) = true then (s16.size + (⟨#[48]⟩ : ByteArray).size ≤ 9223372036854775807 ∧ (rec19 ((s16 ++ (⟨#[48]⟩ : ByteArray))) H17)) else (Q s16 H17)) k14 (x12) H4)))) else (rec6 ((IntKind.wrap .i64 (s3 - 1))) H4))) else (Q a0 H4)) k1 ((IntKind.wrap .i64 ((a0.size : Int) - 1))) H0
set_option maxRecDepth 20000 in
set_option maxHeartbeats 4000000 in
theorem mosaicref04_More.calls (a0 : ByteArray) (w0 : World) (Q : ByteArray → Hp → Prop) (h : mosaicref04_More.s a0 w0.heap Q) :
    Ca Try.prog 49 #[.string a0] w0 (Rt mosaicref04_More.enc Q w0) := by
  refine ca_start (c := _) Try.func49 rfl Try.ntmps49 rfl ?_
  have so : Sm w0 w0 := Sm.refl w0
  unfold mosaicref04_More.s at h
  refine wc_prune [(0, .string a0)] ⟨rfl, trivial⟩ (fun f1 => ?_)
  refine wc_seq ?_
  refine wc_region ?_
  refine wl_val (at_assign rfl) rfl ?_
  refine wl_nil ?_
  refine wk_prune [(0, .string a0)] ⟨rfl, trivial⟩ (fun f1 => ?_)
  refine wk_then ?_
  refine wc_seq ?_
  refine wc_seq ?_
  refine wc_region ?_
  refine wl_val (at_move rfl) rfl ?_
  refine wl_val (at_lenS Try.underlying9 rfl) rfl ?_
  refine wl_val (at_sub rfl rfl) rfl ?_
  refine wl_val (at_assign rfl) rfl ?_
  refine wl_nil ?_
  refine wk_prune [(0, .string a0), (3, .int .i64 (IntKind.wrap .i64 ((a0.size : Int) - 1)))] ⟨rfl, rfl, trivial⟩ (fun f1 => ?_)
  refine wk_then ?_
  refine wc_block ?_
  obtain ⟨k1, h⟩ := h
  refine wc_loop (fun k a w => ∃ (s3 : Int) (f1 : Nat → Value), a = ac 29 (en f1 [(0, .string a0), (3, .int .i64 s3)]) [] ∧ Sm w0 w ∧ Fix _ k s3 w.heap) k1 ⟨((IntKind.wrap .i64 ((a0.size : Int) - 1))), _, ac_again ⟨rfl, rfl, trivial⟩, so, h⟩ ?_
  rintro k2 a5 w4 ⟨s3, f1, rfl, so, h⟩
  rcases k2 with _ | k2
  · exact h.elim
  replace h := Fix.un h; refine wc_in ?_
  refine wc_seq ?_
  refine wc_seq ?_
  refine wc_region ?_
  refine wl_val (at_move rfl) rfl ?_
  refine wl_val (at_geq rfl rfl) rfl ?_
  refine wl_nil ?_
  refine wk_prune [(0, .string a0), (3, .int .i64 s3), (9, .bool (decide ((0 : Int) ≤ s3)))] ⟨rfl, rfl, rfl, trivial⟩ (fun f1 => ?_)
  refine wk_then ?_
  refine wc_cond rfl h (fun h => ?_) (fun h => ?_)
  · refine wc_skip ?_
    refine wk_prune [(0, .string a0), (3, .int .i64 s3)] ⟨rfl, rfl, trivial⟩ (fun f1 => ?_)
    refine wk_then ?_
    refine wc_seq ?_
    refine wc_block ?_
    refine wc_seq ?_
    refine wc_region ?_
    refine wl_val (at_move rfl) rfl ?_
    refine wl_val (at_move rfl) rfl ?_
    obtain ⟨q7, q8, h⟩ := h
    refine wl_val (at_ixS Try.underlying9 rfl rfl q7 q8) rfl ?_
    refine wl_val (at_eql rfl rfl) rfl ?_
    refine wl_nil ?_
    refine wk_prune [(0, .string a0), (3, .int .i64 s3), (15, .bool ((bt a0 s3) == 48))] ⟨rfl, rfl, rfl, trivial⟩ (fun f1 => ?_)
    refine wk_then ?_
    refine wc_cond rfl h (fun h => ?_) (fun h => ?_)
    · refine wc_seq ?_
      refine wc_region ?_
      refine wl_val (at_move rfl) rfl ?_
      refine wl_val (at_move rfl) rfl ?_
      obtain ⟨q9, q10, h⟩ := h
      refine wl_val (at_subSh Try.underlying9 rfl rfl q9 q10) rfl ?_
      obtain ⟨q11, h⟩ := h
      refine wl_val (at_cat rfl rfl q11) rfl ?_
      refine wl_val (at_assign rfl) rfl ?_
      obtain ⟨x12, e13⟩ : ∃ x : ByteArray, x = ((a0.extract 0 (Int.toNat s3)) ++ (⟨#[49]⟩ : ByteArray)) := ⟨_, rfl⟩; replace h := h x12 e13
      refine wl_set (t := 4) (v := .string x12) (congrArg Value.string e13.symm) ?_
      refine wl_nil ?_
      refine wk_prune [(0, .string a0), (4, .string x12)] ⟨rfl, rfl, trivial⟩ (fun f1 => ?_)
      refine wk_then ?_
      refine wc_seq ?_
      refine wc_block ?_
      obtain ⟨k14, h⟩ := h
      refine wc_loop (fun k a w => ∃ (s16 : ByteArray) (f1 : Nat → Value), a = ac 29 (en f1 [(0, .string a0), (4, .string s16)]) [] ∧ Sm w0 w ∧ Fix _ k s16 w.heap) k14 ⟨(x12), _, ac_again ⟨rfl, rfl, trivial⟩, so, h⟩ ?_
      rintro k15 a18 w17 ⟨s16, f1, rfl, so, h⟩
      rcases k15 with _ | k15
      · exact h.elim
      replace h := Fix.un h; refine wc_in ?_
      refine wc_seq ?_
      refine wc_seq ?_
      refine wc_region ?_
      refine wl_val (at_move rfl) rfl ?_
      refine wl_val (at_lenS Try.underlying9 rfl) rfl ?_
      refine wl_val (at_move rfl) rfl ?_
      refine wl_val (at_lenS Try.underlying9 rfl) rfl ?_
      refine wl_val (at_lss rfl rfl) rfl ?_
      refine wl_nil ?_
      refine wk_prune [(0, .string a0), (4, .string s16), (24, .bool (decide ((s16.size : Int) < (a0.size : Int))))] ⟨rfl, rfl, rfl, trivial⟩ (fun f1 => ?_)
      refine wk_then ?_
      refine wc_cond rfl h (fun h => ?_) (fun h => ?_)
      · refine wc_skip ?_
        refine wk_prune [(0, .string a0), (4, .string s16)] ⟨rfl, rfl, trivial⟩ (fun f1 => ?_)
        refine wk_then ?_
        refine wc_block ?_
        refine wc_region ?_
        refine wl_val (at_move rfl) rfl ?_
        obtain ⟨q20, h⟩ := h
        refine wl_val (at_cat rfl rfl q20) rfl ?_
        refine wl_val (at_assign rfl) rfl ?_
        refine wl_nil ?_
        refine wk_blkN ?_
        exact wk_again ⟨((s16 ++ (⟨#[48]⟩ : ByteArray))), _, ac_again ⟨rfl, rfl, trivial⟩, so, h⟩
      · refine wc_exit ?_
        refine wk_thenE ?_
        refine wk_thenE ?_
        refine wk_blkE ?_
        refine wk_prune [(4, .string s16)] ⟨rfl, trivial⟩ (fun f1 => ?_)
        refine wk_then ?_
        refine wc_seq ?_
        refine wc_region ?_
        refine wl_val (at_move rfl) rfl ?_
        refine wl_val (at_assign rfl) rfl ?_
        refine wl_nil ?_
        refine wk_prune [(2, .string s16)] ⟨rfl, trivial⟩ (fun f1 => ?_)
        refine wk_then ?_
        refine wc_ret ?_
        refine wk_blkR ?_
        refine wk_thenR ?_
        refine wk_thenR ?_
        refine wk_blkR ?_
        refine wk_thenR ?_
        exact wk_ret1 (x := s16) rfl (by decide) rfl so h
    · refine wc_skip ?_
      refine wk_blkN ?_
      refine wk_prune [(0, .string a0), (3, .int .i64 s3)] ⟨rfl, rfl, trivial⟩ (fun f1 => ?_)
      refine wk_then ?_
      refine wc_region ?_
      refine wl_val (at_move rfl) rfl ?_
      refine wl_val (at_sub rfl rfl) rfl ?_
      refine wl_val (at_assign rfl) rfl ?_
      refine wl_nil ?_
      exact wk_again ⟨((IntKind.wrap .i64 (s3 - 1))), _, ac_again ⟨rfl, rfl, trivial⟩, so, h⟩
  · refine wc_exit ?_
    refine wk_thenE ?_
    refine wk_thenE ?_
    refine wk_blkE ?_
    refine wk_prune [(0, .string a0)] ⟨rfl, trivial⟩ (fun f1 => ?_)
    refine wk_then ?_
    refine wc_seq ?_
    refine wc_region ?_
    refine wl_val (at_move rfl) rfl ?_
    refine wl_val (at_assign rfl) rfl ?_
    refine wl_nil ?_
    refine wk_prune [(2, .string a0)] ⟨rfl, trivial⟩ (fun f1 => ?_)
    refine wk_then ?_
    refine wc_ret ?_
    exact wk_ret1 (x := a0) rfl (by decide) rfl so h

/-- mosaic/mosaicref04.New -/
def mosaicref04_New.enc : (Option Addr) × Int → Value := fun r => .tuple #[.pointer r.1, .int .i64 r.2]
def mosaicref04_New.s (a0_0 : Ints 16) (a0_1 : Sl) (H0 : Hp) (Q : ((Option Addr) × Int) → Hp → Prop) : Prop :=
  Gn [] H0 (fun (b1 : Nat) (H2 : Hp) => mosaicref04_Check.s a0_0 a0_1 H2 (fun x3 H4 => Pv [b1] H2 H4 ∧ (if (x3 != 0) = true then (Q (none, x3) H4) else (Gn [] H4 (fun (b6 : Nat) (H7 : Hp) => Bk H7 b6 82 (c82 ⟨none, 0, 0⟩ ⟨none, 0, 0⟩) → (∃ k8, Fix (fun (rec13 : (ByteArray × Int × Int) → Hp → Prop) (s10 : ByteArray × Int × Int) (H11 : Hp) => if decide (s10.2.2 ≤ 16) = true then (∃ k14, Fix (fun (rec19 : (ByteArray × Int × Int) → Hp → Prop) (s16 : ByteArray × Int × Int) (H17 : Hp) => 0 ≤ (IntKind.wrap .i64 (s10.2.2 - 1)) ∧ (IntKind.wrap .i64 (s10.2.2 - 1)) < (16 : Int) ∧ (if decide (s16.2.2 < (IntKind.wrap .i64 (ixI a0_0 (IntKind.wrap .i64 (s10.2.2 - 1))))) = true then (Join (fun (s23 : ByteArray) (H24 : Hp) => ∃ k25, Fix (fun (rec30 : ByteArray → Hp → Prop) (s27 : ByteArray) (H28 : Hp) => if decide ((s27.size : Int) < s10.2.2) = true then (s27.size + (⟨#[48]⟩ : ByteArray).size ≤ 9223372036854775807 ∧ (rec30 ((s27 ++ (⟨#[48]⟩ : ByteArray))) H28)) else (ldL H28 (⟨b6, 0, none⟩ : Addr) (fun x33 => 0 ≤ s16.2.1 ∧ s16.2.1 < (a0_1.n : Int) ∧ someA a0_1.a (fun p38 => ldI .u8 H28 (p38.add (Int.toNat s16.2.1 * 1)) (fun x40 => nw H28 5 [.int .u8 x40] (fun p42 H43 => Pv [b1] H28 H43 ∧ (cellAt H43 (⟨b6, 0, none⟩ : Addr) = some (.slice x33.a x33.n x33.c) ∧ (apS H43 x33 5 1 1 z5.cells 1 [.int .u8 x40] (fun l49 H50 => Pv [b1] H43 H50 ∧ (st H50 (⟨b6, 0, none⟩ : Addr) (.slice l49.a l49.n l49.c) (fun H52 => Pv [b1] H50 H52 ∧ (ldL H52 (⟨b6, 1, none⟩ : Addr) (fun x54 => nw H52 9 [.string s27] (fun p56 H57 => Pv [b1] H52 H57 ∧ (apS H57 x54 9 1 16 z9.cells 1 [.string s27] (fun l62 H63 => Pv [b1] H57 H63 ∧ (st H63 (⟨b6, 1, none⟩ : Addr) (.slice l62.a l62.n l62.c) (fun H65 => Pv [b1] H63 H65 ∧ (rec19 (s27, (IntKind.wrap .i64 (s16.2.1 + 1)), (IntKind.wrap .i64 (s16.2.2 + 1))) H65))))))))))))))))))) k25 (s23) H24) (fun (J22 : ByteArray → Hp → Prop) => if decide ((0 : Int) < s16.2.1) = true then (mosaicref04_More.s s16.1 H17 (fun x67 H68 => Pv [b1] H17 H68 ∧ (J22 (x67) H68))) else (J22 (s16.1) H17))) else (rec13 (s16.1, s16.2.1, (IntKind.wrap .i64 (s10.2.2 + 1))) H17))) k14 (s10.1, s10.2.1, 0) H11) else (Q ((some (⟨b6, 0, none⟩ : Addr)), 0) H11)) k8 ((⟨#[]⟩ : ByteArray), 0, 1) H7))))))
set_option maxRecDepth 20000 in
set_option maxHeartbeats 4000000 in
theorem mosaicref04_New.calls (a0_0 : Ints 16) (a0_1 : Sl) (w0 : World) (Q : ((Option Addr) × Int) → Hp → Prop) (h : mosaicref04_New.s a0_0 a0_1 w0.heap Q) :
    Ca Try.prog 18 #[.agg (c25 a0_0 a0_1).toArray] w0 (Rt mosaicref04_New.enc Q w0) := by
  refine ca_start (c := _) Try.func18 rfl Try.ntmps18 rfl ?_
  have so : Sm w0 w0 := Sm.refl w0
  unfold mosaicref04_New.s at h
  refine wc_prune [(0, .agg (c25 a0_0 a0_1).toArray)] ⟨rfl, trivial⟩ (fun f1 => ?_)
  refine wc_seq ?_
  refine wc_region ?_
  refine wl_newT (T := 25) (cs := (c25 a0_0 a0_1)) (ef_box rfl rfl) rfl so ?_; intro b1 w2 hb_b1 t_b1 k_b1 so
  have g_b1 := Nat.le_of_eq hb_b1.symm
  have hc := k_b1.ch (F := [])
  refine wl_val (at_assign rfl) rfl ?_
  refine wl_val (at_assign rfl) rfl ?_
  refine wl_nil ?_
  refine wk_prune [(1, .pointer (some (⟨b1, 0, none⟩ : Addr)))] ⟨rfl, trivial⟩ (fun f1 => ?_)
  refine wk_then ?_
  refine wc_seq ?_
  refine wc_region ?_
  refine wl_val (at_loadA (cs := (c25 a0_0 a0_1)) Try.underlying25 rfl (by rw [len25]; exact sz25) rfl (ldA_full t_b1)) rfl ?_
  replace h := h b1 _ hc g_b1 t_b1.lt; clear hc
  refine wl_callF (mosaicref04_Check.calls _ _ _ _ h) enter12 rfl trivial so ?_; intro x3 w4 h so
  obtain ⟨q5, h⟩ := h
  replace t_b1 := pv_bk q5 t_b1 (by simp)
  refine wl_val (at_assign rfl) rfl ?_
  refine wl_nil ?_
  refine wk_prune [(1, .pointer (some (⟨b1, 0, none⟩ : Addr))), (4, .int .i64 x3)] ⟨rfl, rfl, trivial⟩ (fun f1 => ?_)
  refine wk_then ?_
  refine wc_seq ?_
  refine wc_seq ?_
  refine wc_region ?_
  refine wl_val (at_move rfl) rfl ?_
  refine wl_val (at_neq rfl rfl) rfl ?_
  refine wl_nil ?_
  refine wk_prune [(1, .pointer (some (⟨b1, 0, none⟩ : Addr))), (4, .int .i64 x3), (13, .bool (x3 != 0))] ⟨rfl, rfl, rfl, trivial⟩ (fun f1 => ?_)
  refine wk_then ?_
  refine wc_cond rfl h (fun h => ?_) (fun h => ?_)
  · refine wc_seq ?_
    refine wc_region ?_
    refine wl_val (at_move rfl) rfl ?_
    refine wl_val (at_assign rfl) rfl ?_
    refine wl_val (at_assign rfl) rfl ?_
    refine wl_nil ?_
    refine wk_prune [(2, .pointer none), (3, .int .i64 x3)] ⟨rfl, rfl, trivial⟩ (fun f1 => ?_)
    refine wk_then ?_
    refine wc_ret ?_
    refine wk_thenR ?_
    exact wk_ret2 (x := (none, x3)) rfl (by decide) (by decide) rfl so h
  · refine wc_skip ?_
    refine wk_prune [(1, .pointer (some (⟨b1, 0, none⟩ : Addr)))] ⟨rfl, trivial⟩ (fun f1 => ?_)
    refine wk_then ?_
    refine wc_seq ?_
    refine wc_region ?_
    refine wl_val (at_build (cs := (c82 ⟨none, 0, 0⟩ ⟨none, 0, 0⟩)) (ps := []) rfl (fun w => by simp [Instr.build, Instr.fill, go_sem, Try.underlying82, z82])) rfl ?_
    refine wl_newT (T := 82) (cs := (c82 ⟨none, 0, 0⟩ ⟨none, 0, 0⟩)) (ef_box rfl rfl) rfl so ?_; intro b6 w7 hb_b6 t_b6 k_b6 so
    have g_b6 := Nat.le_of_eq hb_b6.symm
    have hc := k_b6.ch (F := [])
    have n_b1_b6 : b1 ≠ b6 := fun e => by have := t_b1.lt; omega
    replace t_b1 := t_b1.keep k_b6
    refine wl_val (at_assign rfl) rfl ?_
    refine wl_nil ?_
    refine wk_prune [(1, .pointer (some (⟨b1, 0, none⟩ : Addr))), (5, .pointer (some (⟨b6, 0, none⟩ : Addr)))] ⟨rfl, rfl, trivial⟩ (fun f1 => ?_)
    refine wk_then ?_
    refine wc_seq ?_
    refine wc_region ?_
    refine wl_val (at_assign rfl) rfl ?_
    refine wl_nil ?_
    refine wk_prune [(1, .pointer (some (⟨b1, 0, none⟩ : Addr))), (5, .pointer (some (⟨b6, 0, none⟩ : Addr))), (6, .string (⟨#[]⟩ : ByteArray))] ⟨rfl, rfl, rfl, trivial⟩ (fun f1 => ?_)
    refine wk_then ?_
    refine wc_seq ?_
    refine wc_region ?_
    refine wl_val (at_assign rfl) rfl ?_
    refine wl_nil ?_
    refine wk_prune [(1, .pointer (some (⟨b1, 0, none⟩ : Addr))), (5, .pointer (some (⟨b6, 0, none⟩ : Addr))), (6, .string (⟨#[]⟩ : ByteArray)), (7, .int .i64 0)] ⟨rfl, rfl, rfl, rfl, trivial⟩ (fun f1 => ?_)
    refine wk_then ?_
    refine wc_seq ?_
    refine wc_seq ?_
    refine wc_region ?_
    refine wl_val (at_assign rfl) rfl ?_
    refine wl_nil ?_
    refine wk_prune [(1, .pointer (some (⟨b1, 0, none⟩ : Addr))), (5, .pointer (some (⟨b6, 0, none⟩ : Addr))), (6, .string (⟨#[]⟩ : ByteArray)), (7, .int .i64 0), (8, .int .i64 1)] ⟨rfl, rfl, rfl, rfl, rfl, trivial⟩ (fun f1 => ?_)
    refine wk_then ?_
    refine wc_block ?_
    replace h := h b6 _ hc g_b6 t_b6.lt; clear hc
    replace h := h t_b6
    obtain ⟨k8, h⟩ := h
    refine wc_loop (fun k a w => ∃ (s10 : ByteArray × Int × Int) (f1 : Nat → Value), a = ac 68 (en f1 [(1, .pointer (some (⟨b1, 0, none⟩ : Addr))), (5, .pointer (some (⟨b6, 0, none⟩ : Addr))), (6, .string s10.1), (7, .int .i64 s10.2.1), (8, .int .i64 s10.2.2)]) [] ∧ Sm w0 w ∧ (Bk w.heap b1 25 (c25 a0_0 a0_1) ∧ True) ∧ Fix _ k s10 w.heap) k8 ⟨((⟨#[]⟩ : ByteArray), 0, 1), _, ac_again ⟨rfl, rfl, rfl, rfl, rfl, trivial⟩, so, ⟨t_b1, trivial⟩, h⟩ ?_
    rintro k9 a12 w11 ⟨s10, f1, rfl, so, ⟨t_b1, _⟩, h⟩
    rcases k9 with _ | k9
    · exact h.elim
    replace h := Fix.un h; refine wc_in ?_
    refine wc_seq ?_
    refine wc_seq ?_
    refine wc_region ?_
    refine wl_val (at_move rfl) rfl ?_
    refine wl_val (at_leq rfl rfl) rfl ?_
    refine wl_nil ?_
    refine wk_prune [(1, .pointer (some (⟨b1, 0, none⟩ : Addr))), (5, .pointer (some (⟨b6, 0, none⟩ : Addr))), (6, .string s10.1), (7, .int .i64 s10.2.1), (8, .int .i64 s10.2.2), (18, .bool (decide (s10.2.2 ≤ 16)))] ⟨rfl, rfl, rfl, rfl, rfl, rfl, trivial⟩ (fun f1 => ?_)
    refine wk_then ?_
    refine wc_cond rfl h (fun h => ?_) (fun h => ?_)
    · refine wc_skip ?_
      refine wk_prune [(1, .pointer (some (⟨b1, 0, none⟩ : Addr))), (5, .pointer (some (⟨b6, 0, none⟩ : Addr))), (6, .string s10.1), (7, .int .i64 s10.2.1), (8, .int .i64 s10.2.2)] ⟨rfl, rfl, rfl, rfl, rfl, trivial⟩ (fun f1 => ?_)
      refine wk_then ?_
      refine wc_seq ?_
      refine wc_block ?_
      refine wc_seq ?_
      refine wc_region ?_
      refine wl_val (at_assign rfl) rfl ?_
      refine wl_nil ?_
      refine wk_prune [(1, .pointer (some (⟨b1, 0, none⟩ : Addr))), (5, .pointer (some (⟨b6, 0, none⟩ : Addr))), (6, .string s10.1), (7, .int .i64 s10.2.1), (8, .int .i64 s10.2.2), (9, .int .i64 0)] ⟨rfl, rfl, rfl, rfl, rfl, rfl, trivial⟩ (fun f1 => ?_)
      refine wk_then ?_
      refine wc_block ?_
      obtain ⟨k14, h⟩ := h
      refine wc_loop (fun k a w => ∃ (s16 : ByteArray × Int × Int) (f1 : Nat → Value), a = ac 68 (en f1 [(1, .pointer (some (⟨b1, 0, none⟩ : Addr))), (5, .pointer (some (⟨b6, 0, none⟩ : Addr))), (6, .string s16.1), (7, .int .i64 s16.2.1), (8, .int .i64 s10.2.2), (9, .int .i64 s16.2.2)]) [] ∧ Sm w0 w ∧ (Bk w.heap b1 25 (c25 a0_0 a0_1) ∧ True) ∧ Fix _ k s16 w.heap) k14 ⟨(s10.1, s10.2.1, 0), _, ac_again ⟨rfl, rfl, rfl, rfl, rfl, rfl, trivial⟩, so, ⟨t_b1, trivial⟩, h⟩ ?_
      rintro k15 a18 w17 ⟨s16, f1, rfl, so, ⟨t_b1, _⟩, h⟩
      rcases k15 with _ | k15
      · exact h.elim
      replace h := Fix.un h; refine wc_in ?_
      refine wc_seq ?_
      refine wc_seq ?_
      refine wc_region ?_
      refine wl_val (at_move rfl) rfl ?_
      refine wl_val (at_move rfl) rfl ?_
      refine wl_val (at_sub rfl rfl) rfl ?_
      refine wl_val (at_fieldAddr Try.underlying25 rfl rfl sz22 (by decide) rfl) rfl ?_
      obtain ⟨q20, q21, h⟩ := h
      refine wl_val (at_ixAddrA Try.underlying22 sz5 rfl rfl q20 q21) rfl ?_
      refine wl_val (at_load (v := .int .u8 (ixI a0_0 (IntKind.wrap .i64 (s10.2.2 - 1)))) Try.underlying5 rfl rfl (ixT (pre := []) (l := a0_0) (post := ([.slice a0_1.a a0_1.n a0_1.c])) (by first | exact t_b1 | (have q := t_b1; simp only [List.append_assoc, List.cons_append, List.nil_append, List.append_nil] at q ⊢; exact q)) (by first | rfl | simp [ints_len, bools_len]) q20 q21)) rfl ?_
      refine wl_val (at_conv Try.underlying5 Try.underlying3 rfl) rfl ?_
      refine wl_val (at_lss rfl rfl) rfl ?_
      refine wl_nil ?_
      refine wk_prune [(1, .pointer (some (⟨b1, 0, none⟩ : Addr))), (5, .pointer (some (⟨b6, 0, none⟩ : Addr))), (6, .string s16.1), (7, .int .i64 s16.2.1), (8, .int .i64 s10.2.2), (9, .int .i64 s16.2.2), (28, .bool (decide (s16.2.2 < (IntKind.wrap .i64 (ixI a0_0 (IntKind.wrap .i64 (s10.2.2 - 1)))))))] ⟨rfl, rfl, rfl, rfl, rfl, rfl, rfl, trivial⟩ (fun f1 => ?_)
      refine wk_then ?_
      refine wc_cond rfl h (fun h => ?_) (fun h => ?_)
      · refine wc_skip ?_
        refine wk_prune [(1, .pointer (some (⟨b1, 0, none⟩ : Addr))), (5, .pointer (some (⟨b6, 0, none⟩ : Addr))), (6, .string s16.1), (7, .int .i64 s16.2.1), (8, .int .i64 s10.2.2), (9, .int .i64 s16.2.2)] ⟨rfl, rfl, rfl, rfl, rfl, rfl, trivial⟩ (fun f1 => ?_)
        refine wk_then ?_
        refine wc_seq ?_
        refine wc_block ?_
        refine wc_seq ?_
        refine wc_joinG (w0 := w0) (fun (H : Hp) => Bk H b1 25 (c25 a0_0 a0_1) ∧ True) (fun (s23 : ByteArray) => [(1, .pointer (some (⟨b1, 0, none⟩ : Addr))), (5, .pointer (some (⟨b6, 0, none⟩ : Addr))), (6, .string s23), (7, .int .i64 s16.2.1), (8, .int .i64 s10.2.2), (9, .int .i64 s16.2.2)]) (fun (s23 : ByteArray) => []) h ?_ ?_
        · rintro s23 w24 f1 h ⟨t_b1, _⟩ so; refine wk_then ?_
          refine wc_seq ?_
          refine wc_block ?_
          obtain ⟨k25, h⟩ := h
          refine wc_loop (fun k a w => ∃ (s27 : ByteArray) (f1 : Nat → Value), a = ac 68 (en f1 [(1, .pointer (some (⟨b1, 0, none⟩ : Addr))), (5, .pointer (some (⟨b6, 0, none⟩ : Addr))), (6, .string s27), (7, .int .i64 s16.2.1), (8, .int .i64 s10.2.2), (9, .int .i64 s16.2.2)]) [] ∧ Sm w0 w ∧ (Bk w.heap b1 25 (c25 a0_0 a0_1) ∧ True) ∧ Fix _ k s27 w.heap) k25 ⟨(s23), _, ac_again ⟨rfl, rfl, rfl, rfl, rfl, rfl, trivial⟩, so, ⟨t_b1, trivial⟩, h⟩ ?_
          rintro k26 a29 w28 ⟨s27, f1, rfl, so, ⟨t_b1, _⟩, h⟩
          rcases k26 with _ | k26
          · exact h.elim
          replace h := Fix.un h; refine wc_in ?_
          refine wc_seq ?_
          refine wc_seq ?_
          refine wc_region ?_
          refine wl_val (at_move rfl) rfl ?_
          refine wl_val (at_lenS Try.underlying9 rfl) rfl ?_
          refine wl_val (at_move rfl) rfl ?_
          refine wl_val (at_lss rfl rfl) rfl ?_
          refine wl_nil ?_
          refine wk_prune [(1, .pointer (some (⟨b1, 0, none⟩ : Addr))), (5, .pointer (some (⟨b6, 0, none⟩ : Addr))), (6, .string s27), (7, .int .i64 s16.2.1), (8, .int .i64 s10.2.2), (9, .int .i64 s16.2.2), (38, .bool (decide ((s27.size : Int) < s10.2.2)))] ⟨rfl, rfl, rfl, rfl, rfl, rfl, rfl, trivial⟩ (fun f1 => ?_)
          refine wk_then ?_
          refine wc_cond rfl h (fun h => ?_) (fun h => ?_)
          · refine wc_skip ?_
            refine wk_prune [(1, .pointer (some (⟨b1, 0, none⟩ : Addr))), (5, .pointer (some (⟨b6, 0, none⟩ : Addr))), (6, .string s27), (7, .int .i64 s16.2.1), (8, .int .i64 s10.2.2), (9, .int .i64 s16.2.2)] ⟨rfl, rfl, rfl, rfl, rfl, rfl, trivial⟩ (fun f1 => ?_)
            refine wk_then ?_
            refine wc_block ?_
            refine wc_region ?_
            refine wl_val (at_move rfl) rfl ?_
            obtain ⟨q31, h⟩ := h
            refine wl_val (at_cat rfl rfl q31) rfl ?_
            refine wl_val (at_assign rfl) rfl ?_
            refine wl_nil ?_
            refine wk_blkN ?_
            exact wk_again ⟨((s27 ++ (⟨#[48]⟩ : ByteArray))), _, ac_again ⟨rfl, rfl, rfl, rfl, rfl, rfl, trivial⟩, so, ⟨t_b1, trivial⟩, h⟩
          · refine wc_exit ?_
            refine wk_thenE ?_
            refine wk_thenE ?_
            refine wk_blkE ?_
            refine wk_prune [(1, .pointer (some (⟨b1, 0, none⟩ : Addr))), (5, .pointer (some (⟨b6, 0, none⟩ : Addr))), (6, .string s27), (7, .int .i64 s16.2.1), (8, .int .i64 s10.2.2), (9, .int .i64 s16.2.2)] ⟨rfl, rfl, rfl, rfl, rfl, rfl, trivial⟩ (fun f1 => ?_)
            refine wk_then ?_
            refine wc_seq ?_
            refine wc_wo [0, 0, 2, 6, 14, 0, 32, 0, 224, 480, 992, 2046, 4095, 8191, 16383] mixed (by kernel_rfl) so ?_; intro w32 hw so; rw [← hw] at h t_b1; clear hw
            refine wo_pure (m' := 1) 0 rfl (by kernel_rfl) rfl rfl (fun H => at_move rfl) ?_
            refine wo_pure (m' := 3) 1 rfl (by kernel_rfl) rfl rfl (fun H => at_move rfl) ?_
            refine wo_pure (m' := 7) 2 rfl (by kernel_rfl) rfl rfl (fun H => at_nilCheck rfl) ?_
            refine wo_pure (m' := 15) 3 rfl (by kernel_rfl) rfl rfl (fun H => at_fieldAddr Try.underlying82 rfl rfl sz23 (by decide) rfl) ?_
            refine wo_pure (m' := 47) 5 rfl (by kernel_rfl) rfl rfl (fun H => at_fieldAddr Try.underlying25 rfl rfl sz23 (by decide) rfl) ?_
            refine wo_pure (m' := 175) 7 rfl (by kernel_rfl) rfl rfl (fun H => at_move rfl) ?_
            obtain ⟨x33, q34, h⟩ := h
            refine wo_load (m' := 191) 4 (fun H => cellAt H (⟨b6, 0, none⟩ : Addr) = some (.slice x33.a x33.n x33.c)) rfl (by kernel_rfl) rfl rfl (fun H q34 => at_load Try.underlying23 rfl rfl q34) q34 ?_
            have q35 : cellAt w32.heap (⟨b1, 16, none⟩ : Addr) = some (.slice a0_1.a a0_1.n a0_1.c) := (t_b1.cell 16).trans (by first | rfl | simp [List.getElem?_append, ints_len, bools_len])
            refine wo_load (m' := 255) 6 (fun H => cellAt H (⟨b1, 16, none⟩ : Addr) = some (.slice a0_1.a a0_1.n a0_1.c)) rfl (by kernel_rfl) rfl rfl (fun H q35 => at_load (v := .slice a0_1.a a0_1.n a0_1.c) Try.underlying23 rfl rfl (q35)) q35 ?_
            obtain ⟨q36, q37, p38, q39, h⟩ := h
            refine wo_pure (m' := 511) 8 rfl (by kernel_rfl) rfl rfl (fun H => at_ixAddrL Try.underlying23 sz5 (sl_some q39) rfl q36 q37) ?_
            obtain ⟨x40, q41, h⟩ := h
            refine wo_load (m' := 1023) 9 (fun H => cellAt H (p38.add (Int.toNat s16.2.1 * 1)) = some (.int .u8 x40)) rfl (by kernel_rfl) rfl rfl (fun H q41 => at_load Try.underlying5 rfl rfl q41) q41 ?_
            refine wo_take (m' := 2047) 10 [true, true, false] rfl (by kernel_rfl) rfl (by kernel_rfl) ?_
            obtain ⟨i45, i45a, i45b, i45c, i45d⟩ := info5
            refine wl_newS (ef_buildSlice (cs := [.int .u8 x40]) (ps := [(0, .int .u8 x40)]) Try.underlying23 i45a i45b rfl (by rw [i45c]; decide) (by rw [i45c]; exact fill_full (vs := [.int .u8 x40]) rfl (by simp [Value.cells]) (by simp [Value.cells]) rfl (by simp))) rfl so (ones_cons rfl ones_nil) h ?_; intro p42 w43 h r44 so
            obtain ⟨q46, h⟩ := h
            replace t_b1 := pv_bk q46 t_b1 (by simp)
            refine wl_nil ?_
            obtain ⟨q47, h⟩ := h
            refine wk_tq ⟨q47, trivial⟩ ?_
            refine wo_take (m' := 4095) 11 [true] rfl (by kernel_rfl) rfl (by kernel_rfl) ?_
            obtain ⟨i48, i48a, i48b, i48c, i48d⟩ := info5
            refine wl_ap (fx_append (s := x33) (t := ⟨(some p42), 1, 1⟩) (m := 1) (xs := [.int .u8 x40]) Try.underlying23 Try.underlying23 i48a i48b i48c i48d rfl rfl rfl (by first | rfl | simp) r44 h) rfl so ?_; intro l49 w50 h so
            obtain ⟨q51, h⟩ := h
            replace t_b1 := pv_bk q51 t_b1 (by simp)
            refine wl_nil ?_
            refine wk_tq trivial ?_
            refine wo_pure (m' := 8191) 12 rfl (by kernel_rfl) rfl rfl (fun H => at_nilCheck rfl) ?_
            refine wo_pure (m' := 16383) 13 rfl (by kernel_rfl) rfl rfl (fun H => at_fieldAddr Try.underlying82 rfl rfl sz23 (by decide) rfl) ?_
            refine wo_take (m' := 32767) 14 [] rfl (by kernel_rfl) rfl (by kernel_rfl) ?_
            refine wl_st (v := .slice l49.a l49.n l49.c) h rfl so (fun q1 q2 => ef_store (sz := sz23) rfl rfl rfl q1 q2) ?_; intro w52 h so
            obtain ⟨q53, h⟩ := h
            replace t_b1 := pv_bk q53 t_b1 (by simp)
            refine wl_nil ?_
            refine wk_tq trivial ?_
            refine wo_done (by kernel_rfl) ?_
            refine wk_prune [(1, .pointer (some (⟨b1, 0, none⟩ : Addr))), (5, .pointer (some (⟨b6, 0, none⟩ : Addr))), (6, .string s27), (7, .int .i64 s16.2.1), (8, .int .i64 s10.2.2), (9, .int .i64 s16.2.2)] ⟨rfl, rfl, rfl, rfl, rfl, rfl, trivial⟩ (fun f1 => ?_)
            refine wk_then ?_
            refine wc_seq ?_
            refine wc_region ?_
            refine wl_val (at_move rfl) rfl ?_
            refine wl_val (at_move rfl) rfl ?_
            refine wl_val (at_nilCheck rfl) rfl ?_
            refine wl_val (at_fieldAddr Try.underlying82 rfl rfl sz59 (by decide) rfl) rfl ?_
            obtain ⟨x54, q55, h⟩ := h
            refine wl_val (at_load Try.underlying59 rfl rfl q55) rfl ?_
            refine wl_val (at_move rfl) rfl ?_
            obtain ⟨i59, i59a, i59b, i59c, i59d⟩ := info9
            refine wl_newS (ef_buildSlice (cs := [.string s27]) (ps := [(0, .string s27)]) Try.underlying59 i59a i59b rfl (by rw [i59c]; decide) (by rw [i59c]; exact fill_full (vs := [.string s27]) rfl (by simp [Value.cells]) (by simp [Value.cells]) rfl (by simp))) rfl so (ones_cons rfl ones_nil) h ?_; intro p56 w57 h r58 so
            obtain ⟨q60, h⟩ := h
            replace t_b1 := pv_bk q60 t_b1 (by simp)
            obtain ⟨i61, i61a, i61b, i61c, i61d⟩ := info9
            refine wl_ap (fx_append (s := x54) (t := ⟨(some p56), 1, 1⟩) (m := 1) (xs := [.string s27]) Try.underlying59 Try.underlying59 i61a i61b i61c i61d rfl rfl rfl (by first | rfl | simp) r58 h) rfl so ?_; intro l62 w63 h so
            obtain ⟨q64, h⟩ := h
            replace t_b1 := pv_bk q64 t_b1 (by simp)
            refine wl_val (at_nilCheck rfl) rfl ?_
            refine wl_val (at_fieldAddr Try.underlying82 rfl rfl sz59 (by decide) rfl) rfl ?_
            refine wl_st (v := .slice l62.a l62.n l62.c) h rfl so (fun q1 q2 => ef_store (sz := sz59) rfl rfl rfl q1 q2) ?_; intro w65 h so
            obtain ⟨q66, h⟩ := h
            replace t_b1 := pv_bk q66 t_b1 (by simp)
            refine wl_nil ?_
            refine wk_prune [(1, .pointer (some (⟨b1, 0, none⟩ : Addr))), (5, .pointer (some (⟨b6, 0, none⟩ : Addr))), (6, .string s27), (7, .int .i64 s16.2.1), (8, .int .i64 s10.2.2), (9, .int .i64 s16.2.2)] ⟨rfl, rfl, rfl, rfl, rfl, rfl, trivial⟩ (fun f1 => ?_)
            refine wk_then ?_
            refine wc_region ?_
            refine wl_val (at_move rfl) rfl ?_
            refine wl_val (at_add rfl rfl) rfl ?_
            refine wl_val (at_assign rfl) rfl ?_
            refine wl_nil ?_
            refine wk_blkN ?_
            refine wk_prune [(1, .pointer (some (⟨b1, 0, none⟩ : Addr))), (5, .pointer (some (⟨b6, 0, none⟩ : Addr))), (6, .string s27), (7, .int .i64 (IntKind.wrap .i64 (s16.2.1 + 1))), (8, .int .i64 s10.2.2), (9, .int .i64 s16.2.2)] ⟨rfl, rfl, rfl, rfl, rfl, rfl, trivial⟩ (fun f1 => ?_)
            refine wk_then ?_
            refine wc_region ?_
            refine wl_val (at_move rfl) rfl ?_
            refine wl_val (at_add rfl rfl) rfl ?_
            refine wl_val (at_assign rfl) rfl ?_
            refine wl_nil ?_
            exact wk_again ⟨(s27, (IntKind.wrap .i64 (s16.2.1 + 1)), (IntKind.wrap .i64 (s16.2.2 + 1))), _, ac_again ⟨rfl, rfl, rfl, rfl, rfl, rfl, trivial⟩, so, ⟨t_b1, trivial⟩, h⟩
        · intro J22 h hJ22
          refine wc_seq ?_
          refine wc_region ?_
          refine wl_val (at_move rfl) rfl ?_
          refine wl_val (at_gtr rfl rfl) rfl ?_
          refine wl_nil ?_
          refine wk_prune [(1, .pointer (some (⟨b1, 0, none⟩ : Addr))), (5, .pointer (some (⟨b6, 0, none⟩ : Addr))), (6, .string s16.1), (7, .int .i64 s16.2.1), (8, .int .i64 s10.2.2), (9, .int .i64 s16.2.2), (32, .bool (decide ((0 : Int) < s16.2.1)))] ⟨rfl, rfl, rfl, rfl, rfl, rfl, rfl, trivial⟩ (fun f1 => ?_)
          refine wk_then ?_
          refine wc_cond rfl h (fun h => ?_) (fun h => ?_)
          · refine wc_region ?_
            refine wl_val (at_move rfl) rfl ?_
            refine wl_callF (mosaicref04_More.calls _ _ _ h) enter49 rfl trivial so ?_; intro x67 w68 h so
            obtain ⟨q69, h⟩ := h
            replace t_b1 := pv_bk q69 t_b1 (by simp)
            refine wl_val (at_assign rfl) rfl ?_
            refine wl_nil ?_
            exact wk_prune [(1, .pointer (some (⟨b1, 0, none⟩ : Addr))), (5, .pointer (some (⟨b6, 0, none⟩ : Addr))), (6, .string x67), (7, .int .i64 s16.2.1), (8, .int .i64 s10.2.2), (9, .int .i64 s16.2.2)] ⟨rfl, rfl, rfl, rfl, rfl, rfl, trivial⟩ (fun f1 => hJ22 (x67) _ f1 h ⟨t_b1, trivial⟩ so)
          · refine wc_skip ?_
            exact wk_prune [(1, .pointer (some (⟨b1, 0, none⟩ : Addr))), (5, .pointer (some (⟨b6, 0, none⟩ : Addr))), (6, .string s16.1), (7, .int .i64 s16.2.1), (8, .int .i64 s10.2.2), (9, .int .i64 s16.2.2)] ⟨rfl, rfl, rfl, rfl, rfl, rfl, trivial⟩ (fun f1 => hJ22 (s16.1) _ f1 h ⟨t_b1, trivial⟩ so)
      · refine wc_exit ?_
        refine wk_thenE ?_
        refine wk_thenE ?_
        refine wk_blkE ?_
        refine wk_blkN ?_
        refine wk_prune [(1, .pointer (some (⟨b1, 0, none⟩ : Addr))), (5, .pointer (some (⟨b6, 0, none⟩ : Addr))), (6, .string s16.1), (7, .int .i64 s16.2.1), (8, .int .i64 s10.2.2)] ⟨rfl, rfl, rfl, rfl, rfl, trivial⟩ (fun f1 => ?_)
        refine wk_then ?_
        refine wc_region ?_
        refine wl_val (at_move rfl) rfl ?_
        refine wl_val (at_add rfl rfl) rfl ?_
        refine wl_val (at_assign rfl) rfl ?_
        refine wl_nil ?_
        exact wk_again ⟨(s16.1, s16.2.1, (IntKind.wrap .i64 (s10.2.2 + 1))), _, ac_again ⟨rfl, rfl, rfl, rfl, rfl, trivial⟩, so, ⟨t_b1, trivial⟩, h⟩
    · refine wc_exit ?_
      refine wk_thenE ?_
      refine wk_thenE ?_
      refine wk_blkE ?_
      refine wk_prune [(5, .pointer (some (⟨b6, 0, none⟩ : Addr)))] ⟨rfl, trivial⟩ (fun f1 => ?_)
      refine wk_then ?_
      refine wc_seq ?_
      refine wc_region ?_
      refine wl_val (at_move rfl) rfl ?_
      refine wl_val (at_assign rfl) rfl ?_
      refine wl_val (at_assign rfl) rfl ?_
      refine wl_nil ?_
      refine wk_prune [(2, .pointer (some (⟨b6, 0, none⟩ : Addr))), (3, .int .i64 0)] ⟨rfl, rfl, trivial⟩ (fun f1 => ?_)
      refine wk_then ?_
      refine wc_ret ?_
      exact wk_ret2 (x := ((some (⟨b6, 0, none⟩ : Addr)), 0)) rfl (by decide) (by decide) rfl so h

/-- (*mosaic/mosaicref04.Table).Text -/
def mosaicref04_Table_Text.enc : ByteArray → Value := fun r => .string r
def mosaicref04_Table_Text.s (a0 : Option Addr) (a1 : Int) (H0 : Hp) (Q : ByteArray → Hp → Prop) : Prop :=
  ∃ k1, Fix (fun (rec6 : Int → Hp → Prop) (s3 : Int) (H4 : Hp) => someA a0 (fun p7 => ldL H4 (p7.add 0) (fun x9 => if decide (s3 < (x9.n : Int)) = true then (ldL H4 (p7.add 0) (fun x11 => 0 ≤ s3 ∧ s3 < (x11.n : Int) ∧ someA x11.a (fun p15 => ldI .u8 H4 (p15.add (Int.toNat s3 * 1)) (fun x17 => if (x17 == a1) = true then (ldL H4 (p7.add 1) (fun x19 => 0 ≤ s3 ∧ s3 < (x19.n : Int) ∧ someA x19.a (fun p23 => ldS H4 (p23.add (Int.toNat s3 * 1)) (fun x25 => Q x25 H4)))) else (rec6 ((IntKind.wrap .i64 (s3 + 1))) H4))))) else (Q (⟨#[]⟩ : ByteArray) H4)))) k1 (0) H0
set_option maxRecDepth 20000 in
set_option maxHeartbeats 4000000 in
theorem mosaicref04_Table_Text.calls (a0 : Option Addr) (a1 : Int) (w0 : World) (Q : ByteArray → Hp → Prop) (h : mosaicref04_Table_Text.s a0 a1 w0.heap Q) :
    Ca Try.prog 51 #[.pointer a0, .int .u8 a1] w0 (Rt mosaicref04_Table_Text.enc Q w0) := by
  refine ca_start (c := _) Try.func51 rfl Try.ntmps51 rfl ?_
  have so : Sm w0 w0 := Sm.refl w0
  unfold mosaicref04_Table_Text.s at h
  refine wc_prune [(0, .pointer a0), (1, .int .u8 a1)] ⟨rfl, rfl, trivial⟩ (fun f1 => ?_)
  refine wc_seq ?_
  refine wc_region ?_
  refine wl_val (at_assign rfl) rfl ?_
  refine wl_nil ?_
  refine wk_prune [(0, .pointer a0), (1, .int .u8 a1)] ⟨rfl, rfl, trivial⟩ (fun f1 => ?_)
  refine wk_then ?_
  refine wc_seq ?_
  refine wc_seq ?_
  refine wc_region ?_
  refine wl_val (at_assign rfl) rfl ?_
  refine wl_nil ?_
  refine wk_prune [(0, .pointer a0), (1, .int .u8 a1), (5, .int .i64 0)] ⟨rfl, rfl, rfl, trivial⟩ (fun f1 => ?_)
  refine wk_then ?_
  refine wc_block ?_
  obtain ⟨k1, h⟩ := h
  refine wc_loop (fun k a w => ∃ (s3 : Int) (f1 : Nat → Value), a = ac 31 (en f1 [(0, .pointer a0), (1, .int .u8 a1), (5, .int .i64 s3)]) [] ∧ Sm w0 w ∧ Fix _ k s3 w.heap) k1 ⟨(0), _, ac_again ⟨rfl, rfl, rfl, trivial⟩, so, h⟩ ?_
  rintro k2 a5 w4 ⟨s3, f1, rfl, so, h⟩
  rcases k2 with _ | k2
  · exact h.elim
  replace h := Fix.un h; refine wc_in ?_
  refine wc_seq ?_
  refine wc_seq ?_
  refine wc_region ?_
  refine wl_val (at_move rfl) rfl ?_
  refine wl_val (at_move rfl) rfl ?_
  obtain ⟨p7, q8, h⟩ := h
  refine wl_val (at_nilCheck (congrArg Value.pointer q8)) rfl ?_
  refine wl_val (at_fieldAddr Try.underlying82 rfl rfl sz23 (by decide) rfl) rfl ?_
  obtain ⟨x9, q10, h⟩ := h
  refine wl_val (at_load Try.underlying23 rfl rfl q10) rfl ?_
  refine wl_val (at_lenL Try.underlying23 rfl) rfl ?_
  refine wl_val (at_lss rfl rfl) rfl ?_
  refine wl_nil ?_
  refine wk_prune [(0, .pointer a0), (1, .int .u8 a1), (5, .int .i64 s3), (12, .bool (decide (s3 < (x9.n : Int))))] ⟨rfl, rfl, rfl, rfl, trivial⟩ (fun f1 => ?_)
  refine wk_then ?_
  refine wc_cond rfl h (fun h => ?_) (fun h => ?_)
  · refine wc_skip ?_
    refine wk_prune [(0, .pointer a0), (1, .int .u8 a1), (5, .int .i64 s3)] ⟨rfl, rfl, rfl, trivial⟩ (fun f1 => ?_)
    refine wk_then ?_
    refine wc_seq ?_
    refine wc_block ?_
    refine wc_seq ?_
    refine wc_region ?_
    refine wl_val (at_move rfl) rfl ?_
    refine wl_val (at_nilCheck (congrArg Value.pointer q8)) rfl ?_
    refine wl_val (at_fieldAddr Try.underlying82 rfl rfl sz23 (by decide) rfl) rfl ?_
    obtain ⟨x11, q12, h⟩ := h
    refine wl_val (at_load Try.underlying23 rfl rfl q12) rfl ?_
    refine wl_val (at_move rfl) rfl ?_
    obtain ⟨q13, q14, p15, q16, h⟩ := h
    refine wl_val (at_ixAddrL Try.underlying23 sz5 (sl_some q16) rfl q13 q14) rfl ?_
    obtain ⟨x17, q18, h⟩ := h
    refine wl_val (at_load Try.underlying5 rfl rfl q18) rfl ?_
    refine wl_val (at_move rfl) rfl ?_
    refine wl_val (at_eql rfl rfl) rfl ?_
    refine wl_nil ?_
    refine wk_prune [(0, .pointer a0), (1, .int .u8 a1), (5, .int .i64 s3), (23, .bool (x17 == a1))] ⟨rfl, rfl, rfl, rfl, trivial⟩ (fun f1 => ?_)
    refine wk_then ?_
    refine wc_cond rfl h (fun h => ?_) (fun h => ?_)
    · refine wc_seq ?_
      refine wc_region ?_
      refine wl_val (at_move rfl) rfl ?_
      refine wl_val (at_nilCheck (congrArg Value.pointer q8)) rfl ?_
      refine wl_val (at_fieldAddr Try.underlying82 rfl rfl sz59 (by decide) rfl) rfl ?_
      obtain ⟨x19, q20, h⟩ := h
      refine wl_val (at_load Try.underlying59 rfl rfl q20) rfl ?_
      refine wl_val (at_move rfl) rfl ?_
      obtain ⟨q21, q22, p23, q24, h⟩ := h
      refine wl_val (at_ixAddrL Try.underlying59 sz9 (sl_some q24) rfl q21 q22) rfl ?_
      obtain ⟨x25, q26, h⟩ := h
      refine wl_val (at_load Try.underlying9 rfl rfl q26) rfl ?_
      refine wl_val (at_assign rfl) rfl ?_
      refine wl_nil ?_
      refine wk_prune [(4, .string x25)] ⟨rfl, trivial⟩ (fun f1 => ?_)
      refine wk_then ?_
      refine wc_ret ?_
      refine wk_blkR ?_
      refine wk_thenR ?_
      refine wk_thenR ?_
      refine wk_blkR ?_
      refine wk_thenR ?_
      exact wk_ret1 (x := x25) rfl (by decide) rfl so h
    · refine wc_skip ?_
      refine wk_blkN ?_
      refine wk_prune [(0, .pointer a0), (1, .int .u8 a1), (5, .int .i64 s3)] ⟨rfl, rfl, rfl, trivial⟩ (fun f1 => ?_)
      refine wk_then ?_
      refine wc_region ?_
      refine wl_val (at_move rfl) rfl ?_
      refine wl_val (at_add rfl rfl) rfl ?_
      refine wl_val (at_assign rfl) rfl ?_
      refine wl_nil ?_
      exact wk_again ⟨((IntKind.wrap .i64 (s3 + 1))), _, ac_again ⟨rfl, rfl, rfl, trivial⟩, so, h⟩
  · refine wc_exit ?_
    refine wk_thenE ?_
    refine wk_thenE ?_
    refine wk_blkE ?_
    refine wk_prune [] trivial (fun f1 => ?_)
    refine wk_then ?_
    refine wc_seq ?_
    refine wc_region ?_
    refine wl_val (at_assign rfl) rfl ?_
    refine wl_nil ?_
    refine wk_prune [(4, .string (⟨#[]⟩ : ByteArray))] ⟨rfl, trivial⟩ (fun f1 => ?_)
    refine wk_then ?_
    refine wc_ret ?_
    exact wk_ret1 (x := (⟨#[]⟩ : ByteArray)) rfl (by decide) rfl so h

/-- mosaic/mosaicref04.Number -/
def mosaicref04_Number.enc : Int → Value := fun r => .int .i64 r
def mosaicref04_Number.s (a0 : ByteArray) (H0 : Hp) (Q : Int → Hp → Prop) : Prop :=
  ∃ k1, Fix (fun (rec6 : (Int × Int) → Hp → Prop) (s3 : Int × Int) (H4 : Hp) => if decide (s3.2 < (a0.size : Int)) = true then (Join (fun (s8 : Int) (H9 : Hp) => rec6 (s8, (IntKind.wrap .i64 (s3.2 + 1))) H9) (fun (J7 : Int → Hp → Prop) => 0 ≤ s3.2 ∧ s3.2 < (a0.size : Int) ∧ (if ((bt a0 s3.2) == 49) = true then (Lt ((IntKind.wrap .i64 ((IntKind.wrap .i64 ((2 : Int) * s3.1)) + 1)) : Int) (fun x12 => J7 (x12) H4)) else (J7 ((IntKind.wrap .i64 ((2 : Int) * s3.1))) H4)))) else (Q s3.1 H4)) k1 (0, 0) H0
set_option maxRecDepth 20000 in
set_option maxHeartbeats 4000000 in
theorem mosaicref04_Number.calls (a0 : ByteArray) (w0 : World) (Q : Int → Hp → Prop) (h : mosaicref04_Number.s a0 w0.heap Q) :
    Ca Try.prog 53 #[.string a0] w0 (Rt mosaicref04_Number.enc Q w0) := by
  refine ca_start (c := _) Try.func53 rfl Try.ntmps53 rfl ?_
  have so : Sm w0 w0 := Sm.refl w0
  unfold mosaicref04_Number.s at h
  refine wc_prune [(0, .string a0)] ⟨rfl, trivial⟩ (fun f1 => ?_)
  refine wc_seq ?_
  refine wc_region ?_
  refine wl_val (at_assign rfl) rfl ?_
  refine wl_nil ?_
  refine wk_prune [(0, .string a0)] ⟨rfl, trivial⟩ (fun f1 => ?_)
  refine wk_then ?_
  refine wc_seq ?_
  refine wc_region ?_
  refine wl_val (at_assign rfl) rfl ?_
  refine wl_nil ?_
  refine wk_prune [(0, .string a0), (3, .int .i64 0)] ⟨rfl, rfl, trivial⟩ (fun f1 => ?_)
  refine wk_then ?_
  refine wc_seq ?_
  refine wc_seq ?_
  refine wc_region ?_
  refine wl_val (at_assign rfl) rfl ?_
  refine wl_nil ?_
  refine wk_prune [(0, .string a0), (3, .int .i64 0), (4, .int .i64 0)] ⟨rfl, rfl, rfl, trivial⟩ (fun f1 => ?_)
  refine wk_then ?_
  refine wc_block ?_
  obtain ⟨k1, h⟩ := h
  refine wc_loop (fun k a w => ∃ (s3 : Int × Int) (f1 : Nat → Value), a = ac 20 (en f1 [(0, .string a0), (3, .int .i64 s3.1), (4, .int .i64 s3.2)]) [] ∧ Sm w0 w ∧ Fix _ k s3 w.heap) k1 ⟨(0, 0), _, ac_again ⟨rfl, rfl, rfl, trivial⟩, so, h⟩ ?_
  rintro k2 a5 w4 ⟨s3, f1, rfl, so, h⟩
  rcases k2 with _ | k2
  · exact h.elim
  replace h := Fix.un h; refine wc_in ?_
  refine wc_seq ?_
  refine wc_seq ?_
  refine wc_region ?_
  refine wl_val (at_move rfl) rfl ?_
  refine wl_val (at_move rfl) rfl ?_
  refine wl_val (at_lenS Try.underlying9 rfl) rfl ?_
  refine wl_val (at_lss rfl rfl) rfl ?_
  refine wl_nil ?_
  refine wk_prune [(0, .string a0), (3, .int .i64 s3.1), (4, .int .i64 s3.2), (8, .bool (decide (s3.2 < (a0.size : Int))))] ⟨rfl, rfl, rfl, rfl, trivial⟩ (fun f1 => ?_)
  refine wk_then ?_
  refine wc_cond rfl h (fun h => ?_) (fun h => ?_)
  · refine wc_skip ?_
    refine wk_prune [(0, .string a0), (3, .int .i64 s3.1), (4, .int .i64 s3.2)] ⟨rfl, rfl, rfl, trivial⟩ (fun f1 => ?_)
    refine wk_then ?_
    refine wc_seq ?_
    refine wc_join (w0 := w0) (fun (s8 : Int) => [(0, .string a0), (3, .int .i64 s8), (4, .int .i64 s3.2)]) h ?_ ?_
    · rintro s8 w9 f1 h so; refine wk_then ?_
      refine wc_region ?_
      refine wl_val (at_move rfl) rfl ?_
      refine wl_val (at_add rfl rfl) rfl ?_
      refine wl_val (at_assign rfl) rfl ?_
      refine wl_nil ?_
      exact wk_again ⟨(s8, (IntKind.wrap .i64 (s3.2 + 1))), _, ac_again ⟨rfl, rfl, rfl, trivial⟩, so, h⟩
    · intro J7 h hJ7
      refine wc_block ?_
      refine wc_seq ?_
      refine wc_region ?_
      refine wl_val (at_move rfl) rfl ?_
      refine wl_val (at_mul rfl rfl) rfl ?_
      refine wl_val (at_assign rfl) rfl ?_
      refine wl_nil ?_
      refine wk_prune [(0, .string a0), (3, .int .i64 (IntKind.wrap .i64 ((2 : Int) * s3.1))), (4, .int .i64 s3.2)] ⟨rfl, rfl, rfl, trivial⟩ (fun f1 => ?_)
      refine wk_then ?_
      refine wc_seq ?_
      refine wc_region ?_
      refine wl_val (at_move rfl) rfl ?_
      refine wl_val (at_move rfl) rfl ?_
      obtain ⟨q10, q11, h⟩ := h
      refine wl_val (at_ixS Try.underlying9 rfl rfl q10 q11) rfl ?_
      refine wl_val (at_eql rfl rfl) rfl ?_
      refine wl_nil ?_
      refine wk_prune [(0, .string a0), (3, .int .i64 (IntKind.wrap .i64 ((2 : Int) * s3.1))), (4, .int .i64 s3.2), (16, .bool ((bt a0 s3.2) == 49))] ⟨rfl, rfl, rfl, rfl, trivial⟩ (fun f1 => ?_)
      refine wk_then ?_
      refine wc_cond rfl h (fun h => ?_) (fun h => ?_)
      · refine wc_region ?_
        refine wl_val (at_move rfl) rfl ?_
        refine wl_val (at_add rfl rfl) rfl ?_
        refine wl_val (at_assign rfl) rfl ?_
        obtain ⟨x12, e13⟩ : ∃ x : Int, x = (IntKind.wrap .i64 ((IntKind.wrap .i64 ((2 : Int) * s3.1)) + 1)) := ⟨_, rfl⟩; replace h := h x12 e13
        refine wl_set (t := 3) (v := .int .i64 x12) (congrArg (Value.int .i64) e13.symm) ?_
        refine wl_nil ?_
        refine wk_blkN ?_
        exact wk_prune [(0, .string a0), (3, .int .i64 x12), (4, .int .i64 s3.2)] ⟨rfl, rfl, rfl, trivial⟩ (fun f1 => hJ7 (x12) _ f1 h so)
      · refine wc_skip ?_
        refine wk_blkN ?_
        exact wk_prune [(0, .string a0), (3, .int .i64 (IntKind.wrap .i64 ((2 : Int) * s3.1))), (4, .int .i64 s3.2)] ⟨rfl, rfl, rfl, trivial⟩ (fun f1 => hJ7 ((IntKind.wrap .i64 ((2 : Int) * s3.1))) _ f1 h so)
  · refine wc_exit ?_
    refine wk_thenE ?_
    refine wk_thenE ?_
    refine wk_blkE ?_
    refine wk_prune [(3, .int .i64 s3.1)] ⟨rfl, trivial⟩ (fun f1 => ?_)
    refine wk_then ?_
    refine wc_seq ?_
    refine wc_region ?_
    refine wl_val (at_move rfl) rfl ?_
    refine wl_val (at_assign rfl) rfl ?_
    refine wl_nil ?_
    refine wk_prune [(2, .int .i64 s3.1)] ⟨rfl, trivial⟩ (fun f1 => ?_)
    refine wk_then ?_
    refine wc_ret ?_
    exact wk_ret1 (x := s3.1) rfl (by decide) rfl so h

/-- (*mosaic/mosaicref04.Table).Code -/
def mosaicref04_Table_Code.enc : Int × Int → Value := fun r => .tuple #[.int .u16 r.1, .int .i64 r.2]
def mosaicref04_Table_Code.s (a0 : Option Addr) (a1 : Int) (H0 : Hp) (Q : (Int × Int) → Hp → Prop) : Prop :=
  mosaicref04_Table_Text.s a0 a1 H0 (fun x1 H2 => mosaicref04_Number.s x1 H2 (fun x3 H4 => Q ((IntKind.wrap .u16 x3), (x1.size : Int)) H4))
set_option maxRecDepth 20000 in
set_option maxHeartbeats 4000000 in
theorem mosaicref04_Table_Code.calls (a0 : Option Addr) (a1 : Int) (w0 : World) (Q : (Int × Int) → Hp → Prop) (h : mosaicref04_Table_Code.s a0 a1 w0.heap Q) :
    Ca Try.prog 50 #[.pointer a0, .int .u8 a1] w0 (Rt mosaicref04_Table_Code.enc Q w0) := by
  refine ca_start (c := _) Try.func50 rfl Try.ntmps50 rfl ?_
  have so : Sm w0 w0 := Sm.refl w0
  unfold mosaicref04_Table_Code.s at h
  refine wc_prune [(0, .pointer a0), (1, .int .u8 a1)] ⟨rfl, rfl, trivial⟩ (fun f1 => ?_)
  refine wc_seq ?_
  refine wc_region ?_
  refine wl_val (at_assign rfl) rfl ?_
  refine wl_val (at_assign rfl) rfl ?_
  refine wl_nil ?_
  refine wk_prune [(0, .pointer a0), (1, .int .u8 a1)] ⟨rfl, rfl, trivial⟩ (fun f1 => ?_)
  refine wk_then ?_
  refine wc_seq ?_
  refine wc_region ?_
  refine wl_val (at_move rfl) rfl ?_
  refine wl_val (at_move rfl) rfl ?_
  refine wl_callF (mosaicref04_Table_Text.calls _ _ _ _ h) enter51 rfl trivial so ?_; intro x1 w2 h so
  refine wl_val (at_assign rfl) rfl ?_
  refine wl_nil ?_
  refine wk_prune [(6, .string x1)] ⟨rfl, trivial⟩ (fun f1 => ?_)
  refine wk_then ?_
  refine wc_seq ?_
  refine wc_region ?_
  refine wl_val (at_move rfl) rfl ?_
  refine wl_callF (mosaicref04_Number.calls _ _ _ h) enter53 rfl trivial so ?_; intro x3 w4 h so
  refine wl_val (at_conv Try.underlying3 Try.underlying63 rfl) rfl ?_
  refine wl_val (at_move rfl) rfl ?_
  refine wl_val (at_lenS Try.underlying9 rfl) rfl ?_
  refine wl_val (at_assign rfl) rfl ?_
  refine wl_val (at_assign rfl) rfl ?_
  refine wl_nil ?_
  refine wk_prune [(4, .int .u16 (IntKind.wrap .u16 x3)), (5, .int .i64 (x1.size : Int))] ⟨rfl, rfl, trivial⟩ (fun f1 => ?_)
  refine wk_then ?_
  refine wc_ret ?_
  exact wk_ret2 (x := ((IntKind.wrap .u16 x3), (x1.size : Int))) rfl (by decide) (by decide) rfl so h

/-- (*mosaic/mosaicref04.Table).Write -/
def mosaicref04_Table_Write.enc : Bool → Value := fun r => .bool r
def mosaicref04_Table_Write.s (a0 : Option Addr) (a1 : Option Addr) (a2 : Int) (H0 : Hp) (Q : Bool → Hp → Prop) : Prop :=
  mosaicref04_Table_Text.s a0 a2 H0 (fun x1 H2 => Join (fun (s4 : Bool) (H5 : Hp) => if s4 = true then (Q false H5) else (mosaicref04_Number.s x1 H5 (fun x6 H7 => mosaicref01_Sink_Put.s a1 x6 (x1.size : Int) H7 (fun x8 H9 => Q x8 H9)))) (fun (J3 : Bool → Hp → Prop) => if a1.isNone = true then (J3 (true) H2) else (J3 ((x1.toList == (⟨#[]⟩ : ByteArray).toList)) H2)))
set_option maxRecDepth 20000 in
set_option maxHeartbeats 4000000 in
theorem mosaicref04_Table_Write.calls (a0 : Option Addr) (a1 : Option Addr) (a2 : Int) (w0 : World) (Q : Bool → Hp → Prop) (h : mosaicref04_Table_Write.s a0 a1 a2 w0.heap Q) :
    Ca Try.prog 23 #[.pointer a0, .pointer a1, .int .u8 a2] w0 (Rt mosaicref04_Table_Write.enc Q w0) := by
  refine ca_start (c := _) Try.func23 rfl Try.ntmps23 rfl ?_
  have so : Sm w0 w0 := Sm.refl w0
  unfold mosaicref04_Table_Write.s at h
  refine wc_prune [(0, .pointer a0), (1, .pointer a1), (2, .int .u8 a2)] ⟨rfl, rfl, rfl, trivial⟩ (fun f1 => ?_)
  refine wc_seq ?_
  refine wc_region ?_
  refine wl_val (at_assign rfl) rfl ?_
  refine wl_nil ?_
  refine wk_prune [(0, .pointer a0), (1, .pointer a1), (2, .int .u8 a2)] ⟨rfl, rfl, rfl, trivial⟩ (fun f1 => ?_)
  refine wk_then ?_
  refine wc_seq ?_
  refine wc_region ?_
  refine wl_val (at_move rfl) rfl ?_
  refine wl_val (at_move rfl) rfl ?_
  refine wl_callF (mosaicref04_Table_Text.calls _ _ _ _ h) enter51 rfl trivial so ?_; intro x1 w2 h so
  refine wl_val (at_assign rfl) rfl ?_
  refine wl_nil ?_
  refine wk_prune [(1, .pointer a1), (7, .string x1)] ⟨rfl, rfl, trivial⟩ (fun f1 => ?_)
  refine wk_then ?_
  refine wc_seq ?_
  refine wc_seq ?_
  refine wc_join (w0 := w0) (fun (s4 : Bool) => [(1, .pointer a1), (7, .string x1), (16, .bool s4)]) h ?_ ?_
  · rintro s4 w5 f1 h so; refine wk_then ?_
    refine wc_cond rfl h (fun h => ?_) (fun h => ?_)
    · refine wc_seq ?_
      refine wc_region ?_
      refine wl_val (at_assign rfl) rfl ?_
      refine wl_nil ?_
      refine wk_prune [(6, .bool false)] ⟨rfl, trivial⟩ (fun f1 => ?_)
      refine wk_then ?_
      refine wc_ret ?_
      refine wk_thenR ?_
      exact wk_ret1 (x := false) rfl (by decide) rfl so h
    · refine wc_skip ?_
      refine wk_prune [(1, .pointer a1), (7, .string x1)] ⟨rfl, rfl, trivial⟩ (fun f1 => ?_)
      refine wk_then ?_
      refine wc_seq ?_
      refine wc_region ?_
      refine wl_val (at_move rfl) rfl ?_
      refine wl_val (at_move rfl) rfl ?_
      refine wl_callF (mosaicref04_Number.calls _ _ _ h) enter53 rfl trivial so ?_; intro x6 w7 h so
      refine wl_val (at_move rfl) rfl ?_
      refine wl_val (at_lenS Try.underlying9 rfl) rfl ?_
      refine wl_callF (mosaicref01_Sink_Put.calls _ _ _ _ _ h) enter52 rfl trivial so ?_; intro x8 w9 h so
      refine wl_val (at_assign rfl) rfl ?_
      refine wl_nil ?_
      refine wk_prune [(6, .bool x8)] ⟨rfl, trivial⟩ (fun f1 => ?_)
      refine wk_then ?_
      refine wc_ret ?_
      exact wk_ret1 (x := x8) rfl (by decide) rfl so h
  · intro J3 h hJ3
    refine wc_region ?_
    refine wl_val (at_move rfl) rfl ?_
    refine wl_val (at_eqlP Try.underlying42 rfl rfl) rfl ?_
    refine wl_val (at_move rfl) rfl ?_
    refine bif_ h (fun hb h => ?_) (fun hb h => ?_)
    · refine wl_set (t := 13) (v := .bool true) (congrArg Value.bool hb) ?_; clear hb
      refine wl_off (t := 13) rfl (by decide) rfl ?_
      refine wl_off (t := 13) rfl (by decide) rfl ?_
      refine wl_val (at_pick_t rfl rfl) rfl ?_
      refine wl_nil ?_
      exact wk_prune [(1, .pointer a1), (7, .string x1), (16, .bool true)] ⟨rfl, rfl, rfl, trivial⟩ (fun f1 => hJ3 (true) _ f1 h so)
    · refine wl_set (t := 13) (v := .bool false) (congrArg Value.bool hb) ?_; clear hb
      refine wl_on (t := 13) rfl (by decide) rfl ?_
      refine wl_val (at_move rfl) rfl ?_
      refine wl_on (t := 13) rfl (by decide) rfl ?_
      refine wl_val (at_eqlS rfl rfl) rfl ?_
      refine wl_val (at_pick_f rfl rfl) rfl ?_
      refine wl_nil ?_
      exact wk_prune [(1, .pointer a1), (7, .string x1), (16, .bool (x1.toList == (⟨#[]⟩ : ByteArray).toList))] ⟨rfl, rfl, rfl, trivial⟩ (fun f1 => hJ3 ((x1.toList == (⟨#[]⟩ : ByteArray).toList)) _ f1 h so)

/-- mosaic/mosaicref04.begins -/
def mosaicref04_begins.enc : Bool → Value := fun r => .bool r
def mosaicref04_begins.s (a0 : ByteArray) (a1 : ByteArray) (H0 : Hp) (Q : Bool → Hp → Prop) : Prop :=
  if decide ((a0.size : Int) ≤ (a1.size : Int)) = true then (0 ≤ (a0.size : Int) ∧ (a0.size : Int) ≤ (a1.size : Int) ∧ (Q ((a1.extract 0 (Int.toNat (a0.size : Int))).toList == a0.toList) H0)) else (Q false H0)
set_option maxRecDepth 20000 in
set_option maxHeartbeats 4000000 in
theorem mosaicref04_begins.calls (a0 : ByteArray) (a1 : ByteArray) (w0 : World) (Q : Bool → Hp → Prop) (h : mosaicref04_begins.s a0 a1 w0.heap Q) :
    Ca Try.prog 61 #[.string a0, .string a1] w0 (Rt mosaicref04_begins.enc Q w0) := by
  refine ca_start (c := _) Try.func61 rfl Try.ntmps61 rfl ?_
  have so : Sm w0 w0 := Sm.refl w0
  unfold mosaicref04_begins.s at h
  refine wc_prune [(0, .string a0), (1, .string a1)] ⟨rfl, rfl, trivial⟩ (fun f1 => ?_)
  refine wc_seq ?_
  refine wc_region ?_
  refine wl_val (at_assign rfl) rfl ?_
  refine wl_nil ?_
  refine wk_prune [(0, .string a0), (1, .string a1)] ⟨rfl, rfl, trivial⟩ (fun f1 => ?_)
  refine wk_then ?_
  refine wc_seq ?_
  refine wc_region ?_
  refine wl_val (at_move rfl) rfl ?_
  refine wl_val (at_lenS Try.underlying9 rfl) rfl ?_
  refine wl_val (at_move rfl) rfl ?_
  refine wl_val (at_lenS Try.underlying9 rfl) rfl ?_
  refine wl_val (at_leq rfl rfl) rfl ?_
  refine wl_val (at_move rfl) rfl ?_
  refine bif_ h (fun hb h => ?_) (fun hb h => ?_)
  · refine wl_set (t := 10) (v := .bool true) (congrArg Value.bool hb) ?_; clear hb
    refine wl_on (t := 10) rfl (by decide) rfl ?_
    refine wl_val (at_move rfl) rfl ?_
    refine wl_on (t := 10) rfl (by decide) rfl ?_
    refine wl_val (at_move rfl) rfl ?_
    refine wl_on (t := 10) rfl (by decide) rfl ?_
    refine wl_val (at_lenS Try.underlying9 rfl) rfl ?_
    refine wl_on (t := 10) rfl (by decide) rfl ?_
    obtain ⟨q1, q2, h⟩ := h
    refine wl_val (at_subSh Try.underlying9 rfl rfl q1 q2) rfl ?_
    refine wl_on (t := 10) rfl (by decide) rfl ?_
    refine wl_val (at_move rfl) rfl ?_
    refine wl_on (t := 10) rfl (by decide) rfl ?_
    refine wl_val (at_eqlS rfl rfl) rfl ?_
    refine wl_val (at_pick_t rfl rfl) rfl ?_
    refine wl_val (at_assign rfl) rfl ?_
    refine wl_nil ?_
    refine wk_prune [(4, .bool ((a1.extract 0 (Int.toNat (a0.size : Int))).toList == a0.toList))] ⟨rfl, trivial⟩ (fun f1 => ?_)
    refine wk_then ?_
    refine wc_ret ?_
    exact wk_ret1 (x := ((a1.extract 0 (Int.toNat (a0.size : Int))).toList == a0.toList)) rfl (by decide) rfl so h
  · refine wl_set (t := 10) (v := .bool false) (congrArg Value.bool hb) ?_; clear hb
    refine wl_off (t := 10) rfl (by decide) rfl ?_
    refine wl_off (t := 10) rfl (by decide) rfl ?_
    refine wl_off (t := 10) rfl (by decide) rfl ?_
    refine wl_off (t := 10) rfl (by decide) rfl ?_
    refine wl_off (t := 10) rfl (by decide) rfl ?_
    refine wl_off (t := 10) rfl (by decide) rfl ?_
    refine wl_val (at_pick_f rfl rfl) rfl ?_
    refine wl_val (at_assign rfl) rfl ?_
    refine wl_nil ?_
    refine wk_prune [(4, .bool false)] ⟨rfl, trivial⟩ (fun f1 => ?_)
    refine wk_then ?_
    refine wc_ret ?_
    exact wk_ret1 (x := false) rfl (by decide) rfl so h

/-- (*mosaic/mosaicref04.Table).Read -/
def mosaicref04_Table_Read.enc : Int × Int → Value := fun r => .tuple #[.int .u8 r.1, .int .i64 r.2]
def mosaicref04_Table_Read.s (a0 : Option Addr) (a1 : Option Addr) (H0 : Hp) (Q : (Int × Int) → Hp → Prop) : Prop :=
  if a1.isNone = true then (Q (0, 2) H0) else (∃ k1, Fix (fun (rec6 : (ByteArray × Int) → Hp → Prop) (s3 : ByteArray × Int) (H4 : Hp) => Join (fun (s8 : Bool) (H9 : Hp) => if s8 = true then (Join (fun (s11 : ByteArray) (H12 : Hp) => rec6 (s11, (IntKind.wrap .i64 (s3.2 + 1))) H12) (fun (J10 : ByteArray → Hp → Prop) => someA a1 (fun p13 => ldL H9 (p13.add 0) (fun x15 => 0 ≤ s3.2 ∧ s3.2 < (x15.n : Int) ∧ someA x15.a (fun p19 => ldB H9 ((p19.add (Int.toNat s3.2 * 2)).add 0) (fun x21 => if x21 = true then (s3.1.size + (⟨#[49]⟩ : ByteArray).size ≤ 9223372036854775807 ∧ (J10 ((s3.1 ++ (⟨#[49]⟩ : ByteArray))) H9)) else (s3.1.size + (⟨#[48]⟩ : ByteArray).size ≤ 9223372036854775807 ∧ (J10 ((s3.1 ++ (⟨#[48]⟩ : ByteArray))) H9)))))))) else (∃ k25, Fix (fun (rec30 : Int → Hp → Prop) (s27 : Int) (H28 : Hp) => someA a0 (fun p31 => ldL H28 (p31.add 1) (fun x33 => if decide (s27 < (x33.n : Int)) = true then (ldL H28 (p31.add 1) (fun x35 => 0 ≤ s27 ∧ s27 < (x35.n : Int) ∧ someA x35.a (fun p39 => ldS H28 (p39.add (Int.toNat s27 * 1)) (fun x41 => mosaicref04_begins.s x41 s3.1 H28 (fun x43 H44 => if x43 = true then (ldL H44 (p31.add 1) (fun x45 => 0 ≤ s27 ∧ s27 < (x45.n : Int) ∧ someA x45.a (fun p49 => ldS H44 (p49.add (Int.toNat s27 * 1)) (fun x51 => mosaicref01_Source_Skip.s a1 (x51.size : Int) H44 (fun x53 H54 => ldL H54 (p31.add 0) (fun x55 => 0 ≤ s27 ∧ s27 < (x55.n : Int) ∧ someA x55.a (fun p59 => ldI .u8 H54 (p59.add (Int.toNat s27 * 1)) (fun x61 => Q (x61, 0) H54)))))))) else (rec30 ((IntKind.wrap .i64 (s27 + 1))) H44)))))) else (∃ k63, Fix (fun (rec68 : Int → Hp → Prop) (s65 : Int) (H66 : Hp) => ldL H66 (p31.add 1) (fun x69 => if decide (s65 < (x69.n : Int)) = true then (Join (fun (s72 : Bool) (H73 : Hp) => if s72 = true then (Q (0, 44) H73) else (rec68 ((IntKind.wrap .i64 (s65 + 1))) H73)) (fun (J71 : Bool → Hp → Prop) => if decide ((s3.1.size : Int) < 16) = true then (ldL H66 (p31.add 1) (fun x74 => 0 ≤ s65 ∧ s65 < (x74.n : Int) ∧ someA x74.a (fun p78 => ldS H66 (p78.add (Int.toNat s65 * 1)) (fun x80 => mosaicref04_begins.s s3.1 x80 H66 (fun x82 H83 => J71 (x82) H83))))) else (J71 (false) H66))) else (Q (0, 43) H66))) k63 (0) H28)))) k25 (0) H9)) (fun (J7 : Bool → Hp → Prop) => someA a1 (fun p84 => ldL H4 (p84.add 0) (fun x86 => if decide (s3.2 < (x86.n : Int)) = true then (J7 ((decide (s3.2 < 16))) H4) else (J7 (false) H4))))) k1 ((⟨#[]⟩ : ByteArray), 0) H0)
set_option maxRecDepth 20000 in
set_option maxHeartbeats 4000000 in
theorem mosaicref04_Table_Read.calls (a0 : Option Addr) (a1 : Option Addr) (w0 : World) (Q : (Int × Int) → Hp → Prop) (h : mosaicref04_Table_Read.s a0 a1 w0.heap Q) :
    Ca Try.prog 35 #[.pointer a0, .pointer a1] w0 (Rt mosaicref04_Table_Read.enc Q w0) := by
  refine ca_start (c := _) Try.func35 rfl Try.ntmps35 rfl ?_
  have so : Sm w0 w0 := Sm.refl w0
  unfold mosaicref04_Table_Read.s at h
  refine wc_prune [(0, .pointer a0), (1, .pointer a1)] ⟨rfl, rfl, trivial⟩ (fun f1 => ?_)
  refine wc_seq ?_
  refine wc_region ?_
  refine wl_val (at_assign rfl) rfl ?_
  refine wl_val (at_assign rfl) rfl ?_
  refine wl_nil ?_
  refine wk_prune [(0, .pointer a0), (1, .pointer a1)] ⟨rfl, rfl, trivial⟩ (fun f1 => ?_)
  refine wk_then ?_
  refine wc_seq ?_
  refine wc_seq ?_
  refine wc_region ?_
  refine wl_val (at_move rfl) rfl ?_
  refine wl_val (at_eqlP Try.underlying53 rfl rfl) rfl ?_
  refine wl_nil ?_
  refine wk_prune [(0, .pointer a0), (1, .pointer a1), (11, .bool a1.isNone)] ⟨rfl, rfl, rfl, trivial⟩ (fun f1 => ?_)
  refine wk_then ?_
  refine wc_cond rfl h (fun h => ?_) (fun h => ?_)
  · refine wc_seq ?_
    refine wc_region ?_
    refine wl_val (at_assign rfl) rfl ?_
    refine wl_val (at_assign rfl) rfl ?_
    refine wl_nil ?_
    refine wk_prune [(4, .int .u8 0), (5, .int .i64 2)] ⟨rfl, rfl, trivial⟩ (fun f1 => ?_)
    refine wk_then ?_
    refine wc_ret ?_
    refine wk_thenR ?_
    exact wk_ret2 (x := (0, 2)) rfl (by decide) (by decide) rfl so h
  · refine wc_skip ?_
    refine wk_prune [(0, .pointer a0), (1, .pointer a1)] ⟨rfl, rfl, trivial⟩ (fun f1 => ?_)
    refine wk_then ?_
    refine wc_seq ?_
    refine wc_region ?_
    refine wl_val (at_assign rfl) rfl ?_
    refine wl_nil ?_
    refine wk_prune [(0, .pointer a0), (1, .pointer a1), (6, .string (⟨#[]⟩ : ByteArray))] ⟨rfl, rfl, rfl, trivial⟩ (fun f1 => ?_)
    refine wk_then ?_
    refine wc_seq ?_
    refine wc_seq ?_
    refine wc_region ?_
    refine wl_val (at_assign rfl) rfl ?_
    refine wl_nil ?_
    refine wk_prune [(0, .pointer a0), (1, .pointer a1), (6, .string (⟨#[]⟩ : ByteArray)), (7, .int .i64 0)] ⟨rfl, rfl, rfl, rfl, trivial⟩ (fun f1 => ?_)
    refine wk_then ?_
    refine wc_block ?_
    obtain ⟨k1, h⟩ := h
    refine wc_loop (fun k a w => ∃ (s3 : ByteArray × Int) (f1 : Nat → Value), a = ac 95 (en f1 [(0, .pointer a0), (1, .pointer a1), (6, .string s3.1), (7, .int .i64 s3.2)]) [] ∧ Sm w0 w ∧ Fix _ k s3 w.heap) k1 ⟨((⟨#[]⟩ : ByteArray), 0), _, ac_again ⟨rfl, rfl, rfl, rfl, trivial⟩, so, h⟩ ?_
    rintro k2 a5 w4 ⟨s3, f1, rfl, so, h⟩
    rcases k2 with _ | k2
    · exact h.elim
    replace h := Fix.un h; refine wc_in ?_
    refine wc_seq ?_
    refine wc_seq ?_
    refine wc_join (w0 := w0) (fun (s8 : Bool) => [(0, .pointer a0), (1, .pointer a1), (6, .string s3.1), (7, .int .i64 s3.2), (22, .bool s8)]) h ?_ ?_
    · rintro s8 w9 f1 h so; refine wk_then ?_
      refine wc_cond rfl h (fun h => ?_) (fun h => ?_)
      · refine wc_skip ?_
        refine wk_prune [(0, .pointer a0), (1, .pointer a1), (6, .string s3.1), (7, .int .i64 s3.2)] ⟨rfl, rfl, rfl, rfl, trivial⟩ (fun f1 => ?_)
        refine wk_then ?_
        refine wc_seq ?_
        refine wc_join (w0 := w0) (fun (s11 : ByteArray) => [(0, .pointer a0), (1, .pointer a1), (6, .string s11), (7, .int .i64 s3.2)]) h ?_ ?_
        · rintro s11 w12 f1 h so; refine wk_then ?_
          refine wc_region ?_
          refine wl_val (at_move rfl) rfl ?_
          refine wl_val (at_add rfl rfl) rfl ?_
          refine wl_val (at_assign rfl) rfl ?_
          refine wl_nil ?_
          exact wk_again ⟨(s11, (IntKind.wrap .i64 (s3.2 + 1))), _, ac_again ⟨rfl, rfl, rfl, rfl, trivial⟩, so, h⟩
        · intro J10 h hJ10
          refine wc_block ?_
          refine wc_seq ?_
          refine wc_region ?_
          refine wl_val (at_move rfl) rfl ?_
          obtain ⟨p13, q14, h⟩ := h
          refine wl_val (at_nilCheck (congrArg Value.pointer q14)) rfl ?_
          refine wl_val (at_fieldAddr Try.underlying107 rfl rfl sz103 (by decide) rfl) rfl ?_
          obtain ⟨x15, q16, h⟩ := h
          refine wl_val (at_load Try.underlying103 rfl rfl q16) rfl ?_
          refine wl_val (at_move rfl) rfl ?_
          obtain ⟨q17, q18, p19, q20, h⟩ := h
          refine wl_val (at_ixAddrL Try.underlying103 sz109 (sl_some q20) rfl q17 q18) rfl ?_
          refine wl_val (at_fieldAddr Try.underlying109 rfl rfl sz4 (by decide) rfl) rfl ?_
          obtain ⟨x21, q22, h⟩ := h
          refine wl_val (at_load Try.underlying4 rfl rfl q22) rfl ?_
          refine wl_nil ?_
          refine wk_prune [(0, .pointer a0), (1, .pointer a1), (6, .string s3.1), (7, .int .i64 s3.2), (32, .bool x21)] ⟨rfl, rfl, rfl, rfl, rfl, trivial⟩ (fun f1 => ?_)
          refine wk_then ?_
          refine wc_cond rfl h (fun h => ?_) (fun h => ?_)
          · refine wc_region ?_
            refine wl_val (at_move rfl) rfl ?_
            obtain ⟨q23, h⟩ := h
            refine wl_val (at_cat rfl rfl q23) rfl ?_
            refine wl_val (at_assign rfl) rfl ?_
            refine wl_nil ?_
            refine wk_blkN ?_
            exact wk_prune [(0, .pointer a0), (1, .pointer a1), (6, .string (s3.1 ++ (⟨#[49]⟩ : ByteArray))), (7, .int .i64 s3.2)] ⟨rfl, rfl, rfl, rfl, trivial⟩ (fun f1 => hJ10 ((s3.1 ++ (⟨#[49]⟩ : ByteArray))) _ f1 h so)
          · refine wc_region ?_
            refine wl_val (at_move rfl) rfl ?_
            obtain ⟨q24, h⟩ := h
            refine wl_val (at_cat rfl rfl q24) rfl ?_
            refine wl_val (at_assign rfl) rfl ?_
            refine wl_nil ?_
            refine wk_blkN ?_
            exact wk_prune [(0, .pointer a0), (1, .pointer a1), (6, .string (s3.1 ++ (⟨#[48]⟩ : ByteArray))), (7, .int .i64 s3.2)] ⟨rfl, rfl, rfl, rfl, trivial⟩ (fun f1 => hJ10 ((s3.1 ++ (⟨#[48]⟩ : ByteArray))) _ f1 h so)
      · refine wc_exit ?_
        refine wk_thenE ?_
        refine wk_thenE ?_
        refine wk_blkE ?_
        refine wk_prune [(0, .pointer a0), (1, .pointer a1), (6, .string s3.1)] ⟨rfl, rfl, rfl, trivial⟩ (fun f1 => ?_)
        refine wk_then ?_
        refine wc_seq ?_
        refine wc_seq ?_
        refine wc_region ?_
        refine wl_val (at_assign rfl) rfl ?_
        refine wl_nil ?_
        refine wk_prune [(0, .pointer a0), (1, .pointer a1), (6, .string s3.1), (8, .int .i64 0)] ⟨rfl, rfl, rfl, rfl, trivial⟩ (fun f1 => ?_)
        refine wk_then ?_
        refine wc_block ?_
        obtain ⟨k25, h⟩ := h
        refine wc_loop (fun k a w => ∃ (s27 : Int) (f1 : Nat → Value), a = ac 95 (en f1 [(0, .pointer a0), (1, .pointer a1), (6, .string s3.1), (8, .int .i64 s27)]) [] ∧ Sm w0 w ∧ Fix _ k s27 w.heap) k25 ⟨(0), _, ac_again ⟨rfl, rfl, rfl, rfl, trivial⟩, so, h⟩ ?_
        rintro k26 a29 w28 ⟨s27, f1, rfl, so, h⟩
        rcases k26 with _ | k26
        · exact h.elim
        replace h := Fix.un h; refine wc_in ?_
        refine wc_seq ?_
        refine wc_seq ?_
        refine wc_region ?_
        refine wl_val (at_move rfl) rfl ?_
        refine wl_val (at_move rfl) rfl ?_
        obtain ⟨p31, q32, h⟩ := h
        refine wl_val (at_nilCheck (congrArg Value.pointer q32)) rfl ?_
        refine wl_val (at_fieldAddr Try.underlying82 rfl rfl sz59 (by decide) rfl) rfl ?_
        obtain ⟨x33, q34, h⟩ := h
        refine wl_val (at_load Try.underlying59 rfl rfl q34) rfl ?_
        refine wl_val (at_lenL Try.underlying59 rfl) rfl ?_
        refine wl_val (at_lss rfl rfl) rfl ?_
        refine wl_nil ?_
        refine wk_prune [(0, .pointer a0), (1, .pointer a1), (6, .string s3.1), (8, .int .i64 s27), (43, .bool (decide (s27 < (x33.n : Int))))] ⟨rfl, rfl, rfl, rfl, rfl, trivial⟩ (fun f1 => ?_)
        refine wk_then ?_
        refine wc_cond rfl h (fun h => ?_) (fun h => ?_)
        · refine wc_skip ?_
          refine wk_prune [(0, .pointer a0), (1, .pointer a1), (6, .string s3.1), (8, .int .i64 s27)] ⟨rfl, rfl, rfl, rfl, trivial⟩ (fun f1 => ?_)
          refine wk_then ?_
          refine wc_seq ?_
          refine wc_block ?_
          refine wc_seq ?_
          refine wc_region ?_
          refine wl_val (at_move rfl) rfl ?_
          refine wl_val (at_nilCheck (congrArg Value.pointer q32)) rfl ?_
          refine wl_val (at_fieldAddr Try.underlying82 rfl rfl sz59 (by decide) rfl) rfl ?_
          obtain ⟨x35, q36, h⟩ := h
          refine wl_val (at_load Try.underlying59 rfl rfl q36) rfl ?_
          refine wl_val (at_move rfl) rfl ?_
          obtain ⟨q37, q38, p39, q40, h⟩ := h
          refine wl_val (at_ixAddrL Try.underlying59 sz9 (sl_some q40) rfl q37 q38) rfl ?_
          obtain ⟨x41, q42, h⟩ := h
          refine wl_val (at_load Try.underlying9 rfl rfl q42) rfl ?_
          refine wl_val (at_move rfl) rfl ?_
          refine wl_callF (mosaicref04_begins.calls _ _ _ _ h) enter61 rfl trivial so ?_; intro x43 w44 h so
          refine wl_nil ?_
          refine wk_prune [(0, .pointer a0), (1, .pointer a1), (6, .string s3.1), (8, .int .i64 s27), (54, .bool x43)] ⟨rfl, rfl, rfl, rfl, rfl, trivial⟩ (fun f1 => ?_)
          refine wk_then ?_
          refine wc_cond rfl h (fun h => ?_) (fun h => ?_)
          · refine wc_seq ?_
            refine wc_region ?_
            refine wl_val (at_move rfl) rfl ?_
            refine wl_val (at_move rfl) rfl ?_
            refine wl_val (at_nilCheck (congrArg Value.pointer q32)) rfl ?_
            refine wl_val (at_fieldAddr Try.underlying82 rfl rfl sz59 (by decide) rfl) rfl ?_
            obtain ⟨x45, q46, h⟩ := h
            refine wl_val (at_load Try.underlying59 rfl rfl q46) rfl ?_
            refine wl_val (at_move rfl) rfl ?_
            obtain ⟨q47, q48, p49, q50, h⟩ := h
            refine wl_val (at_ixAddrL Try.underlying59 sz9 (sl_some q50) rfl q47 q48) rfl ?_
            obtain ⟨x51, q52, h⟩ := h
            refine wl_val (at_load Try.underlying9 rfl rfl q52) rfl ?_
            refine wl_val (at_lenS Try.underlying9 rfl) rfl ?_
            refine wl_callF (mosaicref01_Source_Skip.calls _ _ _ _ h) enter34 rfl trivial so ?_; intro x53 w54 h so
            refine wl_nil ?_
            refine wk_prune [(0, .pointer a0), (8, .int .i64 s27)] ⟨rfl, rfl, trivial⟩ (fun f1 => ?_)
            refine wk_then ?_
            refine wc_seq ?_
            refine wc_region ?_
            refine wl_val (at_move rfl) rfl ?_
            refine wl_val (at_nilCheck (congrArg Value.pointer q32)) rfl ?_
            refine wl_val (at_fieldAddr Try.underlying82 rfl rfl sz23 (by decide) rfl) rfl ?_
            obtain ⟨x55, q56, h⟩ := h
            refine wl_val (at_load Try.underlying23 rfl rfl q56) rfl ?_
            refine wl_val (at_move rfl) rfl ?_
            obtain ⟨q57, q58, p59, q60, h⟩ := h
            refine wl_val (at_ixAddrL Try.underlying23 sz5 (sl_some q60) rfl q57 q58) rfl ?_
            obtain ⟨x61, q62, h⟩ := h
            refine wl_val (at_load Try.underlying5 rfl rfl q62) rfl ?_
            refine wl_val (at_assign rfl) rfl ?_
            refine wl_val (at_assign rfl) rfl ?_
            refine wl_nil ?_
            refine wk_prune [(4, .int .u8 x61), (5, .int .i64 0)] ⟨rfl, rfl, trivial⟩ (fun f1 => ?_)
            refine wk_then ?_
            refine wc_ret ?_
            refine wk_blkR ?_
            refine wk_thenR ?_
            refine wk_thenR ?_
            refine wk_blkR ?_
            refine wk_thenR ?_
            exact wk_ret2 (x := (x61, 0)) rfl (by decide) (by decide) rfl so h
          · refine wc_skip ?_
            refine wk_blkN ?_
            refine wk_prune [(0, .pointer a0), (1, .pointer a1), (6, .string s3.1), (8, .int .i64 s27)] ⟨rfl, rfl, rfl, rfl, trivial⟩ (fun f1 => ?_)
            refine wk_then ?_
            refine wc_region ?_
            refine wl_val (at_move rfl) rfl ?_
            refine wl_val (at_add rfl rfl) rfl ?_
            refine wl_val (at_assign rfl) rfl ?_
            refine wl_nil ?_
            exact wk_again ⟨((IntKind.wrap .i64 (s27 + 1))), _, ac_again ⟨rfl, rfl, rfl, rfl, trivial⟩, so, h⟩
        · refine wc_exit ?_
          refine wk_thenE ?_
          refine wk_thenE ?_
          refine wk_blkE ?_
          refine wk_prune [(0, .pointer a0), (6, .string s3.1)] ⟨rfl, rfl, trivial⟩ (fun f1 => ?_)
          refine wk_then ?_
          refine wc_seq ?_
          refine wc_seq ?_
          refine wc_region ?_
          refine wl_val (at_assign rfl) rfl ?_
          refine wl_nil ?_
          refine wk_prune [(0, .pointer a0), (6, .string s3.1), (9, .int .i64 0)] ⟨rfl, rfl, rfl, trivial⟩ (fun f1 => ?_)
          refine wk_then ?_
          refine wc_block ?_
          obtain ⟨k63, h⟩ := h
          refine wc_loop (fun k a w => ∃ (s65 : Int) (f1 : Nat → Value), a = ac 95 (en f1 [(0, .pointer a0), (6, .string s3.1), (9, .int .i64 s65)]) [] ∧ Sm w0 w ∧ Fix _ k s65 w.heap) k63 ⟨(0), _, ac_again ⟨rfl, rfl, rfl, trivial⟩, so, h⟩ ?_
          rintro k64 a67 w66 ⟨s65, f1, rfl, so, h⟩
          rcases k64 with _ | k64
          · exact h.elim
          replace h := Fix.un h; refine wc_in ?_
          refine wc_seq ?_
          refine wc_seq ?_
          refine wc_region ?_
          refine wl_val (at_move rfl) rfl ?_
          refine wl_val (at_move rfl) rfl ?_
          refine wl_val (at_nilCheck (congrArg Value.pointer q32)) rfl ?_
          refine wl_val (at_fieldAddr Try.underlying82 rfl rfl sz59 (by decide) rfl) rfl ?_
          obtain ⟨x69, q70, h⟩ := h
          refine wl_val (at_load Try.underlying59 rfl rfl q70) rfl ?_
          refine wl_val (at_lenL Try.underlying59 rfl) rfl ?_
          refine wl_val (at_lss rfl rfl) rfl ?_
          refine wl_nil ?_
          refine wk_prune [(0, .pointer a0), (6, .string s3.1), (9, .int .i64 s65), (78, .bool (decide (s65 < (x69.n : Int))))] ⟨rfl, rfl, rfl, rfl, trivial⟩ (fun f1 => ?_)
          refine wk_then ?_
          refine wc_cond rfl h (fun h => ?_) (fun h => ?_)
          · refine wc_skip ?_
            refine wk_prune [(0, .pointer a0), (6, .string s3.1), (9, .int .i64 s65)] ⟨rfl, rfl, rfl, trivial⟩ (fun f1 => ?_)
            refine wk_then ?_
            refine wc_seq ?_
            refine wc_block ?_
            refine wc_seq ?_
            refine wc_join (w0 := w0) (fun (s72 : Bool) => [(0, .pointer a0), (6, .string s3.1), (9, .int .i64 s65), (94, .bool s72)]) h ?_ ?_
            · rintro s72 w73 f1 h so; refine wk_then ?_
              refine wc_cond rfl h (fun h => ?_) (fun h => ?_)
              · refine wc_seq ?_
                refine wc_region ?_
                refine wl_val (at_assign rfl) rfl ?_
                refine wl_val (at_assign rfl) rfl ?_
                refine wl_nil ?_
                refine wk_prune [(4, .int .u8 0), (5, .int .i64 44)] ⟨rfl, rfl, trivial⟩ (fun f1 => ?_)
                refine wk_then ?_
                refine wc_ret ?_
                refine wk_blkR ?_
                refine wk_thenR ?_
                refine wk_thenR ?_
                refine wk_blkR ?_
                refine wk_thenR ?_
                exact wk_ret2 (x := (0, 44)) rfl (by decide) (by decide) rfl so h
              · refine wc_skip ?_
                refine wk_blkN ?_
                refine wk_prune [(0, .pointer a0), (6, .string s3.1), (9, .int .i64 s65)] ⟨rfl, rfl, rfl, trivial⟩ (fun f1 => ?_)
                refine wk_then ?_
                refine wc_region ?_
                refine wl_val (at_move rfl) rfl ?_
                refine wl_val (at_add rfl rfl) rfl ?_
                refine wl_val (at_assign rfl) rfl ?_
                refine wl_nil ?_
                exact wk_again ⟨((IntKind.wrap .i64 (s65 + 1))), _, ac_again ⟨rfl, rfl, rfl, trivial⟩, so, h⟩
            · intro J71 h hJ71
              refine wc_region ?_
              refine wl_val (at_move rfl) rfl ?_
              refine wl_val (at_lenS Try.underlying9 rfl) rfl ?_
              refine wl_val (at_lss rfl rfl) rfl ?_
              refine wl_val (at_move rfl) rfl ?_
              refine bif_ h (fun hb h => ?_) (fun hb h => ?_)
              · refine wl_set (t := 84) (v := .bool true) (congrArg Value.bool hb) ?_; clear hb
                refine wl_on (t := 84) rfl (by decide) rfl ?_
                refine wl_val (at_move rfl) rfl ?_
                refine wl_on (t := 84) rfl (by decide) rfl ?_
                refine wl_val (at_move rfl) rfl ?_
                refine wl_on (t := 84) rfl (by decide) rfl ?_
                refine wl_val (at_nilCheck (congrArg Value.pointer q32)) rfl ?_
                refine wl_on (t := 84) rfl (by decide) rfl ?_
                refine wl_val (at_fieldAddr Try.underlying82 rfl rfl sz59 (by decide) rfl) rfl ?_
                refine wl_on (t := 84) rfl (by decide) rfl ?_
                obtain ⟨x74, q75, h⟩ := h
                refine wl_val (at_load Try.underlying59 rfl rfl q75) rfl ?_
                refine wl_on (t := 84) rfl (by decide) rfl ?_
                refine wl_val (at_move rfl) rfl ?_
                refine wl_on (t := 84) rfl (by decide) rfl ?_
                obtain ⟨q76, q77, p78, q79, h⟩ := h
                refine wl_val (at_ixAddrL Try.underlying59 sz9 (sl_some q79) rfl q76 q77) rfl ?_
                refine wl_on (t := 84) rfl (by decide) rfl ?_
                obtain ⟨x80, q81, h⟩ := h
                refine wl_val (at_load Try.underlying9 rfl rfl q81) rfl ?_
                refine wl_on (t := 84) rfl (by decide) rfl ?_
                refine wl_callF (mosaicref04_begins.calls _ _ _ _ h) enter61 rfl trivial so ?_; intro x82 w83 h so
                refine wl_val (at_pick_t rfl rfl) rfl ?_
                refine wl_nil ?_
                exact wk_prune [(0, .pointer a0), (6, .string s3.1), (9, .int .i64 s65), (94, .bool x82)] ⟨rfl, rfl, rfl, rfl, trivial⟩ (fun f1 => hJ71 (x82) _ f1 h so)
              · refine wl_set (t := 84) (v := .bool false) (congrArg Value.bool hb) ?_; clear hb
                refine wl_off (t := 84) rfl (by decide) rfl ?_
                refine wl_off (t := 84) rfl (by decide) rfl ?_
                refine wl_off (t := 84) rfl (by decide) rfl ?_
                refine wl_off (t := 84) rfl (by decide) rfl ?_
                refine wl_off (t := 84) rfl (by decide) rfl ?_
                refine wl_off (t := 84) rfl (by decide) rfl ?_
                refine wl_off (t := 84) rfl (by decide) rfl ?_
                refine wl_off (t := 84) rfl (by decide) rfl ?_
                refine wl_off (t := 84) rfl (by decide) rfl ?_
                refine wl_val (at_pick_f rfl rfl) rfl ?_
                refine wl_nil ?_
                exact wk_prune [(0, .pointer a0), (6, .string s3.1), (9, .int .i64 s65), (94, .bool false)] ⟨rfl, rfl, rfl, rfl, trivial⟩ (fun f1 => hJ71 (false) _ f1 h so)
          · refine wc_exit ?_
            refine wk_thenE ?_
            refine wk_thenE ?_
            refine wk_blkE ?_
            refine wk_prune [] trivial (fun f1 => ?_)
            refine wk_then ?_
            refine wc_seq ?_
            refine wc_region ?_
            refine wl_val (at_assign rfl) rfl ?_
            refine wl_val (at_assign rfl) rfl ?_
            refine wl_nil ?_
            refine wk_prune [(4, .int .u8 0), (5, .int .i64 43)] ⟨rfl, rfl, trivial⟩ (fun f1 => ?_)
            refine wk_then ?_
            refine wc_ret ?_
            exact wk_ret2 (x := (0, 43)) rfl (by decide) (by decide) rfl so h
    · intro J7 h hJ7
      refine wc_region ?_
      refine wl_val (at_move rfl) rfl ?_
      refine wl_val (at_move rfl) rfl ?_
      obtain ⟨p84, q85, h⟩ := h
      refine wl_val (at_nilCheck (congrArg Value.pointer q85)) rfl ?_
      refine wl_val (at_fieldAddr Try.underlying107 rfl rfl sz103 (by decide) rfl) rfl ?_
      obtain ⟨x86, q87, h⟩ := h
      refine wl_val (at_load Try.underlying103 rfl rfl q87) rfl ?_
      refine wl_val (at_lenL Try.underlying103 rfl) rfl ?_
      refine wl_val (at_lss rfl rfl) rfl ?_
      refine wl_val (at_move rfl) rfl ?_
      refine bif_ h (fun hb h => ?_) (fun hb h => ?_)
      · refine wl_set (t := 19) (v := .bool true) (congrArg Value.bool hb) ?_; clear hb
        refine wl_on (t := 19) rfl (by decide) rfl ?_
        refine wl_val (at_move rfl) rfl ?_
        refine wl_on (t := 19) rfl (by decide) rfl ?_
        refine wl_val (at_lss rfl rfl) rfl ?_
        refine wl_val (at_pick_t rfl rfl) rfl ?_
        refine wl_nil ?_
        exact wk_prune [(0, .pointer a0), (1, .pointer a1), (6, .string s3.1), (7, .int .i64 s3.2), (22, .bool (decide (s3.2 < 16)))] ⟨rfl, rfl, rfl, rfl, rfl, trivial⟩ (fun f1 => hJ7 ((decide (s3.2 < 16))) _ f1 h so)
      · refine wl_set (t := 19) (v := .bool false) (congrArg Value.bool hb) ?_; clear hb
        refine wl_off (t := 19) rfl (by decide) rfl ?_
        refine wl_off (t := 19) rfl (by decide) rfl ?_
        refine wl_val (at_pick_f rfl rfl) rfl ?_
        refine wl_nil ?_
        exact wk_prune [(0, .pointer a0), (1, .pointer a1), (6, .string s3.1), (7, .int .i64 s3.2), (22, .bool false)] ⟨rfl, rfl, rfl, rfl, rfl, trivial⟩ (fun f1 => hJ7 (false) _ f1 h so)
end Go.Proofs.Ytbefacccdaafeaa.G
