import Derived.Test.YthblohaffipkhaaGF
import Derived.Test.YthblohaffipkhaaKmosaicref07
import Derived.Test.YthblohaffipkhaaKruns
namespace Go.Proofs.Ythblohaffipkhaa.G
open Go.RowKit
set_option linter.unusedVariables false
set_option linter.unusedSimpArgs false
/-- mosaic/mosaiclaw07.apart -/
def mosaiclaw07_apart.enc : Bool → Value := fun r => .bool r
def mosaiclaw07_apart.s (a0 : Sl) (a1 : Sl) (H0 : Hp) (Q : Bool → Hp → Prop) : Prop :=
  ∃ k1, Fix (fun (rec6 : Int → Hp → Prop) (s3 : Int) (H4 : Hp) => if decide (s3 < (a0.n : Int)) = true then (0 ≤ s3 ∧ s3 < (a0.n : Int) ∧ someA a0.a (fun p10 => 0 ≤ s3 ∧ s3 < (a1.n : Int) ∧ someA a1.a (fun p14 => ldL H4 (p10.add (Int.toNat s3 * 1)) (fun x16 => ldL H4 (p14.add (Int.toNat s3 * 1)) (fun x18 => mosaicref07_Same.s x16 x18 H4 (fun x20 H21 => if (!x20) = true then (Q false H21) else (rec6 ((IntKind.wrap .i64 (s3 + 1))) H21))))))) else (∃ k22, Fix (fun (rec27 : Int → Hp → Prop) (s24 : Int) (H25 : Hp) => if decide (s24 < (a0.n : Int)) = true then (∃ k28, Fix (fun (rec33 : Int → Hp → Prop) (s30 : Int) (H31 : Hp) => 0 ≤ s24 ∧ s24 < (a0.n : Int) ∧ someA a0.a (fun p36 => ldL H31 (p36.add (Int.toNat s24 * 1)) (fun x38 => if decide (s30 < (x38.n : Int)) = true then (0 ≤ s24 ∧ s24 < (a0.n : Int) ∧ (ldL H31 (p36.add (Int.toNat s24 * 1)) (fun x42 => 0 ≤ s30 ∧ s30 < (x42.n : Int) ∧ someA x42.a (fun p46 => stA H31 (p46.add (Int.toNat s30 * 3)) (c42 77 0 (IntKind.wrap .u16 s24)) (fun H48 => rec33 ((IntKind.wrap .i64 (s30 + 1))) H48))))) else (rec27 ((IntKind.wrap .i64 (s24 + 2))) H31)))) k28 (0) H25) else (∃ k49, Fix (fun (rec54 : (Sl × Int) → Hp → Prop) (s51 : Sl × Int) (H52 : Hp) => if decide (s51.2 < (a0.n : Int)) = true then (0 ≤ s51.2 ∧ s51.2 < (a0.n : Int) ∧ someA a0.a (fun p57 => ldL H52 (p57.add (Int.toNat s51.2 * 1)) (fun x59 => ∃ k61, Fix (fun (rec66 : (Sl × Int) → Hp → Prop) (s63 : Sl × Int) (H64 : Hp) => Join (fun (s68 : Bool) (H69 : Hp) => if s68 = true then (nw H69 42 (c42 78 0 (IntKind.wrap .u16 s51.2)) (fun p70 H71 => apS H71 s63.1 42 3 4 z42.cells 1 (c42 78 0 (IntKind.wrap .u16 s51.2)) (fun l75 H76 => rec66 (l75, (IntKind.wrap .i64 (s63.2 + 1))) H76))) else (nw H69 25 [.slice s63.1.a s63.1.n s63.1.c] (fun p77 H78 => apS H78 s51.1 25 1 24 z25.cells 1 [.slice s63.1.a s63.1.n s63.1.c] (fun l82 H83 => rec54 (l82, (IntKind.wrap .i64 (s51.2 + 1))) H83)))) (fun (J67 : Bool → Hp → Prop) => if decide (s63.2 < 70) = true then (J67 (((Int.tmod s51.2 2) == 0)) H64) else (J67 (false) H64))) k61 (x59, 0) H52))) else (∃ k84, Fix (fun (rec89 : Int → Hp → Prop) (s86 : Int) (H87 : Hp) => if decide (s86 < (a0.n : Int)) = true then (Join (fun (s91 : Unit) (H92 : Hp) => rec89 ((IntKind.wrap .i64 (s86 + 1))) H92) (fun (J90 : Unit → Hp → Prop) => if ((Int.tmod s86 2) == 1) = true then (0 ≤ s86 ∧ s86 < (a0.n : Int) ∧ someA a0.a (fun p96 => 0 ≤ s86 ∧ s86 < (a1.n : Int) ∧ someA a1.a (fun p100 => ldL H87 (p96.add (Int.toNat s86 * 1)) (fun x102 => ldL H87 (p100.add (Int.toNat s86 * 1)) (fun x104 => mosaicref07_Same.s x102 x104 H87 (fun x106 H107 => if (!x106) = true then (Q false H107) else (J90 () H107))))))) else (∃ k108, Fix (fun (rec113 : Int → Hp → Prop) (s110 : Int) (H111 : Hp) => 0 ≤ s86 ∧ s86 < (s51.1.n : Int) ∧ someA s51.1.a (fun p116 => ldL H111 (p116.add (Int.toNat s86 * 1)) (fun x118 => if decide (s110 < (x118.n : Int)) = true then (0 ≤ s86 ∧ s86 < (a0.n : Int) ∧ someA a0.a (fun p122 => ldL H111 (p122.add (Int.toNat s86 * 1)) (fun x124 => Gn [] H111 (fun (b126 : Nat) (H128 : Hp) => Bk H128 b126 42 (c42 77 0 (IntKind.wrap .u16 s86)) → (Join (fun (s130 : Unit) (H131 : Hp) => Join (fun (s133 : Bool) (H134 : Hp) => if s133 = true then (Q false H134) else (rec113 ((IntKind.wrap .i64 (s110 + 1))) H134)) (fun (J132 : Bool → Hp → Prop) => if decide (s110 < (x124.n : Int)) = true then (0 ≤ s86 ∧ s86 < (a0.n : Int) ∧ (ldL H131 (p122.add (Int.toNat s86 * 1)) (fun x138 => 0 ≤ s110 ∧ s110 < (x138.n : Int) ∧ someA x138.a (fun p142 => ∃ x144 : Int, ∃ x145 : Int, ∃ x146 : Int, ldA H131 (p142.add (Int.toNat s110 * 3)) (c42 x144 x145 x146) ∧ (∃ x148 : Int, ∃ x149 : Int, ∃ x150 : Int, ldA H131 (⟨b126, 0, none⟩ : Addr) (c42 x148 x149 x150) ∧ (if (!((x144 == x148) && ((x145 == x149) && (x146 == x150)))) = true then (J132 (true) H131) else (0 ≤ s86 ∧ s86 < (s51.1.n : Int) ∧ (ldL H131 (p116.add (Int.toNat s86 * 1)) (fun x154 => 0 ≤ s110 ∧ s110 < (x154.n : Int) ∧ someA x154.a (fun p158 => ∃ x160 : Int, ∃ x161 : Int, ∃ x162 : Int, ldA H131 (p158.add (Int.toNat s110 * 3)) (c42 x160 x161 x162) ∧ (∃ x164 : Int, ∃ x165 : Int, ∃ x166 : Int, ldA H131 (⟨b126, 0, none⟩ : Addr) (c42 x164 x165 x166) ∧ (J132 ((!((x160 == x164) && ((x161 == x165) && (x162 == x166))))) H131)))))))))))) else (0 ≤ s86 ∧ s86 < (s51.1.n : Int) ∧ (ldL H131 (p116.add (Int.toNat s86 * 1)) (fun x170 => 0 ≤ s110 ∧ s110 < (x170.n : Int) ∧ someA x170.a (fun p174 => ∃ x176 : Int, ∃ x177 : Int, ∃ x178 : Int, ldA H131 (p174.add (Int.toNat s110 * 3)) (c42 x176 x177 x178) ∧ (∃ x180 : Int, ∃ x181 : Int, ∃ x182 : Int, ldA H131 (⟨b126, 0, none⟩ : Addr) (c42 x180 x181 x182) ∧ (J132 ((!((x176 == x180) && ((x177 == x181) && (x178 == x182))))) H131)))))))) (fun (J129 : Unit → Hp → Prop) => if decide ((x124.n : Int) ≤ s110) = true then (st H128 (⟨b126, 0, none⟩ : Addr) (.int .u8 78) (fun H184 => J129 () H184)) else (J129 () H128))))))) else (J90 () H111)))) k108 (0) H87))) else (Q true H87)) k84 (0) H52)) k49 (⟨none, 0, 0⟩, 0) H25)) k22 (0) H4)) k1 (0) H0
set_option maxRecDepth 20000 in
set_option maxHeartbeats 4000000 in
theorem mosaiclaw07_apart.calls (a0 : Sl) (a1 : Sl) (w0 : World) (Q : Bool → Hp → Prop) (h : mosaiclaw07_apart.s a0 a1 w0.heap Q) :
    Ca Try.prog 12 #[.slice a0.a a0.n a0.c, .slice a1.a a1.n a1.c] w0 (Rt mosaiclaw07_apart.enc Q w0) := by
  refine ca_start (c := _) Try.func12 rfl Try.ntmps12 rfl ?_
  have so : Sm w0 w0 := Sm.refl w0
  unfold mosaiclaw07_apart.s at h
  refine wc_prune [(0, .slice a0.a a0.n a0.c), (1, .slice a1.a a1.n a1.c)] ⟨rfl, rfl, trivial⟩ (fun f1 => ?_)
  refine wc_seq ?_
  refine wc_region ?_
  refine wl_val (at_assign rfl) rfl ?_
  refine wl_nil ?_
  refine wk_prune [(0, .slice a0.a a0.n a0.c), (1, .slice a1.a a1.n a1.c)] ⟨rfl, rfl, trivial⟩ (fun f1 => ?_)
  refine wk_then ?_
  refine wc_seq ?_
  refine wc_seq ?_
  refine wc_region ?_
  refine wl_val (at_assign rfl) rfl ?_
  refine wl_nil ?_
  refine wk_prune [(0, .slice a0.a a0.n a0.c), (1, .slice a1.a a1.n a1.c), (5, .int .i64 0)] ⟨rfl, rfl, rfl, trivial⟩ (fun f1 => ?_)
  refine wk_then ?_
  refine wc_block ?_
  obtain ⟨k1, h⟩ := h
  refine wc_loop (fun k a w => ∃ (s3 : Int) (f1 : Nat → Value), a = ac 154 (en f1 [(0, .slice a0.a a0.n a0.c), (1, .slice a1.a a1.n a1.c), (5, .int .i64 s3)]) [] ∧ Sm w0 w ∧ Fix _ k s3 w.heap) k1 ⟨(0), _, ac_again ⟨rfl, rfl, rfl, trivial⟩, so, h⟩ ?_
  rintro k2 a5 w4 ⟨s3, f1, rfl, so, h⟩
  rcases k2 with _ | k2
  · exact h.elim
  replace h := Fix.un h; refine wc_in ?_
  refine wc_seq ?_
  refine wc_seq ?_
  refine wc_region ?_
  refine wl_val (at_move rfl) rfl ?_
  refine wl_val (at_move rfl) rfl ?_
  refine wl_val (at_lenL Try.underlying29 rfl) rfl ?_
  refine wl_val (at_lss rfl rfl) rfl ?_
  refine wl_nil ?_
  refine wk_prune [(0, .slice a0.a a0.n a0.c), (1, .slice a1.a a1.n a1.c), (5, .int .i64 s3), (21, .bool (decide (s3 < (a0.n : Int))))] ⟨rfl, rfl, rfl, rfl, trivial⟩ (fun f1 => ?_)
  refine wk_then ?_
  refine wc_cond rfl h (fun h => ?_) (fun h => ?_)
  · refine wc_skip ?_
    refine wk_prune [(0, .slice a0.a a0.n a0.c), (1, .slice a1.a a1.n a1.c), (5, .int .i64 s3)] ⟨rfl, rfl, rfl, trivial⟩ (fun f1 => ?_)
    refine wk_then ?_
    refine wc_seq ?_
    refine wc_block ?_
    refine wc_seq ?_
    refine wc_wo [0, 0, 3, 7, 0, 0, 48, 112, 255, 511] mixed (by kernel_rfl) so ?_; intro w7 hw so; rw [← hw] at h; clear hw
    refine wo_pure (m' := 1) 0 rfl (by kernel_rfl) rfl rfl (fun H => at_move rfl) ?_
    refine wo_pure (m' := 3) 1 rfl (by kernel_rfl) rfl rfl (fun H => at_move rfl) ?_
    obtain ⟨q8, q9, p10, q11, h⟩ := h
    refine wo_pure (m' := 7) 2 rfl (by kernel_rfl) rfl rfl (fun H => at_ixAddrL Try.underlying29 sz25 (sl_some q11) rfl q8 q9) ?_
    refine wo_pure (m' := 23) 4 rfl (by kernel_rfl) rfl rfl (fun H => at_move rfl) ?_
    refine wo_pure (m' := 55) 5 rfl (by kernel_rfl) rfl rfl (fun H => at_move rfl) ?_
    obtain ⟨q12, q13, p14, q15, h⟩ := h
    refine wo_pure (m' := 119) 6 rfl (by kernel_rfl) rfl rfl (fun H => at_ixAddrL Try.underlying29 sz25 (sl_some q15) rfl q12 q13) ?_
    obtain ⟨x16, q17, h⟩ := h
    refine wo_load (m' := 127) 3 (fun H => cellAt H (p10.add (Int.toNat s3 * 1)) = some (.slice x16.a x16.n x16.c)) rfl (by kernel_rfl) rfl rfl (fun H q17 => at_load Try.underlying25 rfl rfl q17) q17 ?_
    obtain ⟨x18, q19, h⟩ := h
    refine wo_load (m' := 255) 7 (fun H => cellAt H (p14.add (Int.toNat s3 * 1)) = some (.slice x18.a x18.n x18.c)) rfl (by kernel_rfl) rfl rfl (fun H q19 => at_load Try.underlying25 rfl rfl q19) q19 ?_
    refine wo_take (m' := 511) 8 [true, true] rfl (by kernel_rfl) rfl (by kernel_rfl) ?_
    refine wl_callF (mosaicref07_Same.calls _ _ _ _ h) enter13 rfl trivial so ?_; intro x20 w21 h so
    refine wl_nil ?_
    refine wk_tq trivial ?_
    refine wo_pure (m' := 1023) 9 rfl (by kernel_rfl) rfl rfl (fun H => at_assign rfl) ?_
    refine wo_done (by kernel_rfl) ?_
    refine wk_prune [(0, .slice a0.a a0.n a0.c), (1, .slice a1.a a1.n a1.c), (5, .int .i64 s3), (6, .bool x20)] ⟨rfl, rfl, rfl, rfl, trivial⟩ (fun f1 => ?_)
    refine wk_then ?_
    refine wc_seq ?_
    refine wc_region ?_
    refine wl_val (at_move rfl) rfl ?_
    refine wl_val (at_not rfl) rfl ?_
    refine wl_nil ?_
    refine wk_prune [(0, .slice a0.a a0.n a0.c), (1, .slice a1.a a1.n a1.c), (5, .int .i64 s3), (34, .bool (!x20))] ⟨rfl, rfl, rfl, rfl, trivial⟩ (fun f1 => ?_)
    refine wk_then ?_
    refine wc_cond rfl h (fun h => ?_) (fun h => ?_)
    · refine wc_seq ?_
      refine wc_region ?_
      refine wl_val (at_assign rfl) rfl ?_
      refine wl_nil ?_
      refine wk_prune [(4, .bool false)] ⟨rfl, trivial⟩ (fun f1 => ?_)
      refine wk_then ?_
      refine wc_ret ?_
      refine wk_blkR ?_
      refine wk_thenR ?_
      refine wk_thenR ?_
      refine wk_blkR ?_
      refine wk_thenR ?_
      exact wk_ret1 (x := false) rfl (by decide) rfl so h
    · refine wc_skip ?_
      refine wk_blkN ?_
      refine wk_prune [(0, .slice a0.a a0.n a0.c), (1, .slice a1.a a1.n a1.c), (5, .int .i64 s3)] ⟨rfl, rfl, rfl, trivial⟩ (fun f1 => ?_)
      refine wk_then ?_
      refine wc_region ?_
      refine wl_val (at_move rfl) rfl ?_
      refine wl_val (at_add rfl rfl) rfl ?_
      refine wl_val (at_assign rfl) rfl ?_
      refine wl_nil ?_
      exact wk_again ⟨((IntKind.wrap .i64 (s3 + 1))), _, ac_again ⟨rfl, rfl, rfl, trivial⟩, so, h⟩
  · refine wc_exit ?_
    refine wk_thenE ?_
    refine wk_thenE ?_
    refine wk_blkE ?_
    refine wk_prune [(0, .slice a0.a a0.n a0.c), (1, .slice a1.a a1.n a1.c)] ⟨rfl, rfl, trivial⟩ (fun f1 => ?_)
    refine wk_then ?_
    refine wc_seq ?_
    refine wc_seq ?_
    refine wc_region ?_
    refine wl_val (at_assign rfl) rfl ?_
    refine wl_nil ?_
    refine wk_prune [(0, .slice a0.a a0.n a0.c), (1, .slice a1.a a1.n a1.c), (7, .int .i64 0)] ⟨rfl, rfl, rfl, trivial⟩ (fun f1 => ?_)
    refine wk_then ?_
    refine wc_block ?_
    obtain ⟨k22, h⟩ := h
    refine wc_loop (fun k a w => ∃ (s24 : Int) (f1 : Nat → Value), a = ac 154 (en f1 [(0, .slice a0.a a0.n a0.c), (1, .slice a1.a a1.n a1.c), (7, .int .i64 s24)]) [] ∧ Sm w0 w ∧ Fix _ k s24 w.heap) k22 ⟨(0), _, ac_again ⟨rfl, rfl, rfl, trivial⟩, so, h⟩ ?_
    rintro k23 a26 w25 ⟨s24, f1, rfl, so, h⟩
    rcases k23 with _ | k23
    · exact h.elim
    replace h := Fix.un h; refine wc_in ?_
    refine wc_seq ?_
    refine wc_seq ?_
    refine wc_region ?_
    refine wl_val (at_move rfl) rfl ?_
    refine wl_val (at_move rfl) rfl ?_
    refine wl_val (at_lenL Try.underlying29 rfl) rfl ?_
    refine wl_val (at_lss rfl rfl) rfl ?_
    refine wl_nil ?_
    refine wk_prune [(0, .slice a0.a a0.n a0.c), (1, .slice a1.a a1.n a1.c), (7, .int .i64 s24), (38, .bool (decide (s24 < (a0.n : Int))))] ⟨rfl, rfl, rfl, rfl, trivial⟩ (fun f1 => ?_)
    refine wk_then ?_
    refine wc_cond rfl h (fun h => ?_) (fun h => ?_)
    · refine wc_skip ?_
      refine wk_prune [(0, .slice a0.a a0.n a0.c), (1, .slice a1.a a1.n a1.c), (7, .int .i64 s24)] ⟨rfl, rfl, rfl, trivial⟩ (fun f1 => ?_)
      refine wk_then ?_
      refine wc_seq ?_
      refine wc_block ?_
      refine wc_seq ?_
      refine wc_region ?_
      refine wl_val (at_assign rfl) rfl ?_
      refine wl_nil ?_
      refine wk_prune [(0, .slice a0.a a0.n a0.c), (1, .slice a1.a a1.n a1.c), (7, .int .i64 s24), (8, .int .i64 0)] ⟨rfl, rfl, rfl, rfl, trivial⟩ (fun f1 => ?_)
      refine wk_then ?_
      refine wc_block ?_
      obtain ⟨k28, h⟩ := h
      refine wc_loop (fun k a w => ∃ (s30 : Int) (f1 : Nat → Value), a = ac 154 (en f1 [(0, .slice a0.a a0.n a0.c), (1, .slice a1.a a1.n a1.c), (7, .int .i64 s24), (8, .int .i64 s30)]) [] ∧ Sm w0 w ∧ Fix _ k s30 w.heap) k28 ⟨(0), _, ac_again ⟨rfl, rfl, rfl, rfl, trivial⟩, so, h⟩ ?_
      rintro k29 a32 w31 ⟨s30, f1, rfl, so, h⟩
      rcases k29 with _ | k29
      · exact h.elim
      replace h := Fix.un h; refine wc_in ?_
      refine wc_seq ?_
      refine wc_seq ?_
      refine wc_region ?_
      refine wl_val (at_move rfl) rfl ?_
      refine wl_val (at_move rfl) rfl ?_
      refine wl_val (at_move rfl) rfl ?_
      obtain ⟨q34, q35, p36, q37, h⟩ := h
      refine wl_val (at_ixAddrL Try.underlying29 sz25 (sl_some q37) rfl q34 q35) rfl ?_
      obtain ⟨x38, q39, h⟩ := h
      refine wl_val (at_load Try.underlying25 rfl rfl q39) rfl ?_
      refine wl_val (at_lenL Try.underlying25 rfl) rfl ?_
      refine wl_val (at_lss rfl rfl) rfl ?_
      refine wl_nil ?_
      refine wk_prune [(0, .slice a0.a a0.n a0.c), (1, .slice a1.a a1.n a1.c), (7, .int .i64 s24), (8, .int .i64 s30), (47, .bool (decide (s30 < (x38.n : Int))))] ⟨rfl, rfl, rfl, rfl, rfl, trivial⟩ (fun f1 => ?_)
      refine wk_then ?_
      refine wc_cond rfl h (fun h => ?_) (fun h => ?_)
      · refine wc_skip ?_
        refine wk_prune [(0, .slice a0.a a0.n a0.c), (1, .slice a1.a a1.n a1.c), (7, .int .i64 s24), (8, .int .i64 s30)] ⟨rfl, rfl, rfl, rfl, trivial⟩ (fun f1 => ?_)
        refine wk_then ?_
        refine wc_seq ?_
        refine wc_block ?_
        refine wc_region ?_
        refine wl_val (at_move rfl) rfl ?_
        refine wl_val (at_move rfl) rfl ?_
        obtain ⟨q40, q41, h⟩ := h
        refine wl_val (at_ixAddrL Try.underlying29 sz25 (sl_some q37) rfl q40 q41) rfl ?_
        obtain ⟨x42, q43, h⟩ := h
        refine wl_val (at_load Try.underlying25 rfl rfl q43) rfl ?_
        refine wl_val (at_move rfl) rfl ?_
        refine wl_val (at_move rfl) rfl ?_
        refine wl_val (at_conv Try.underlying3 Try.underlying40 rfl) rfl ?_
        refine wl_val (at_build (cs := (c42 77 0 (IntKind.wrap .u16 s24))) (ps := [(0, .int .u8 77), (2, .int .u16 (IntKind.wrap .u16 s24))]) rfl (fun w => by simp [Instr.build, Instr.fill, go_sem, Try.underlying42, z42])) rfl ?_
        obtain ⟨q44, q45, p46, q47, h⟩ := h
        refine wl_val (at_ixAddrL Try.underlying25 sz42 (sl_some q47) rfl q44 q45) rfl ?_
        refine wl_stA h rfl so (fun q => ef_storeA (by rw [len42]; exact sz42) rfl rfl (one42 _ _ _) q) ?_; intro w48 h so
        refine wl_nil ?_
        refine wk_blkN ?_
        refine wk_prune [(0, .slice a0.a a0.n a0.c), (1, .slice a1.a a1.n a1.c), (7, .int .i64 s24), (8, .int .i64 s30)] ⟨rfl, rfl, rfl, rfl, trivial⟩ (fun f1 => ?_)
        refine wk_then ?_
        refine wc_region ?_
        refine wl_val (at_move rfl) rfl ?_
        refine wl_val (at_add rfl rfl) rfl ?_
        refine wl_val (at_assign rfl) rfl ?_
        refine wl_nil ?_
        exact wk_again ⟨((IntKind.wrap .i64 (s30 + 1))), _, ac_again ⟨rfl, rfl, rfl, rfl, trivial⟩, so, h⟩
      · refine wc_exit ?_
        refine wk_thenE ?_
        refine wk_thenE ?_
        refine wk_blkE ?_
        refine wk_blkN ?_
        refine wk_prune [(0, .slice a0.a a0.n a0.c), (1, .slice a1.a a1.n a1.c), (7, .int .i64 s24)] ⟨rfl, rfl, rfl, trivial⟩ (fun f1 => ?_)
        refine wk_then ?_
        refine wc_region ?_
        refine wl_val (at_move rfl) rfl ?_
        refine wl_val (at_add rfl rfl) rfl ?_
        refine wl_val (at_assign rfl) rfl ?_
        refine wl_nil ?_
        exact wk_again ⟨((IntKind.wrap .i64 (s24 + 2))), _, ac_again ⟨rfl, rfl, rfl, trivial⟩, so, h⟩
    · refine wc_exit ?_
      refine wk_thenE ?_
      refine wk_thenE ?_
      refine wk_blkE ?_
      refine wk_prune [(0, .slice a0.a a0.n a0.c), (1, .slice a1.a a1.n a1.c)] ⟨rfl, rfl, trivial⟩ (fun f1 => ?_)
      refine wk_then ?_
      refine wc_seq ?_
      refine wc_region ?_
      refine wl_val (at_assign rfl) rfl ?_
      refine wl_nil ?_
      refine wk_prune [(0, .slice a0.a a0.n a0.c), (1, .slice a1.a a1.n a1.c), (9, .slice none 0 0)] ⟨rfl, rfl, rfl, trivial⟩ (fun f1 => ?_)
      refine wk_then ?_
      refine wc_seq ?_
      refine wc_seq ?_
      refine wc_region ?_
      refine wl_val (at_assign rfl) rfl ?_
      refine wl_nil ?_
      refine wk_prune [(0, .slice a0.a a0.n a0.c), (1, .slice a1.a a1.n a1.c), (9, .slice none 0 0), (10, .int .i64 0)] ⟨rfl, rfl, rfl, rfl, trivial⟩ (fun f1 => ?_)
      refine wk_then ?_
      refine wc_block ?_
      obtain ⟨k49, h⟩ := h
      refine wc_loop (fun k a w => ∃ (s51 : Sl × Int) (f1 : Nat → Value), a = ac 154 (en f1 [(0, .slice a0.a a0.n a0.c), (1, .slice a1.a a1.n a1.c), (9, .slice s51.1.a s51.1.n s51.1.c), (10, .int .i64 s51.2)]) [] ∧ Sm w0 w ∧ Fix _ k s51 w.heap) k49 ⟨(⟨none, 0, 0⟩, 0), _, ac_again ⟨rfl, rfl, rfl, rfl, trivial⟩, so, h⟩ ?_
      rintro k50 a53 w52 ⟨s51, f1, rfl, so, h⟩
      rcases k50 with _ | k50
      · exact h.elim
      replace h := Fix.un h; refine wc_in ?_
      refine wc_seq ?_
      refine wc_seq ?_
      refine wc_region ?_
      refine wl_val (at_move rfl) rfl ?_
      refine wl_val (at_move rfl) rfl ?_
      refine wl_val (at_lenL Try.underlying29 rfl) rfl ?_
      refine wl_val (at_lss rfl rfl) rfl ?_
      refine wl_nil ?_
      refine wk_prune [(0, .slice a0.a a0.n a0.c), (1, .slice a1.a a1.n a1.c), (9, .slice s51.1.a s51.1.n s51.1.c), (10, .int .i64 s51.2), (62, .bool (decide (s51.2 < (a0.n : Int))))] ⟨rfl, rfl, rfl, rfl, rfl, trivial⟩ (fun f1 => ?_)
      refine wk_then ?_
      refine wc_cond rfl h (fun h => ?_) (fun h => ?_)
      · refine wc_skip ?_
        refine wk_prune [(0, .slice a0.a a0.n a0.c), (1, .slice a1.a a1.n a1.c), (9, .slice s51.1.a s51.1.n s51.1.c), (10, .int .i64 s51.2)] ⟨rfl, rfl, rfl, rfl, trivial⟩ (fun f1 => ?_)
        refine wk_then ?_
        refine wc_seq ?_
        refine wc_block ?_
        refine wc_seq ?_
        refine wc_region ?_
        refine wl_val (at_move rfl) rfl ?_
        refine wl_val (at_move rfl) rfl ?_
        obtain ⟨q55, q56, p57, q58, h⟩ := h
        refine wl_val (at_ixAddrL Try.underlying29 sz25 (sl_some q58) rfl q55 q56) rfl ?_
        obtain ⟨x59, q60, h⟩ := h
        refine wl_val (at_load Try.underlying25 rfl rfl q60) rfl ?_
        refine wl_val (at_assign rfl) rfl ?_
        refine wl_nil ?_
        refine wk_prune [(0, .slice a0.a a0.n a0.c), (1, .slice a1.a a1.n a1.c), (9, .slice s51.1.a s51.1.n s51.1.c), (10, .int .i64 s51.2), (11, .slice x59.a x59.n x59.c)] ⟨rfl, rfl, rfl, rfl, rfl, trivial⟩ (fun f1 => ?_)
        refine wk_then ?_
        refine wc_seq ?_
        refine wc_seq ?_
        refine wc_region ?_
        refine wl_val (at_assign rfl) rfl ?_
        refine wl_nil ?_
        refine wk_prune [(0, .slice a0.a a0.n a0.c), (1, .slice a1.a a1.n a1.c), (9, .slice s51.1.a s51.1.n s51.1.c), (10, .int .i64 s51.2), (11, .slice x59.a x59.n x59.c), (12, .int .i64 0)] ⟨rfl, rfl, rfl, rfl, rfl, rfl, trivial⟩ (fun f1 => ?_)
        refine wk_then ?_
        refine wc_block ?_
        obtain ⟨k61, h⟩ := h
        refine wc_loop (fun k a w => ∃ (s63 : Sl × Int) (f1 : Nat → Value), a = ac 154 (en f1 [(0, .slice a0.a a0.n a0.c), (1, .slice a1.a a1.n a1.c), (9, .slice s51.1.a s51.1.n s51.1.c), (10, .int .i64 s51.2), (11, .slice s63.1.a s63.1.n s63.1.c), (12, .int .i64 s63.2)]) [] ∧ Sm w0 w ∧ Fix _ k s63 w.heap) k61 ⟨(x59, 0), _, ac_again ⟨rfl, rfl, rfl, rfl, rfl, rfl, trivial⟩, so, h⟩ ?_
        rintro k62 a65 w64 ⟨s63, f1, rfl, so, h⟩
        rcases k62 with _ | k62
        · exact h.elim
        replace h := Fix.un h; refine wc_in ?_
        refine wc_seq ?_
        refine wc_seq ?_
        refine wc_join (w0 := w0) (fun (s68 : Bool) => [(0, .slice a0.a a0.n a0.c), (1, .slice a1.a a1.n a1.c), (9, .slice s51.1.a s51.1.n s51.1.c), (10, .int .i64 s51.2), (11, .slice s63.1.a s63.1.n s63.1.c), (12, .int .i64 s63.2), (75, .bool s68)]) h ?_ ?_
        · rintro s68 w69 f1 h so; refine wk_then ?_
          refine wc_cond rfl h (fun h => ?_) (fun h => ?_)
          · refine wc_skip ?_
            refine wk_prune [(0, .slice a0.a a0.n a0.c), (1, .slice a1.a a1.n a1.c), (9, .slice s51.1.a s51.1.n s51.1.c), (10, .int .i64 s51.2), (11, .slice s63.1.a s63.1.n s63.1.c), (12, .int .i64 s63.2)] ⟨rfl, rfl, rfl, rfl, rfl, rfl, trivial⟩ (fun f1 => ?_)
            refine wk_then ?_
            refine wc_seq ?_
            refine wc_block ?_
            refine wc_region ?_
            refine wl_val (at_move rfl) rfl ?_
            refine wl_val (at_move rfl) rfl ?_
            refine wl_val (at_conv Try.underlying3 Try.underlying40 rfl) rfl ?_
            refine wl_val (at_build (cs := (c42 78 0 (IntKind.wrap .u16 s51.2))) (ps := [(0, .int .u8 78), (2, .int .u16 (IntKind.wrap .u16 s51.2))]) rfl (fun w => by simp [Instr.build, Instr.fill, go_sem, Try.underlying42, z42])) rfl ?_
            obtain ⟨i73, i73a, i73b, i73c, i73d⟩ := info42
            refine wl_newS (ef_buildSlice (cs := (c42 78 0 (IntKind.wrap .u16 s51.2))) (ps := [(0, .agg (c42 78 0 (IntKind.wrap .u16 s51.2)).toArray)]) Try.underlying25 i73a i73b rfl (by rw [i73c]; decide) (by rw [i73c]; exact fill_full (vs := [.agg (c42 78 0 (IntKind.wrap .u16 s51.2)).toArray]) rfl (by simp [Value.cells]) (by simp [Value.cells, len42]) rfl (by simp))) rfl so (one42 _ _ _) h ?_; intro p70 w71 h r72 so
            obtain ⟨i74, i74a, i74b, i74c, i74d⟩ := info42
            refine wl_ap (fx_append (s := s63.1) (t := ⟨(some p70), 1, 1⟩) (m := 1) (xs := (c42 78 0 (IntKind.wrap .u16 s51.2))) Try.underlying25 Try.underlying25 i74a i74b i74c i74d rfl rfl rfl (by first | rfl | simp [len42]) r72 h) rfl so ?_; intro l75 w76 h so
            refine wl_val (at_assign rfl) rfl ?_
            refine wl_nil ?_
            refine wk_blkN ?_
            refine wk_prune [(0, .slice a0.a a0.n a0.c), (1, .slice a1.a a1.n a1.c), (9, .slice s51.1.a s51.1.n s51.1.c), (10, .int .i64 s51.2), (11, .slice l75.a l75.n l75.c), (12, .int .i64 s63.2)] ⟨rfl, rfl, rfl, rfl, rfl, rfl, trivial⟩ (fun f1 => ?_)
            refine wk_then ?_
            refine wc_region ?_
            refine wl_val (at_move rfl) rfl ?_
            refine wl_val (at_add rfl rfl) rfl ?_
            refine wl_val (at_assign rfl) rfl ?_
            refine wl_nil ?_
            exact wk_again ⟨(l75, (IntKind.wrap .i64 (s63.2 + 1))), _, ac_again ⟨rfl, rfl, rfl, rfl, rfl, rfl, trivial⟩, so, h⟩
          · refine wc_exit ?_
            refine wk_thenE ?_
            refine wk_thenE ?_
            refine wk_blkE ?_
            refine wk_prune [(0, .slice a0.a a0.n a0.c), (1, .slice a1.a a1.n a1.c), (9, .slice s51.1.a s51.1.n s51.1.c), (10, .int .i64 s51.2), (11, .slice s63.1.a s63.1.n s63.1.c)] ⟨rfl, rfl, rfl, rfl, rfl, trivial⟩ (fun f1 => ?_)
            refine wk_then ?_
            refine wc_region ?_
            refine wl_val (at_move rfl) rfl ?_
            refine wl_val (at_move rfl) rfl ?_
            obtain ⟨i80, i80a, i80b, i80c, i80d⟩ := info25
            refine wl_newS (ef_buildSlice (cs := [.slice s63.1.a s63.1.n s63.1.c]) (ps := [(0, .slice s63.1.a s63.1.n s63.1.c)]) Try.underlying29 i80a i80b rfl (by rw [i80c]; decide) (by rw [i80c]; exact fill_full (vs := [.slice s63.1.a s63.1.n s63.1.c]) rfl (by simp [Value.cells]) (by simp [Value.cells]) rfl (by simp))) rfl so (ones_cons rfl ones_nil) h ?_; intro p77 w78 h r79 so
            obtain ⟨i81, i81a, i81b, i81c, i81d⟩ := info25
            refine wl_ap (fx_append (s := s51.1) (t := ⟨(some p77), 1, 1⟩) (m := 1) (xs := [.slice s63.1.a s63.1.n s63.1.c]) Try.underlying29 Try.underlying29 i81a i81b i81c i81d rfl rfl rfl (by first | rfl | simp) r79 h) rfl so ?_; intro l82 w83 h so
            refine wl_val (at_assign rfl) rfl ?_
            refine wl_nil ?_
            refine wk_blkN ?_
            refine wk_prune [(0, .slice a0.a a0.n a0.c), (1, .slice a1.a a1.n a1.c), (9, .slice l82.a l82.n l82.c), (10, .int .i64 s51.2)] ⟨rfl, rfl, rfl, rfl, trivial⟩ (fun f1 => ?_)
            refine wk_then ?_
            refine wc_region ?_
            refine wl_val (at_move rfl) rfl ?_
            refine wl_val (at_add rfl rfl) rfl ?_
            refine wl_val (at_assign rfl) rfl ?_
            refine wl_nil ?_
            exact wk_again ⟨(l82, (IntKind.wrap .i64 (s51.2 + 1))), _, ac_again ⟨rfl, rfl, rfl, rfl, trivial⟩, so, h⟩
        · intro J67 h hJ67
          refine wc_region ?_
          refine wl_val (at_move rfl) rfl ?_
          refine wl_val (at_lss rfl rfl) rfl ?_
          refine wl_val (at_move rfl) rfl ?_
          refine bif_ h (fun hb h => ?_) (fun hb h => ?_)
          · refine wl_set (t := 71) (v := .bool true) (congrArg Value.bool hb) ?_; clear hb
            refine wl_on (t := 71) rfl (by decide) rfl ?_
            refine wl_val (at_move rfl) rfl ?_
            refine wl_on (t := 71) rfl (by decide) rfl ?_
            refine wl_val (at_rem rfl rfl (by decide)) rfl ?_
            refine wl_on (t := 71) rfl (by decide) rfl ?_
            refine wl_val (at_eql rfl rfl) rfl ?_
            refine wl_val (at_pick_t rfl rfl) rfl ?_
            refine wl_nil ?_
            exact wk_prune [(0, .slice a0.a a0.n a0.c), (1, .slice a1.a a1.n a1.c), (9, .slice s51.1.a s51.1.n s51.1.c), (10, .int .i64 s51.2), (11, .slice s63.1.a s63.1.n s63.1.c), (12, .int .i64 s63.2), (75, .bool ((Int.tmod s51.2 2) == 0))] ⟨rfl, rfl, rfl, rfl, rfl, rfl, rfl, trivial⟩ (fun f1 => hJ67 (((Int.tmod s51.2 2) == 0)) _ f1 h so)
          · refine wl_set (t := 71) (v := .bool false) (congrArg Value.bool hb) ?_; clear hb
            refine wl_off (t := 71) rfl (by decide) rfl ?_
            refine wl_off (t := 71) rfl (by decide) rfl ?_
            refine wl_off (t := 71) rfl (by decide) rfl ?_
            refine wl_val (at_pick_f rfl rfl) rfl ?_
            refine wl_nil ?_
            exact wk_prune [(0, .slice a0.a a0.n a0.c), (1, .slice a1.a a1.n a1.c), (9, .slice s51.1.a s51.1.n s51.1.c), (10, .int .i64 s51.2), (11, .slice s63.1.a s63.1.n s63.1.c), (12, .int .i64 s63.2), (75, .bool false)] ⟨rfl, rfl, rfl, rfl, rfl, rfl, rfl, trivial⟩ (fun f1 => hJ67 (false) _ f1 h so)
      · refine wc_exit ?_
        refine wk_thenE ?_
        refine wk_thenE ?_
        refine wk_blkE ?_
        refine wk_prune [(0, .slice a0.a a0.n a0.c), (1, .slice a1.a a1.n a1.c), (9, .slice s51.1.a s51.1.n s51.1.c)] ⟨rfl, rfl, rfl, trivial⟩ (fun f1 => ?_)
        refine wk_then ?_
        refine wc_seq ?_
        refine wc_seq ?_
        refine wc_region ?_
        refine wl_val (at_assign rfl) rfl ?_
        refine wl_nil ?_
        refine wk_prune [(0, .slice a0.a a0.n a0.c), (1, .slice a1.a a1.n a1.c), (9, .slice s51.1.a s51.1.n s51.1.c), (13, .int .i64 0)] ⟨rfl, rfl, rfl, rfl, trivial⟩ (fun f1 => ?_)
        refine wk_then ?_
        refine wc_block ?_
        obtain ⟨k84, h⟩ := h
        refine wc_loop (fun k a w => ∃ (s86 : Int) (f1 : Nat → Value), a = ac 154 (en f1 [(0, .slice a0.a a0.n a0.c), (1, .slice a1.a a1.n a1.c), (9, .slice s51.1.a s51.1.n s51.1.c), (13, .int .i64 s86)]) [] ∧ Sm w0 w ∧ Fix _ k s86 w.heap) k84 ⟨(0), _, ac_again ⟨rfl, rfl, rfl, rfl, trivial⟩, so, h⟩ ?_
        rintro k85 a88 w87 ⟨s86, f1, rfl, so, h⟩
        rcases k85 with _ | k85
        · exact h.elim
        replace h := Fix.un h; refine wc_in ?_
        refine wc_seq ?_
        refine wc_seq ?_
        refine wc_region ?_
        refine wl_val (at_move rfl) rfl ?_
        refine wl_val (at_move rfl) rfl ?_
        refine wl_val (at_lenL Try.underlying29 rfl) rfl ?_
        refine wl_val (at_lss rfl rfl) rfl ?_
        refine wl_nil ?_
        refine wk_prune [(0, .slice a0.a a0.n a0.c), (1, .slice a1.a a1.n a1.c), (9, .slice s51.1.a s51.1.n s51.1.c), (13, .int .i64 s86), (91, .bool (decide (s86 < (a0.n : Int))))] ⟨rfl, rfl, rfl, rfl, rfl, trivial⟩ (fun f1 => ?_)
        refine wk_then ?_
        refine wc_cond rfl h (fun h => ?_) (fun h => ?_)
        · refine wc_skip ?_
          refine wk_prune [(0, .slice a0.a a0.n a0.c), (1, .slice a1.a a1.n a1.c), (9, .slice s51.1.a s51.1.n s51.1.c), (13, .int .i64 s86)] ⟨rfl, rfl, rfl, rfl, trivial⟩ (fun f1 => ?_)
          refine wk_then ?_
          refine wc_seq ?_
          refine wc_join (w0 := w0) (fun (s91 : Unit) => [(0, .slice a0.a a0.n a0.c), (1, .slice a1.a a1.n a1.c), (9, .slice s51.1.a s51.1.n s51.1.c), (13, .int .i64 s86)]) h ?_ ?_
          · rintro s91 w92 f1 h so; refine wk_then ?_
            refine wc_region ?_
            refine wl_val (at_move rfl) rfl ?_
            refine wl_val (at_add rfl rfl) rfl ?_
            refine wl_val (at_assign rfl) rfl ?_
            refine wl_nil ?_
            exact wk_again ⟨((IntKind.wrap .i64 (s86 + 1))), _, ac_again ⟨rfl, rfl, rfl, rfl, trivial⟩, so, h⟩
          · intro J90 h hJ90
            refine wc_block ?_
            refine wc_seq ?_
            refine wc_seq ?_
            refine wc_region ?_
            refine wl_val (at_move rfl) rfl ?_
            refine wl_val (at_rem rfl rfl (by decide)) rfl ?_
            refine wl_val (at_eql rfl rfl) rfl ?_
            refine wl_nil ?_
            refine wk_prune [(0, .slice a0.a a0.n a0.c), (1, .slice a1.a a1.n a1.c), (9, .slice s51.1.a s51.1.n s51.1.c), (13, .int .i64 s86), (96, .bool ((Int.tmod s86 2) == 1))] ⟨rfl, rfl, rfl, rfl, rfl, trivial⟩ (fun f1 => ?_)
            refine wk_then ?_
            refine wc_cond rfl h (fun h => ?_) (fun h => ?_)
            · refine wc_seq ?_
              refine wc_wo [0, 0, 3, 7, 0, 0, 48, 112, 255, 511] mixed (by kernel_rfl) so ?_; intro w93 hw so; rw [← hw] at h; clear hw
              refine wo_pure (m' := 1) 0 rfl (by kernel_rfl) rfl rfl (fun H => at_move rfl) ?_
              refine wo_pure (m' := 3) 1 rfl (by kernel_rfl) rfl rfl (fun H => at_move rfl) ?_
              obtain ⟨q94, q95, p96, q97, h⟩ := h
              refine wo_pure (m' := 7) 2 rfl (by kernel_rfl) rfl rfl (fun H => at_ixAddrL Try.underlying29 sz25 (sl_some q97) rfl q94 q95) ?_
              refine wo_pure (m' := 23) 4 rfl (by kernel_rfl) rfl rfl (fun H => at_move rfl) ?_
              refine wo_pure (m' := 55) 5 rfl (by kernel_rfl) rfl rfl (fun H => at_move rfl) ?_
              obtain ⟨q98, q99, p100, q101, h⟩ := h
              refine wo_pure (m' := 119) 6 rfl (by kernel_rfl) rfl rfl (fun H => at_ixAddrL Try.underlying29 sz25 (sl_some q101) rfl q98 q99) ?_
              obtain ⟨x102, q103, h⟩ := h
              refine wo_load (m' := 127) 3 (fun H => cellAt H (p96.add (Int.toNat s86 * 1)) = some (.slice x102.a x102.n x102.c)) rfl (by kernel_rfl) rfl rfl (fun H q103 => at_load Try.underlying25 rfl rfl q103) q103 ?_
              obtain ⟨x104, q105, h⟩ := h
              refine wo_load (m' := 255) 7 (fun H => cellAt H (p100.add (Int.toNat s86 * 1)) = some (.slice x104.a x104.n x104.c)) rfl (by kernel_rfl) rfl rfl (fun H q105 => at_load Try.underlying25 rfl rfl q105) q105 ?_
              refine wo_take (m' := 511) 8 [true, true] rfl (by kernel_rfl) rfl (by kernel_rfl) ?_
              refine wl_callF (mosaicref07_Same.calls _ _ _ _ h) enter13 rfl trivial so ?_; intro x106 w107 h so
              refine wl_nil ?_
              refine wk_tq trivial ?_
              refine wo_pure (m' := 1023) 9 rfl (by kernel_rfl) rfl rfl (fun H => at_assign rfl) ?_
              refine wo_done (by kernel_rfl) ?_
              refine wk_prune [(0, .slice a0.a a0.n a0.c), (1, .slice a1.a a1.n a1.c), (9, .slice s51.1.a s51.1.n s51.1.c), (13, .int .i64 s86), (14, .bool x106)] ⟨rfl, rfl, rfl, rfl, rfl, trivial⟩ (fun f1 => ?_)
              refine wk_then ?_
              refine wc_seq ?_
              refine wc_seq ?_
              refine wc_region ?_
              refine wl_val (at_move rfl) rfl ?_
              refine wl_val (at_not rfl) rfl ?_
              refine wl_nil ?_
              refine wk_prune [(0, .slice a0.a a0.n a0.c), (1, .slice a1.a a1.n a1.c), (9, .slice s51.1.a s51.1.n s51.1.c), (13, .int .i64 s86), (107, .bool (!x106))] ⟨rfl, rfl, rfl, rfl, rfl, trivial⟩ (fun f1 => ?_)
              refine wk_then ?_
              refine wc_cond rfl h (fun h => ?_) (fun h => ?_)
              · refine wc_seq ?_
                refine wc_region ?_
                refine wl_val (at_assign rfl) rfl ?_
                refine wl_nil ?_
                refine wk_prune [(4, .bool false)] ⟨rfl, trivial⟩ (fun f1 => ?_)
                refine wk_then ?_
                refine wc_ret ?_
                refine wk_thenR ?_
                refine wk_thenR ?_
                refine wk_blkR ?_
                refine wk_thenR ?_
                refine wk_thenR ?_
                refine wk_blkR ?_
                refine wk_thenR ?_
                exact wk_ret1 (x := false) rfl (by decide) rfl so h
              · refine wc_skip ?_
                refine wk_prune [(0, .slice a0.a a0.n a0.c), (1, .slice a1.a a1.n a1.c), (9, .slice s51.1.a s51.1.n s51.1.c), (13, .int .i64 s86)] ⟨rfl, rfl, rfl, rfl, trivial⟩ (fun f1 => ?_)
                refine wk_then ?_
                refine wc_exit ?_
                refine wk_thenE ?_
                refine wk_blkE ?_
                exact wk_prune [(0, .slice a0.a a0.n a0.c), (1, .slice a1.a a1.n a1.c), (9, .slice s51.1.a s51.1.n s51.1.c), (13, .int .i64 s86)] ⟨rfl, rfl, rfl, rfl, trivial⟩ (fun f1 => hJ90 () _ f1 h so)
            · refine wc_skip ?_
              refine wk_prune [(0, .slice a0.a a0.n a0.c), (1, .slice a1.a a1.n a1.c), (9, .slice s51.1.a s51.1.n s51.1.c), (13, .int .i64 s86)] ⟨rfl, rfl, rfl, rfl, trivial⟩ (fun f1 => ?_)
              refine wk_then ?_
              refine wc_seq ?_
              refine wc_region ?_
              refine wl_val (at_assign rfl) rfl ?_
              refine wl_nil ?_
              refine wk_prune [(0, .slice a0.a a0.n a0.c), (1, .slice a1.a a1.n a1.c), (9, .slice s51.1.a s51.1.n s51.1.c), (13, .int .i64 s86), (15, .int .i64 0)] ⟨rfl, rfl, rfl, rfl, rfl, trivial⟩ (fun f1 => ?_)
              refine wk_then ?_
              refine wc_block ?_
              obtain ⟨k108, h⟩ := h
              refine wc_loop (fun k a w => ∃ (s110 : Int) (f1 : Nat → Value), a = ac 154 (en f1 [(0, .slice a0.a a0.n a0.c), (1, .slice a1.a a1.n a1.c), (9, .slice s51.1.a s51.1.n s51.1.c), (13, .int .i64 s86), (15, .int .i64 s110)]) [] ∧ Sm w0 w ∧ Fix _ k s110 w.heap) k108 ⟨(0), _, ac_again ⟨rfl, rfl, rfl, rfl, rfl, trivial⟩, so, h⟩ ?_
              rintro k109 a112 w111 ⟨s110, f1, rfl, so, h⟩
              rcases k109 with _ | k109
              · exact h.elim
              replace h := Fix.un h; refine wc_in ?_
              refine wc_seq ?_
              refine wc_seq ?_
              refine wc_region ?_
              refine wl_val (at_move rfl) rfl ?_
              refine wl_val (at_move rfl) rfl ?_
              refine wl_val (at_move rfl) rfl ?_
              obtain ⟨q114, q115, p116, q117, h⟩ := h
              refine wl_val (at_ixAddrL Try.underlying29 sz25 (sl_some q117) rfl q114 q115) rfl ?_
              obtain ⟨x118, q119, h⟩ := h
              refine wl_val (at_load Try.underlying25 rfl rfl q119) rfl ?_
              refine wl_val (at_lenL Try.underlying25 rfl) rfl ?_
              refine wl_val (at_lss rfl rfl) rfl ?_
              refine wl_nil ?_
              refine wk_prune [(0, .slice a0.a a0.n a0.c), (1, .slice a1.a a1.n a1.c), (9, .slice s51.1.a s51.1.n s51.1.c), (13, .int .i64 s86), (15, .int .i64 s110), (114, .bool (decide (s110 < (x118.n : Int))))] ⟨rfl, rfl, rfl, rfl, rfl, rfl, trivial⟩ (fun f1 => ?_)
              refine wk_then ?_
              refine wc_cond rfl h (fun h => ?_) (fun h => ?_)
              · refine wc_skip ?_
                refine wk_prune [(0, .slice a0.a a0.n a0.c), (1, .slice a1.a a1.n a1.c), (9, .slice s51.1.a s51.1.n s51.1.c), (13, .int .i64 s86), (15, .int .i64 s110)] ⟨rfl, rfl, rfl, rfl, rfl, trivial⟩ (fun f1 => ?_)
                refine wk_then ?_
                refine wc_seq ?_
                refine wc_block ?_
                refine wc_seq ?_
                refine wc_region ?_
                refine wl_val (at_move rfl) rfl ?_
                refine wl_val (at_move rfl) rfl ?_
                obtain ⟨q120, q121, p122, q123, h⟩ := h
                refine wl_val (at_ixAddrL Try.underlying29 sz25 (sl_some q123) rfl q120 q121) rfl ?_
                obtain ⟨x124, q125, h⟩ := h
                refine wl_val (at_load Try.underlying25 rfl rfl q125) rfl ?_
                refine wl_val (at_lenL Try.underlying25 rfl) rfl ?_
                refine wl_val (at_assign rfl) rfl ?_
                refine wl_nil ?_
                refine wk_prune [(0, .slice a0.a a0.n a0.c), (1, .slice a1.a a1.n a1.c), (9, .slice s51.1.a s51.1.n s51.1.c), (13, .int .i64 s86), (15, .int .i64 s110), (16, .int .i64 (x124.n : Int))] ⟨rfl, rfl, rfl, rfl, rfl, rfl, trivial⟩ (fun f1 => ?_)
                refine wk_then ?_
                refine wc_seq ?_
                refine wc_region ?_
                refine wl_val (at_move rfl) rfl ?_
                refine wl_val (at_conv Try.underlying3 Try.underlying40 rfl) rfl ?_
                refine wl_val (at_build (cs := (c42 77 0 (IntKind.wrap .u16 s86))) (ps := [(0, .int .u8 77), (2, .int .u16 (IntKind.wrap .u16 s86))]) rfl (fun w => by simp [Instr.build, Instr.fill, go_sem, Try.underlying42, z42])) rfl ?_
                refine wl_newT (T := 42) (cs := (c42 0 0 0)) (ef_alloc zero42 rfl) rfl so ?_; intro b126 w127 hb_b126 t_b126 k_b126 so
                have g_b126 := Nat.le_of_eq hb_b126.symm
                have hc := k_b126.ch (F := [])
                refine wl_stWT (vs := (c42 77 0 (IntKind.wrap .u16 s86))) t_b126 (by first | (rw [len42, len42]) | (rw [len42]) | rfl) rfl so (fun q => ef_storeA (p := (⟨b126, 0, none⟩ : Addr)) (cs := (c42 77 0 (IntKind.wrap .u16 s86))) (by rw [len42]; exact sz42) rfl rfl (one42 _ _ _) q) ?_; intro w128 t_b126 s_w128 so
                replace hc := ch_same hc s_w128 (.inr g_b126)
                refine wl_nil ?_
                refine wk_prune [(0, .slice a0.a a0.n a0.c), (1, .slice a1.a a1.n a1.c), (9, .slice s51.1.a s51.1.n s51.1.c), (13, .int .i64 s86), (15, .int .i64 s110), (16, .int .i64 (x124.n : Int)), (17, .pointer (some (⟨b126, 0, none⟩ : Addr)))] ⟨rfl, rfl, rfl, rfl, rfl, rfl, rfl, trivial⟩ (fun f1 => ?_)
                refine wk_then ?_
                replace h := h b126 _ hc g_b126 t_b126.lt; clear hc
                replace h := h t_b126
                refine wc_seq ?_
                refine wc_join (w0 := w0) (fun (s130 : Unit) => [(0, .slice a0.a a0.n a0.c), (1, .slice a1.a a1.n a1.c), (9, .slice s51.1.a s51.1.n s51.1.c), (13, .int .i64 s86), (15, .int .i64 s110), (16, .int .i64 (x124.n : Int)), (17, .pointer (some (⟨b126, 0, none⟩ : Addr)))]) h ?_ ?_
                · rintro s130 w131 f1 h so; refine wk_then ?_
                  refine wc_seq ?_
                  refine wc_join (w0 := w0) (fun (s133 : Bool) => [(0, .slice a0.a a0.n a0.c), (1, .slice a1.a a1.n a1.c), (9, .slice s51.1.a s51.1.n s51.1.c), (13, .int .i64 s86), (15, .int .i64 s110), (153, .bool s133)]) h ?_ ?_
                  · rintro s133 w134 f1 h so; refine wk_then ?_
                    refine wc_cond rfl h (fun h => ?_) (fun h => ?_)
                    · refine wc_seq ?_
                      refine wc_region ?_
                      refine wl_val (at_assign rfl) rfl ?_
                      refine wl_nil ?_
                      refine wk_prune [(4, .bool false)] ⟨rfl, trivial⟩ (fun f1 => ?_)
                      refine wk_then ?_
                      refine wc_ret ?_
                      refine wk_blkR ?_
                      refine wk_thenR ?_
                      refine wk_thenR ?_
                      refine wk_blkR ?_
                      refine wk_blkR ?_
                      refine wk_thenR ?_
                      refine wk_thenR ?_
                      refine wk_blkR ?_
                      refine wk_thenR ?_
                      exact wk_ret1 (x := false) rfl (by decide) rfl so h
                    · refine wc_skip ?_
                      refine wk_blkN ?_
                      refine wk_prune [(0, .slice a0.a a0.n a0.c), (1, .slice a1.a a1.n a1.c), (9, .slice s51.1.a s51.1.n s51.1.c), (13, .int .i64 s86), (15, .int .i64 s110)] ⟨rfl, rfl, rfl, rfl, rfl, trivial⟩ (fun f1 => ?_)
                      refine wk_then ?_
                      refine wc_region ?_
                      refine wl_val (at_move rfl) rfl ?_
                      refine wl_val (at_add rfl rfl) rfl ?_
                      refine wl_val (at_assign rfl) rfl ?_
                      refine wl_nil ?_
                      exact wk_again ⟨((IntKind.wrap .i64 (s110 + 1))), _, ac_again ⟨rfl, rfl, rfl, rfl, rfl, trivial⟩, so, h⟩
                  · intro J132 h hJ132
                    refine wc_wo [0, 0, 3, 7, 15, 15, 63, 127, 15, 511, 1023, 15, 4095, 8191, 16383, 32767, 32767, 131071, 262143, 32767, 1048575, 2097151, 32767, 8388607, 16777215] mixed (by kernel_rfl) so ?_; intro w135 hw so; rw [← hw] at h; clear hw
                    refine wo_pure (m' := 1) 0 rfl (by kernel_rfl) rfl rfl (fun H => at_move rfl) ?_
                    refine wo_pure (m' := 3) 1 rfl (by kernel_rfl) rfl rfl (fun H => at_move rfl) ?_
                    refine wo_pure (m' := 7) 2 rfl (by kernel_rfl) rfl rfl (fun H => at_lss rfl rfl) ?_
                    refine wo_pure (m' := 15) 3 rfl (by kernel_rfl) rfl rfl (fun H => at_move rfl) ?_
                    refine bif_ h (fun hb h => ?_) (fun hb h => ?_)
                    · refine wo_set (t := 132) (v := .bool true) (congrArg Value.bool hb) ?_; clear hb
                      refine wo_pureG (m' := 31) 4 rfl (by kernel_rfl) rfl (t := 132) rfl (by decide) rfl (fun H => at_move rfl) ?_
                      refine wo_pureG (m' := 63) 5 rfl (by kernel_rfl) rfl (t := 132) rfl (by decide) rfl (fun H => at_move rfl) ?_
                      obtain ⟨q136, q137, h⟩ := h
                      refine wo_pureG (m' := 127) 6 rfl (by kernel_rfl) rfl (t := 132) rfl (by decide) rfl (fun H => at_ixAddrL Try.underlying29 sz25 (sl_some q123) rfl q136 q137) ?_
                      refine wo_pureG (m' := 383) 8 rfl (by kernel_rfl) rfl (t := 132) rfl (by decide) rfl (fun H => at_move rfl) ?_
                      obtain ⟨x138, q139, h⟩ := h
                      refine wo_loadG (m' := 511) 7 (fun H => cellAt H (p122.add (Int.toNat s86 * 1)) = some (.slice x138.a x138.n x138.c)) rfl (by kernel_rfl) rfl (t := 132) rfl (by decide) rfl (fun H q139 => at_load Try.underlying25 rfl rfl q139) q139 ?_
                      obtain ⟨q140, q141, p142, q143, h⟩ := h
                      refine wo_pureG (m' := 1023) 9 rfl (by kernel_rfl) rfl (t := 132) rfl (by decide) rfl (fun H => at_ixAddrL Try.underlying25 sz42 (sl_some q143) rfl q140 q141) ?_
                      obtain ⟨x144, x145, x146, q147, h⟩ := h
                      refine wo_loadG (m' := 2047) 10 (fun H => ldA H (p142.add (Int.toNat s110 * 3)) (c42 x144 x145 x146)) rfl (by kernel_rfl) rfl (t := 132) rfl (by decide) rfl (fun H q147 => at_loadA (cs := (c42 x144 x145 x146)) Try.underlying42 rfl (by rw [len42]; exact sz42) rfl q147) q147 ?_
                      obtain ⟨x148, x149, x150, q151, h⟩ := h
                      refine wo_loadG (m' := 4095) 11 (fun H => ldA H (⟨b126, 0, none⟩ : Addr) (c42 x148 x149 x150)) rfl (by kernel_rfl) rfl (t := 132) rfl (by decide) rfl (fun H q151 => at_loadA (cs := (c42 x148 x149 x150)) Try.underlying42 rfl (by rw [len42]; exact sz42) rfl q151) q151 ?_
                      refine wo_pureG (m' := 8191) 12 rfl (by kernel_rfl) rfl (t := 132) rfl (by decide) rfl (fun H => at_neqA (xs := (c42 x144 x145 x146)) (ys := (c42 x148 x149 x150)) rfl rfl (by kernel_rfl) (eqv_struct Try.underlying42 (by kernel_rfl) (eqf_cons rfl (pt_one (v := .int .u8 x144) Try.underlying5 rfl rfl) (pt_one (v := .int .u8 x148) Try.underlying5 rfl rfl) (eqv_int Try.underlying5) (eqf_cons rfl (pt_one (v := .int .i8 x145) Try.underlying39 rfl rfl) (pt_one (v := .int .i8 x149) Try.underlying39 rfl rfl) (eqv_int Try.underlying39) (eqf_last rfl (pt_one (v := .int .u16 x146) Try.underlying40 rfl rfl) (pt_one (v := .int .u16 x150) Try.underlying40 rfl rfl) (eqv_int Try.underlying40)))))) ?_
                      refine wo_pure (m' := 16383) 13 rfl (by kernel_rfl) rfl rfl (fun H => at_pick_t rfl rfl) ?_
                      refine wo_pure (m' := 32767) 14 rfl (by kernel_rfl) rfl rfl (fun H => at_move rfl) ?_
                      refine bif_ h (fun hb h => ?_) (fun hb h => ?_)
                      · refine wo_set (t := 143) (v := .bool true) (congrArg Value.bool hb) ?_; clear hb
                        refine wo_off (m' := 65535) 15 rfl (by kernel_rfl) rfl (t := 143) rfl (by decide) rfl ?_
                        refine wo_off (m' := 131071) 16 rfl (by kernel_rfl) rfl (t := 143) rfl (by decide) rfl ?_
                        refine wo_off (m' := 262143) 17 rfl (by kernel_rfl) rfl (t := 143) rfl (by decide) rfl ?_
                        refine wo_off (m' := 524287) 18 rfl (by kernel_rfl) rfl (t := 143) rfl (by decide) rfl ?_
                        refine wo_off (m' := 1048575) 19 rfl (by kernel_rfl) rfl (t := 143) rfl (by decide) rfl ?_
                        refine wo_off (m' := 2097151) 20 rfl (by kernel_rfl) rfl (t := 143) rfl (by decide) rfl ?_
                        refine wo_off (m' := 4194303) 21 rfl (by kernel_rfl) rfl (t := 143) rfl (by decide) rfl ?_
                        refine wo_off (m' := 8388607) 22 rfl (by kernel_rfl) rfl (t := 143) rfl (by decide) rfl ?_
                        refine wo_off (m' := 16777215) 23 rfl (by kernel_rfl) rfl (t := 143) rfl (by decide) rfl ?_
                        refine wo_pure (m' := 33554431) 24 rfl (by kernel_rfl) rfl rfl (fun H => at_pick_t rfl rfl) ?_
                        refine wo_done (by kernel_rfl) ?_
                        exact wk_prune [(0, .slice a0.a a0.n a0.c), (1, .slice a1.a a1.n a1.c), (9, .slice s51.1.a s51.1.n s51.1.c), (13, .int .i64 s86), (15, .int .i64 s110), (153, .bool true)] ⟨rfl, rfl, rfl, rfl, rfl, rfl, trivial⟩ (fun f1 => hJ132 (true) _ f1 h so)
                      · refine wo_set (t := 143) (v := .bool false) (congrArg Value.bool hb) ?_; clear hb
                        refine wo_pureG (m' := 65535) 15 rfl (by kernel_rfl) rfl (t := 143) rfl (by decide) rfl (fun H => at_move rfl) ?_
                        refine wo_pureG (m' := 131071) 16 rfl (by kernel_rfl) rfl (t := 143) rfl (by decide) rfl (fun H => at_move rfl) ?_
                        obtain ⟨q152, q153, h⟩ := h
                        refine wo_pureG (m' := 262143) 17 rfl (by kernel_rfl) rfl (t := 143) rfl (by decide) rfl (fun H => at_ixAddrL Try.underlying29 sz25 (sl_some q117) rfl q152 q153) ?_
                        refine wo_pureG (m' := 786431) 19 rfl (by kernel_rfl) rfl (t := 143) rfl (by decide) rfl (fun H => at_move rfl) ?_
                        obtain ⟨x154, q155, h⟩ := h
                        refine wo_loadG (m' := 1048575) 18 (fun H => cellAt H (p116.add (Int.toNat s86 * 1)) = some (.slice x154.a x154.n x154.c)) rfl (by kernel_rfl) rfl (t := 143) rfl (by decide) rfl (fun H q155 => at_load Try.underlying25 rfl rfl q155) q155 ?_
                        obtain ⟨q156, q157, p158, q159, h⟩ := h
                        refine wo_pureG (m' := 2097151) 20 rfl (by kernel_rfl) rfl (t := 143) rfl (by decide) rfl (fun H => at_ixAddrL Try.underlying25 sz42 (sl_some q159) rfl q156 q157) ?_
                        obtain ⟨x160, x161, x162, q163, h⟩ := h
                        refine wo_loadG (m' := 4194303) 21 (fun H => ldA H (p158.add (Int.toNat s110 * 3)) (c42 x160 x161 x162)) rfl (by kernel_rfl) rfl (t := 143) rfl (by decide) rfl (fun H q163 => at_loadA (cs := (c42 x160 x161 x162)) Try.underlying42 rfl (by rw [len42]; exact sz42) rfl q163) q163 ?_
                        obtain ⟨x164, x165, x166, q167, h⟩ := h
                        refine wo_loadG (m' := 8388607) 22 (fun H => ldA H (⟨b126, 0, none⟩ : Addr) (c42 x164 x165 x166)) rfl (by kernel_rfl) rfl (t := 143) rfl (by decide) rfl (fun H q167 => at_loadA (cs := (c42 x164 x165 x166)) Try.underlying42 rfl (by rw [len42]; exact sz42) rfl q167) q167 ?_
                        refine wo_pureG (m' := 16777215) 23 rfl (by kernel_rfl) rfl (t := 143) rfl (by decide) rfl (fun H => at_neqA (xs := (c42 x160 x161 x162)) (ys := (c42 x164 x165 x166)) rfl rfl (by kernel_rfl) (eqv_struct Try.underlying42 (by kernel_rfl) (eqf_cons rfl (pt_one (v := .int .u8 x160) Try.underlying5 rfl rfl) (pt_one (v := .int .u8 x164) Try.underlying5 rfl rfl) (eqv_int Try.underlying5) (eqf_cons rfl (pt_one (v := .int .i8 x161) Try.underlying39 rfl rfl) (pt_one (v := .int .i8 x165) Try.underlying39 rfl rfl) (eqv_int Try.underlying39) (eqf_last rfl (pt_one (v := .int .u16 x162) Try.underlying40 rfl rfl) (pt_one (v := .int .u16 x166) Try.underlying40 rfl rfl) (eqv_int Try.underlying40)))))) ?_
                        refine wo_pure (m' := 33554431) 24 rfl (by kernel_rfl) rfl rfl (fun H => at_pick_f rfl rfl) ?_
                        refine wo_done (by kernel_rfl) ?_
                        exact wk_prune [(0, .slice a0.a a0.n a0.c), (1, .slice a1.a a1.n a1.c), (9, .slice s51.1.a s51.1.n s51.1.c), (13, .int .i64 s86), (15, .int .i64 s110), (153, .bool (!((x160 == x164) && ((x161 == x165) && (x162 == x166)))))] ⟨rfl, rfl, rfl, rfl, rfl, rfl, trivial⟩ (fun f1 => hJ132 ((!((x160 == x164) && ((x161 == x165) && (x162 == x166))))) _ f1 h so)
                    · refine wo_set (t := 132) (v := .bool false) (congrArg Value.bool hb) ?_; clear hb
                      refine wo_off (m' := 31) 4 rfl (by kernel_rfl) rfl (t := 132) rfl (by decide) rfl ?_
                      refine wo_off (m' := 63) 5 rfl (by kernel_rfl) rfl (t := 132) rfl (by decide) rfl ?_
                      refine wo_off (m' := 127) 6 rfl (by kernel_rfl) rfl (t := 132) rfl (by decide) rfl ?_
                      refine wo_off (m' := 255) 7 rfl (by kernel_rfl) rfl (t := 132) rfl (by decide) rfl ?_
                      refine wo_off (m' := 511) 8 rfl (by kernel_rfl) rfl (t := 132) rfl (by decide) rfl ?_
                      refine wo_off (m' := 1023) 9 rfl (by kernel_rfl) rfl (t := 132) rfl (by decide) rfl ?_
                      refine wo_off (m' := 2047) 10 rfl (by kernel_rfl) rfl (t := 132) rfl (by decide) rfl ?_
                      refine wo_off (m' := 4095) 11 rfl (by kernel_rfl) rfl (t := 132) rfl (by decide) rfl ?_
                      refine wo_off (m' := 8191) 12 rfl (by kernel_rfl) rfl (t := 132) rfl (by decide) rfl ?_
                      refine wo_pure (m' := 16383) 13 rfl (by kernel_rfl) rfl rfl (fun H => at_pick_f rfl rfl) ?_
                      refine wo_pure (m' := 32767) 14 rfl (by kernel_rfl) rfl rfl (fun H => at_move rfl) ?_
                      refine wo_pureG (m' := 65535) 15 rfl (by kernel_rfl) rfl (t := 143) rfl (by decide) rfl (fun H => at_move rfl) ?_
                      refine wo_pureG (m' := 131071) 16 rfl (by kernel_rfl) rfl (t := 143) rfl (by decide) rfl (fun H => at_move rfl) ?_
                      obtain ⟨q168, q169, h⟩ := h
                      refine wo_pureG (m' := 262143) 17 rfl (by kernel_rfl) rfl (t := 143) rfl (by decide) rfl (fun H => at_ixAddrL Try.underlying29 sz25 (sl_some q117) rfl q168 q169) ?_
                      refine wo_pureG (m' := 786431) 19 rfl (by kernel_rfl) rfl (t := 143) rfl (by decide) rfl (fun H => at_move rfl) ?_
                      obtain ⟨x170, q171, h⟩ := h
                      refine wo_loadG (m' := 1048575) 18 (fun H => cellAt H (p116.add (Int.toNat s86 * 1)) = some (.slice x170.a x170.n x170.c)) rfl (by kernel_rfl) rfl (t := 143) rfl (by decide) rfl (fun H q171 => at_load Try.underlying25 rfl rfl q171) q171 ?_
                      obtain ⟨q172, q173, p174, q175, h⟩ := h
                      refine wo_pureG (m' := 2097151) 20 rfl (by kernel_rfl) rfl (t := 143) rfl (by decide) rfl (fun H => at_ixAddrL Try.underlying25 sz42 (sl_some q175) rfl q172 q173) ?_
                      obtain ⟨x176, x177, x178, q179, h⟩ := h
                      refine wo_loadG (m' := 4194303) 21 (fun H => ldA H (p174.add (Int.toNat s110 * 3)) (c42 x176 x177 x178)) rfl (by kernel_rfl) rfl (t := 143) rfl (by decide) rfl (fun H q179 => at_loadA (cs := (c42 x176 x177 x178)) Try.underlying42 rfl (by rw [len42]; exact sz42) rfl q179) q179 ?_
                      obtain ⟨x180, x181, x182, q183, h⟩ := h
                      refine wo_loadG (m' := 8388607) 22 (fun H => ldA H (⟨b126, 0, none⟩ : Addr) (c42 x180 x181 x182)) rfl (by kernel_rfl) rfl (t := 143) rfl (by decide) rfl (fun H q183 => at_loadA (cs := (c42 x180 x181 x182)) Try.underlying42 rfl (by rw [len42]; exact sz42) rfl q183) q183 ?_
                      refine wo_pureG (m' := 16777215) 23 rfl (by kernel_rfl) rfl (t := 143) rfl (by decide) rfl (fun H => at_neqA (xs := (c42 x176 x177 x178)) (ys := (c42 x180 x181 x182)) rfl rfl (by kernel_rfl) (eqv_struct Try.underlying42 (by kernel_rfl) (eqf_cons rfl (pt_one (v := .int .u8 x176) Try.underlying5 rfl rfl) (pt_one (v := .int .u8 x180) Try.underlying5 rfl rfl) (eqv_int Try.underlying5) (eqf_cons rfl (pt_one (v := .int .i8 x177) Try.underlying39 rfl rfl) (pt_one (v := .int .i8 x181) Try.underlying39 rfl rfl) (eqv_int Try.underlying39) (eqf_last rfl (pt_one (v := .int .u16 x178) Try.underlying40 rfl rfl) (pt_one (v := .int .u16 x182) Try.underlying40 rfl rfl) (eqv_int Try.underlying40)))))) ?_
                      refine wo_pure (m' := 33554431) 24 rfl (by kernel_rfl) rfl rfl (fun H => at_pick_f rfl rfl) ?_
                      refine wo_done (by kernel_rfl) ?_
                      exact wk_prune [(0, .slice a0.a a0.n a0.c), (1, .slice a1.a a1.n a1.c), (9, .slice s51.1.a s51.1.n s51.1.c), (13, .int .i64 s86), (15, .int .i64 s110), (153, .bool (!((x176 == x180) && ((x177 == x181) && (x178 == x182)))))] ⟨rfl, rfl, rfl, rfl, rfl, rfl, trivial⟩ (fun f1 => hJ132 ((!((x176 == x180) && ((x177 == x181) && (x178 == x182))))) _ f1 h so)
                · intro J129 h hJ129
                  refine wc_seq ?_
                  refine wc_region ?_
                  refine wl_val (at_move rfl) rfl ?_
                  refine wl_val (at_move rfl) rfl ?_
                  refine wl_val (at_geq rfl rfl) rfl ?_
                  refine wl_nil ?_
                  refine wk_prune [(0, .slice a0.a a0.n a0.c), (1, .slice a1.a a1.n a1.c), (9, .slice s51.1.a s51.1.n s51.1.c), (13, .int .i64 s86), (15, .int .i64 s110), (16, .int .i64 (x124.n : Int)), (17, .pointer (some (⟨b126, 0, none⟩ : Addr))), (127, .bool (decide ((x124.n : Int) ≤ s110)))] ⟨rfl, rfl, rfl, rfl, rfl, rfl, rfl, rfl, trivial⟩ (fun f1 => ?_)
                  refine wk_then ?_
                  refine wc_cond rfl h (fun h => ?_) (fun h => ?_)
                  · refine wc_region ?_
                    refine wl_val (at_fieldAddr Try.underlying42 rfl rfl sz5 (by decide) rfl) rfl ?_
                    refine wl_st (v := .int .u8 78) h rfl so (fun q1 q2 => ef_store (sz := sz5) rfl rfl rfl q1 q2) ?_; intro w184 h so
                    refine wl_nil ?_
                    exact wk_prune [(0, .slice a0.a a0.n a0.c), (1, .slice a1.a a1.n a1.c), (9, .slice s51.1.a s51.1.n s51.1.c), (13, .int .i64 s86), (15, .int .i64 s110), (16, .int .i64 (x124.n : Int)), (17, .pointer (some (⟨b126, 0, none⟩ : Addr)))] ⟨rfl, rfl, rfl, rfl, rfl, rfl, rfl, trivial⟩ (fun f1 => hJ129 () _ f1 h so)
                  · refine wc_skip ?_
                    exact wk_prune [(0, .slice a0.a a0.n a0.c), (1, .slice a1.a a1.n a1.c), (9, .slice s51.1.a s51.1.n s51.1.c), (13, .int .i64 s86), (15, .int .i64 s110), (16, .int .i64 (x124.n : Int)), (17, .pointer (some (⟨b126, 0, none⟩ : Addr)))] ⟨rfl, rfl, rfl, rfl, rfl, rfl, rfl, trivial⟩ (fun f1 => hJ129 () _ f1 h so)
              · refine wc_exit ?_
                refine wk_thenE ?_
                refine wk_thenE ?_
                refine wk_blkE ?_
                refine wk_blkN ?_
                exact wk_prune [(0, .slice a0.a a0.n a0.c), (1, .slice a1.a a1.n a1.c), (9, .slice s51.1.a s51.1.n s51.1.c), (13, .int .i64 s86)] ⟨rfl, rfl, rfl, rfl, trivial⟩ (fun f1 => hJ90 () _ f1 h so)
        · refine wc_exit ?_
          refine wk_thenE ?_
          refine wk_thenE ?_
          refine wk_blkE ?_
          refine wk_prune [] trivial (fun f1 => ?_)
          refine wk_then ?_
          refine wc_seq ?_
          refine wc_region ?_
          refine wl_val (at_assign rfl) rfl ?_
          refine wl_nil ?_
          refine wk_prune [(4, .bool true)] ⟨rfl, trivial⟩ (fun f1 => ?_)
          refine wk_then ?_
          refine wc_ret ?_
          exact wk_ret1 (x := true) rfl (by decide) rfl so h

/-- mosaic/mosaiclaw07.act -/
def mosaiclaw07_act.enc : Bool → Value := fun r => .bool r
def mosaiclaw07_act.s (a0 : Option Addr) (a1 : Option Addr) (a2_0 : Int) (a2_1 : Int) (a2_2 : Int) (a2_3 : Int) (H0 : Hp) (Q : Bool → Hp → Prop) : Prop :=
  Gn [] H0 (fun (b1 : Nat) (H2 : Hp) => if (a2_0 == 1) = true then (mosaicref07_Builder_Take.s a1 a2_1 a2_2 a2_3 H2 (fun x3 H4 => Pv [b1] H2 H4 ∧ (runs_Builder_Take.s a0 a2_1 a2_2 a2_3 H4 (fun x6 H7 => Q (x6 == x3) H7)))) else (if (a2_0 == 2) = true then (runs_Builder_Wants.s a0 a2_1 H2 (fun x8 H9 => Pv [b1] H2 H9 ∧ (mosaicref07_Builder_Wants.s a1 a2_1 H9 (fun x11 H12 => Join (fun (s14 : Bool) (H15 : Hp) => Q s14 H15) (fun (J13 : Bool → Hp → Prop) => if (x8.1 == x11.1) = true then (J13 ((x8.2 == x11.2)) H12) else (J13 (false) H12)))))) else (if (a2_0 == 3) = true then (runs_Builder_Done.s a0 H2 (fun x16 H17 => mosaicref07_Builder_Done.s a1 H17 (fun x18 H19 => Q (x16 == x18) H19))) else (if (a2_0 == 4) = true then (someA a1 (fun p21 => ∃ x23 : Ints 64, ldA H2 (p21.add 0) (c24 x23) ∧ (runs_Builder_Block.s a0 H2 (fun x25 H26 => ldA H26 (p21.add 0) (c24 x23) ∧ (Q (x25.1 == x23.1) H26))))) else (Q true H2)))))
set_option maxRecDepth 20000 in
set_option maxHeartbeats 4000000 in
theorem mosaiclaw07_act.calls (a0 : Option Addr) (a1 : Option Addr) (a2_0 : Int) (a2_1 : Int) (a2_2 : Int) (a2_3 : Int) (w0 : World) (Q : Bool → Hp → Prop) (h : mosaiclaw07_act.s a0 a1 a2_0 a2_1 a2_2 a2_3 w0.heap Q) :
    Ca Try.prog 16 #[.pointer a0, .pointer a1, .agg (c44 a2_0 a2_1 a2_2 a2_3).toArray] w0 (Rt mosaiclaw07_act.enc Q w0) := by
  refine ca_start (c := _) Try.func16 rfl Try.ntmps16 rfl ?_
  have so : Sm w0 w0 := Sm.refl w0
  unfold mosaiclaw07_act.s at h
  refine wc_prune [(0, .pointer a0), (1, .pointer a1), (2, .agg (c44 a2_0 a2_1 a2_2 a2_3).toArray)] ⟨rfl, rfl, rfl, trivial⟩ (fun f1 => ?_)
  refine wc_seq ?_
  refine wc_region ?_
  refine wl_newT (T := 44) (cs := (c44 a2_0 a2_1 a2_2 a2_3)) (ef_box rfl rfl) rfl so ?_; intro b1 w2 hb_b1 t_b1 k_b1 so
  have g_b1 := Nat.le_of_eq hb_b1.symm
  have hc := k_b1.ch (F := [])
  refine wl_val (at_assign rfl) rfl ?_
  refine wl_nil ?_
  refine wk_prune [(0, .pointer a0), (1, .pointer a1), (5, .pointer (some (⟨b1, 0, none⟩ : Addr)))] ⟨rfl, rfl, rfl, trivial⟩ (fun f1 => ?_)
  refine wk_then ?_
  refine wc_seq ?_
  refine wc_seq ?_
  refine wc_region ?_
  refine wl_val (at_fieldAddr Try.underlying44 rfl rfl sz3 (by decide) rfl) rfl ?_
  refine wl_val (at_load (v := .int .i64 a2_0) Try.underlying3 rfl rfl ((t_b1.cell 0).trans (by first | rfl | simp [List.getElem?_append, ints_len, bools_len]))) rfl ?_
  refine wl_nil ?_
  refine wk_prune [(0, .pointer a0), (1, .pointer a1), (5, .pointer (some (⟨b1, 0, none⟩ : Addr))), (13, .int .i64 a2_0)] ⟨rfl, rfl, rfl, rfl, trivial⟩ (fun f1 => ?_)
  refine wk_then ?_
  refine wc_block ?_
  refine wc_seq ?_
  refine wc_region ?_
  refine wl_val (at_eql rfl rfl) rfl ?_
  refine wl_val (at_assign rfl) rfl ?_
  refine wl_nil ?_
  refine wk_prune [(0, .pointer a0), (1, .pointer a1), (5, .pointer (some (⟨b1, 0, none⟩ : Addr))), (13, .int .i64 a2_0), (14, .bool (a2_0 == 1))] ⟨rfl, rfl, rfl, rfl, rfl, trivial⟩ (fun f1 => ?_)
  refine wk_then ?_
  replace h := h b1 _ hc g_b1 t_b1.lt; clear hc
  refine wc_cond rfl h (fun h => ?_) (fun h => ?_)
  · refine wc_seq ?_
    refine wc_region ?_
    refine wl_val (at_move rfl) rfl ?_
    refine wl_val (at_fieldAddr Try.underlying44 rfl rfl sz42 (by decide) rfl) rfl ?_
    refine wl_val (at_loadA (cs := (c42 a2_1 a2_2 a2_3)) Try.underlying42 rfl (by rw [len42]; exact sz42) rfl (ldA_sub (pre := ([.int .i64 a2_0])) (sub := (c42 a2_1 a2_2 a2_3)) (post := []) (by first | exact t_b1 | (have q := t_b1; simp only [List.append_assoc, List.cons_append, List.nil_append, List.append_nil] at q ⊢; exact q)) (by first | rfl | simp [ints_len, bools_len]))) rfl ?_
    refine wl_callF (mosaicref07_Builder_Take.calls _ _ _ _ _ _ h) enter36 rfl trivial so ?_; intro x3 w4 h so
    obtain ⟨q5, h⟩ := h
    replace t_b1 := pv_bk q5 t_b1 (by simp)
    refine wl_val (at_assign rfl) rfl ?_
    refine wl_nil ?_
    refine wk_prune [(0, .pointer a0), (5, .pointer (some (⟨b1, 0, none⟩ : Addr))), (7, .int .i64 x3)] ⟨rfl, rfl, rfl, trivial⟩ (fun f1 => ?_)
    refine wk_then ?_
    refine wc_seq ?_
    refine wc_region ?_
    refine wl_val (at_move rfl) rfl ?_
    refine wl_val (at_fieldAddr Try.underlying44 rfl rfl sz42 (by decide) rfl) rfl ?_
    refine wl_val (at_loadA (cs := (c42 a2_1 a2_2 a2_3)) Try.underlying42 rfl (by rw [len42]; exact sz42) rfl (ldA_sub (pre := ([.int .i64 a2_0])) (sub := (c42 a2_1 a2_2 a2_3)) (post := []) (by first | exact t_b1 | (have q := t_b1; simp only [List.append_assoc, List.cons_append, List.nil_append, List.append_nil] at q ⊢; exact q)) (by first | rfl | simp [ints_len, bools_len]))) rfl ?_
    refine wl_callF (runs_Builder_Take.calls _ _ _ _ _ _ h) enter28 rfl trivial so ?_; intro x6 w7 h so
    refine wl_val (at_move rfl) rfl ?_
    refine wl_val (at_eql rfl rfl) rfl ?_
    refine wl_val (at_assign rfl) rfl ?_
    refine wl_nil ?_
    refine wk_prune [(6, .bool (x6 == x3))] ⟨rfl, trivial⟩ (fun f1 => ?_)
    refine wk_then ?_
    refine wc_ret ?_
    refine wk_blkR ?_
    refine wk_thenR ?_
    exact wk_ret1 (x := (x6 == x3)) rfl (by decide) rfl so h
  · refine wc_seq ?_
    refine wc_region ?_
    refine wl_val (at_eql rfl rfl) rfl ?_
    refine wl_val (at_assign rfl) rfl ?_
    refine wl_nil ?_
    refine wk_prune [(0, .pointer a0), (1, .pointer a1), (5, .pointer (some (⟨b1, 0, none⟩ : Addr))), (13, .int .i64 a2_0), (26, .bool (a2_0 == 2))] ⟨rfl, rfl, rfl, rfl, rfl, trivial⟩ (fun f1 => ?_)
    refine wk_then ?_
    refine wc_cond rfl h (fun h => ?_) (fun h => ?_)
    · refine wc_seq ?_
      refine wc_region ?_
      refine wl_val (at_move rfl) rfl ?_
      refine wl_val (at_fieldAddr Try.underlying44 rfl rfl sz42 (by decide) rfl) rfl ?_
      refine wl_val (at_fieldAddr Try.underlying42 rfl rfl sz5 (by decide) rfl) rfl ?_
      refine wl_val (at_load (v := .int .u8 a2_1) Try.underlying5 rfl rfl ((t_b1.cell 1).trans (by first | rfl | simp [List.getElem?_append, ints_len, bools_len]))) rfl ?_
      refine wl_callF (runs_Builder_Wants.calls _ _ _ _ h) enter27 rfl trivial so ?_; intro x8 w9 h so
      obtain ⟨q10, h⟩ := h
      replace t_b1 := pv_bk q10 t_b1 (by simp)
      refine wl_val (at_move rfl) rfl ?_
      refine wl_val (at_extract rfl rfl) rfl ?_
      refine wl_val (at_extract rfl rfl) rfl ?_
      refine wl_val (at_assign rfl) rfl ?_
      refine wl_val (at_assign rfl) rfl ?_
      refine wl_nil ?_
      refine wk_prune [(1, .pointer a1), (5, .pointer (some (⟨b1, 0, none⟩ : Addr))), (8, .int .i8 x8.1), (9, .int .i64 x8.2)] ⟨rfl, rfl, rfl, rfl, trivial⟩ (fun f1 => ?_)
      refine wk_then ?_
      refine wc_seq ?_
      refine wc_region ?_
      refine wl_val (at_move rfl) rfl ?_
      refine wl_val (at_fieldAddr Try.underlying44 rfl rfl sz42 (by decide) rfl) rfl ?_
      refine wl_val (at_fieldAddr Try.underlying42 rfl rfl sz5 (by decide) rfl) rfl ?_
      refine wl_val (at_load (v := .int .u8 a2_1) Try.underlying5 rfl rfl ((t_b1.cell 1).trans (by first | rfl | simp [List.getElem?_append, ints_len, bools_len]))) rfl ?_
      refine wl_callF (mosaicref07_Builder_Wants.calls _ _ _ _ h) enter37 rfl trivial so ?_; intro x11 w12 h so
      refine wl_val (at_move rfl) rfl ?_
      refine wl_val (at_extract rfl rfl) rfl ?_
      refine wl_val (at_extract rfl rfl) rfl ?_
      refine wl_val (at_assign rfl) rfl ?_
      refine wl_val (at_assign rfl) rfl ?_
      refine wl_nil ?_
      refine wk_prune [(8, .int .i8 x8.1), (9, .int .i64 x8.2), (10, .int .i8 x11.1), (11, .int .i64 x11.2)] ⟨rfl, rfl, rfl, rfl, trivial⟩ (fun f1 => ?_)
      refine wk_then ?_
      refine wc_seq ?_
      refine wc_join (w0 := w0) (fun (s14 : Bool) => [(6, .bool s14)]) h ?_ ?_
      · rintro s14 w15 f1 h so; refine wk_then ?_
        refine wc_ret ?_
        refine wk_blkR ?_
        refine wk_thenR ?_
        exact wk_ret1 (x := s14) rfl (by decide) rfl so h
      · intro J13 h hJ13
        refine wc_region ?_
        refine wl_val (at_move rfl) rfl ?_
        refine wl_val (at_move rfl) rfl ?_
        refine wl_val (at_eql rfl rfl) rfl ?_
        refine wl_val (at_move rfl) rfl ?_
        refine bif_ h (fun hb h => ?_) (fun hb h => ?_)
        · refine wl_set (t := 47) (v := .bool true) (congrArg Value.bool hb) ?_; clear hb
          refine wl_on (t := 47) rfl (by decide) rfl ?_
          refine wl_val (at_move rfl) rfl ?_
          refine wl_on (t := 47) rfl (by decide) rfl ?_
          refine wl_val (at_move rfl) rfl ?_
          refine wl_on (t := 47) rfl (by decide) rfl ?_
          refine wl_val (at_eql rfl rfl) rfl ?_
          refine wl_val (at_pick_t rfl rfl) rfl ?_
          refine wl_val (at_assign rfl) rfl ?_
          refine wl_nil ?_
          exact wk_prune [(6, .bool (x8.2 == x11.2))] ⟨rfl, trivial⟩ (fun f1 => hJ13 ((x8.2 == x11.2)) _ f1 h so)
        · refine wl_set (t := 47) (v := .bool false) (congrArg Value.bool hb) ?_; clear hb
          refine wl_off (t := 47) rfl (by decide) rfl ?_
          refine wl_off (t := 47) rfl (by decide) rfl ?_
          refine wl_off (t := 47) rfl (by decide) rfl ?_
          refine wl_val (at_pick_f rfl rfl) rfl ?_
          refine wl_val (at_assign rfl) rfl ?_
          refine wl_nil ?_
          exact wk_prune [(6, .bool false)] ⟨rfl, trivial⟩ (fun f1 => hJ13 (false) _ f1 h so)
    · refine wc_seq ?_
      refine wc_region ?_
      refine wl_val (at_eql rfl rfl) rfl ?_
      refine wl_val (at_assign rfl) rfl ?_
      refine wl_nil ?_
      refine wk_prune [(0, .pointer a0), (1, .pointer a1), (13, .int .i64 a2_0), (52, .bool (a2_0 == 3))] ⟨rfl, rfl, rfl, rfl, trivial⟩ (fun f1 => ?_)
      refine wk_then ?_
      refine wc_cond rfl h (fun h => ?_) (fun h => ?_)
      · refine wc_seq ?_
        refine wc_region ?_
        refine wl_val (at_move rfl) rfl ?_
        refine wl_callF (runs_Builder_Done.calls _ _ _ h) enter18 rfl trivial so ?_; intro x16 w17 h so
        refine wl_val (at_move rfl) rfl ?_
        refine wl_callF (mosaicref07_Builder_Done.calls _ _ _ h) enter19 rfl trivial so ?_; intro x18 w19 h so
        refine wl_val (at_eqlB Try.underlying4 rfl rfl) rfl ?_
        refine wl_val (at_assign rfl) rfl ?_
        refine wl_nil ?_
        refine wk_prune [(6, .bool (x16 == x18))] ⟨rfl, trivial⟩ (fun f1 => ?_)
        refine wk_then ?_
        refine wc_ret ?_
        refine wk_blkR ?_
        refine wk_thenR ?_
        exact wk_ret1 (x := (x16 == x18)) rfl (by decide) rfl so h
      · refine wc_seq ?_
        refine wc_region ?_
        refine wl_val (at_eql rfl rfl) rfl ?_
        refine wl_val (at_assign rfl) rfl ?_
        refine wl_nil ?_
        refine wk_prune [(0, .pointer a0), (1, .pointer a1), (59, .bool (a2_0 == 4))] ⟨rfl, rfl, rfl, trivial⟩ (fun f1 => ?_)
        refine wk_then ?_
        refine wc_cond rfl h (fun h => ?_) (fun h => ?_)
        · refine wc_seq ?_
          refine wc_wo [0, 1, 0, 4, 12, 28, 63, 127] mixed (by kernel_rfl) so ?_; intro w20 hw so; rw [← hw] at h; clear hw
          refine wo_pure (m' := 1) 0 rfl (by kernel_rfl) rfl rfl (fun H => at_move rfl) ?_
          refine wo_pure (m' := 5) 2 rfl (by kernel_rfl) rfl rfl (fun H => at_move rfl) ?_
          obtain ⟨p21, q22, h⟩ := h
          refine wo_pure (m' := 13) 3 rfl (by kernel_rfl) rfl rfl (fun H => at_nilCheck (congrArg Value.pointer q22)) ?_
          refine wo_pure (m' := 29) 4 rfl (by kernel_rfl) rfl rfl (fun H => at_fieldAddr Try.underlying47 rfl rfl sz24 (by decide) rfl) ?_
          obtain ⟨x23, q24, h⟩ := h
          refine wo_load (m' := 61) 5 (fun H => ldA H (p21.add 0) (c24 x23)) rfl (by kernel_rfl) rfl rfl (fun H q24 => at_loadA (cs := (c24 x23)) Try.underlying24 rfl (by rw [len24]; exact sz24) rfl q24) q24 ?_
          refine wo_take (m' := 63) 1 [false] rfl (by kernel_rfl) rfl (by kernel_rfl) ?_
          refine wl_callF (runs_Builder_Block.calls _ _ _ h) enter17 rfl trivial so ?_; intro x25 w26 h so
          refine wl_nil ?_
          obtain ⟨q27, h⟩ := h
          refine wk_tq ⟨q27, trivial⟩ ?_
          refine wo_pure (m' := 127) 6 rfl (by kernel_rfl) rfl rfl (fun H => at_eqlA (xs := (c24 x25)) (ys := (c24 x23)) rfl rfl (by kernel_rfl) (eqv_ints Try.underlying24 Try.underlying22 sz22)) ?_
          refine wo_pure (m' := 255) 7 rfl (by kernel_rfl) rfl rfl (fun H => at_assign rfl) ?_
          refine wo_done (by kernel_rfl) ?_
          refine wk_prune [(6, .bool (x25.1 == x23.1))] ⟨rfl, trivial⟩ (fun f1 => ?_)
          refine wk_then ?_
          refine wc_ret ?_
          refine wk_blkR ?_
          refine wk_thenR ?_
          exact wk_ret1 (x := (x25.1 == x23.1)) rfl (by decide) rfl so h
        · refine wc_skip ?_
          refine wk_blkN ?_
          refine wk_prune [] trivial (fun f1 => ?_)
          refine wk_then ?_
          refine wc_seq ?_
          refine wc_region ?_
          refine wl_val (at_assign rfl) rfl ?_
          refine wl_nil ?_
          refine wk_prune [(6, .bool true)] ⟨rfl, trivial⟩ (fun f1 => ?_)
          refine wk_then ?_
          refine wc_ret ?_
          exact wk_ret1 (x := true) rfl (by decide) rfl so h

/-- mosaic/mosaiclaw07.alive -/
def mosaiclaw07_alive.enc : Bool → Value := fun r => .bool r
def mosaiclaw07_alive.s (H0 : Hp) (Q : Bool → Hp → Prop) : Prop :=
  Gn [] H0 (fun (b1 : Nat) (H3 : Hp) => runs_Symbols.s (mkI (n := 64) [5, (-3), 0, 0, 7, 0, 0, 0, 0, 0, 0, 0, 0, 0, 0, 0, 0, 0, 0, 0, 0, 0, 0, 0, 0, 0, 0, 0, 0, 0, 0, 0, 0, 0, 0, 0, 0, 0, 0, 0, 0, 0, 0, 0, 0, 0, 0, 0, 0, 0, 0, 0, 0, 0, 0, 0, 0, 0, 0, 0, 0, 0, 0, 0] (by rfl)) 7 H3 (fun x4 H5 => Pv [b1] H3 H5 ∧ (Join (fun (s8 : Bool) (H9 : Hp) => if s8 = true then (Q false H9) else (runs_Block.s x4.1 7 H9 (fun x10 H11 => Pv [b1] H9 H11 ∧ (Gn [] H11 (fun (b13 : Nat) (H15 : Hp) => if (x10.2 == 0) = true then (Q (x10.1.1 == (mkI (n := 64) [5, (-3), 0, 0, 7, 0, 0, 0, 0, 0, 0, 0, 0, 0, 0, 0, 0, 0, 0, 0, 0, 0, 0, 0, 0, 0, 0, 0, 0, 0, 0, 0, 0, 0, 0, 0, 0, 0, 0, 0, 0, 0, 0, 0, 0, 0, 0, 0, 0, 0, 0, 0, 0, 0, 0, 0, 0, 0, 0, 0, 0, 0, 0, 0] (by rfl)).1) H15) else (Q false H15)))))) (fun (J7 : Bool → Hp → Prop) => if (x4.2 != 0) = true then (J7 (true) H5) else (if ((x4.1.n : Int) != 4) = true then (J7 (true) H5) else (0 ≤ (0 : Int) ∧ (0 : Int) < (x4.1.n : Int) ∧ someA x4.1.a (fun p18 => ∃ x20 : Int, ∃ x21 : Int, ∃ x22 : Int, ldA H5 (p18.add (Int.toNat 0 * 3)) (c42 x20 x21 x22) ∧ (if (!((x20 == 2) && ((x21 == 2) && (x22 == 1)))) = true then (J7 (true) H5) else (0 ≤ (2 : Int) ∧ (2 : Int) < (x4.1.n : Int) ∧ (∃ x26 : Int, ∃ x27 : Int, ∃ x28 : Int, ldA H5 (p18.add (Int.toNat 2 * 3)) (c42 x26 x27 x28) ∧ (J7 ((!((x26 == 35) && ((x27 == 3) && (x28 == 7))))) H5)))))))))))
set_option maxRecDepth 20000 in
set_option maxHeartbeats 4000000 in
theorem mosaiclaw07_alive.calls (w0 : World) (Q : Bool → Hp → Prop) (h : mosaiclaw07_alive.s w0.heap Q) :
    Ca Try.prog 22 #[] w0 (Rt mosaiclaw07_alive.enc Q w0) := by
  refine ca_start (c := _) Try.func22 rfl Try.ntmps22 rfl ?_
  have so : Sm w0 w0 := Sm.refl w0
  unfold mosaiclaw07_alive.s at h
  refine wc_prune [] trivial (fun f1 => ?_)
  refine wc_seq ?_
  refine wc_region ?_
  refine wl_val (at_assign rfl) rfl ?_
  refine wl_nil ?_
  refine wk_prune [] trivial (fun f1 => ?_)
  refine wk_then ?_
  refine wc_seq ?_
  refine wc_region ?_
  refine wl_val (at_build (cs := (c24 (mkI (n := 64) [5, (-3), 0, 0, 7, 0, 0, 0, 0, 0, 0, 0, 0, 0, 0, 0, 0, 0, 0, 0, 0, 0, 0, 0, 0, 0, 0, 0, 0, 0, 0, 0, 0, 0, 0, 0, 0, 0, 0, 0, 0, 0, 0, 0, 0, 0, 0, 0, 0, 0, 0, 0, 0, 0, 0, 0, 0, 0, 0, 0, 0, 0, 0, 0] (by rfl)))) (ps := [(0, .int .i16 5), (1, .int .i16 (-3)), (2, .int .i16 0), (3, .int .i16 0), (4, .int .i16 7)]) rfl (build_array (vs := [.int .i16 0, .int .i16 0, .int .i16 0, .int .i16 0, .int .i16 0, .int .i16 0, .int .i16 0, .int .i16 0, .int .i16 0, .int .i16 0, .int .i16 0, .int .i16 0, .int .i16 0, .int .i16 0, .int .i16 0, .int .i16 0, .int .i16 0, .int .i16 0, .int .i16 0, .int .i16 0, .int .i16 0, .int .i16 0, .int .i16 0, .int .i16 0, .int .i16 0, .int .i16 0, .int .i16 0, .int .i16 0, .int .i16 0, .int .i16 0, .int .i16 0, .int .i16 0, .int .i16 0, .int .i16 0, .int .i16 0, .int .i16 0, .int .i16 0, .int .i16 0, .int .i16 0, .int .i16 0, .int .i16 0, .int .i16 0, .int .i16 0, .int .i16 0, .int .i16 0, .int .i16 0, .int .i16 0, .int .i16 0, .int .i16 0, .int .i16 0, .int .i16 0, .int .i16 0, .int .i16 0, .int .i16 0, .int .i16 0, .int .i16 0, .int .i16 0, .int .i16 0, .int .i16 0, .int .i16 0, .int .i16 0, .int .i16 0, .int .i16 0, .int .i16 0]) (cs := (c24 (mkI (n := 64) [5, (-3), 0, 0, 7, 0, 0, 0, 0, 0, 0, 0, 0, 0, 0, 0, 0, 0, 0, 0, 0, 0, 0, 0, 0, 0, 0, 0, 0, 0, 0, 0, 0, 0, 0, 0, 0, 0, 0, 0, 0, 0, 0, 0, 0, 0, 0, 0, 0, 0, 0, 0, 0, 0, 0, 0, 0, 0, 0, 0, 0, 0, 0, 0] (by rfl)))) zero24 (by first | rfl | simp [z24, c24, Value.cells, ints_len, bools_len, List.flatMap]) Try.underlying24 sz22 (by first | rfl | simp [z24, c24, Value.cells, ints_len, bools_len]) (by simp [z24, c24, Value.cells, ints_len, bools_len]) (by first | rfl | simp [z24, c24, Value.cells, ints_len, bools_len, List.set, List.flatMap, mkI, mkB, ints, bools]))) rfl ?_
  refine wl_newT (T := 24) (cs := (c24 (zInts 64))) (ef_alloc zero24 rfl) rfl so ?_; intro b1 w2 hb_b1 t_b1 k_b1 so
  have g_b1 := Nat.le_of_eq hb_b1.symm
  have hc := k_b1.ch (F := [])
  refine wl_stWT (vs := (c24 (mkI (n := 64) [5, (-3), 0, 0, 7, 0, 0, 0, 0, 0, 0, 0, 0, 0, 0, 0, 0, 0, 0, 0, 0, 0, 0, 0, 0, 0, 0, 0, 0, 0, 0, 0, 0, 0, 0, 0, 0, 0, 0, 0, 0, 0, 0, 0, 0, 0, 0, 0, 0, 0, 0, 0, 0, 0, 0, 0, 0, 0, 0, 0, 0, 0, 0, 0] (by rfl)))) t_b1 (by first | (rw [len24, len24]) | (rw [len24]) | rfl) rfl so (fun q => ef_storeA (p := (⟨b1, 0, none⟩ : Addr)) (cs := (c24 (mkI (n := 64) [5, (-3), 0, 0, 7, 0, 0, 0, 0, 0, 0, 0, 0, 0, 0, 0, 0, 0, 0, 0, 0, 0, 0, 0, 0, 0, 0, 0, 0, 0, 0, 0, 0, 0, 0, 0, 0, 0, 0, 0, 0, 0, 0, 0, 0, 0, 0, 0, 0, 0, 0, 0, 0, 0, 0, 0, 0, 0, 0, 0, 0, 0, 0, 0] (by rfl)))) (by rw [len24]; exact sz24) rfl rfl (one24 _) q) ?_; intro w3 t_b1 s_w3 so
  replace hc := ch_same hc s_w3 (.inr g_b1)
  refine wl_nil ?_
  refine wk_prune [(1, .pointer (some (⟨b1, 0, none⟩ : Addr)))] ⟨rfl, trivial⟩ (fun f1 => ?_)
  refine wk_then ?_
  refine wc_seq ?_
  refine wc_region ?_
  refine wl_val (at_loadA (cs := (c24 (mkI (n := 64) [5, (-3), 0, 0, 7, 0, 0, 0, 0, 0, 0, 0, 0, 0, 0, 0, 0, 0, 0, 0, 0, 0, 0, 0, 0, 0, 0, 0, 0, 0, 0, 0, 0, 0, 0, 0, 0, 0, 0, 0, 0, 0, 0, 0, 0, 0, 0, 0, 0, 0, 0, 0, 0, 0, 0, 0, 0, 0, 0, 0, 0, 0, 0, 0] (by rfl)))) Try.underlying24 rfl (by rw [len24]; exact sz24) rfl (ldA_full t_b1)) rfl ?_
  replace h := h b1 _ hc g_b1 t_b1.lt; clear hc
  refine wl_callF (runs_Symbols.calls _ _ _ _ h) enter11 rfl trivial so ?_; intro x4 w5 h so
  obtain ⟨q6, h⟩ := h
  replace t_b1 := pv_bk q6 t_b1 (by simp)
  refine wl_val (at_move rfl) rfl ?_
  refine wl_val (at_extract rfl rfl) rfl ?_
  refine wl_val (at_extract rfl rfl) rfl ?_
  refine wl_val (at_assign rfl) rfl ?_
  refine wl_val (at_assign rfl) rfl ?_
  refine wl_nil ?_
  refine wk_prune [(1, .pointer (some (⟨b1, 0, none⟩ : Addr))), (2, .slice x4.1.a x4.1.n x4.1.c), (3, .int .i64 x4.2)] ⟨rfl, rfl, rfl, trivial⟩ (fun f1 => ?_)
  refine wk_then ?_
  refine wc_seq ?_
  refine wc_seq ?_
  refine wc_joinG (w0 := w0) (fun (H : Hp) => Bk H b1 24 (c24 (mkI (n := 64) [5, (-3), 0, 0, 7, 0, 0, 0, 0, 0, 0, 0, 0, 0, 0, 0, 0, 0, 0, 0, 0, 0, 0, 0, 0, 0, 0, 0, 0, 0, 0, 0, 0, 0, 0, 0, 0, 0, 0, 0, 0, 0, 0, 0, 0, 0, 0, 0, 0, 0, 0, 0, 0, 0, 0, 0, 0, 0, 0, 0, 0, 0, 0, 0] (by rfl))) ∧ True) (fun (s8 : Bool) => [(1, .pointer (some (⟨b1, 0, none⟩ : Addr))), (2, .slice x4.1.a x4.1.n x4.1.c), (32, .bool s8)]) (fun (s8 : Bool) => []) h ?_ ?_
  · rintro s8 w9 f1 h ⟨t_b1, _⟩ so; refine wk_then ?_
    refine wc_cond rfl h (fun h => ?_) (fun h => ?_)
    · refine wc_seq ?_
      refine wc_region ?_
      refine wl_val (at_assign rfl) rfl ?_
      refine wl_nil ?_
      refine wk_prune [(0, .bool false)] ⟨rfl, trivial⟩ (fun f1 => ?_)
      refine wk_then ?_
      refine wc_ret ?_
      refine wk_thenR ?_
      exact wk_ret1 (x := false) rfl (by decide) rfl so h
    · refine wc_skip ?_
      refine wk_prune [(1, .pointer (some (⟨b1, 0, none⟩ : Addr))), (2, .slice x4.1.a x4.1.n x4.1.c)] ⟨rfl, rfl, trivial⟩ (fun f1 => ?_)
      refine wk_then ?_
      refine wc_seq ?_
      refine wc_region ?_
      refine wl_val (at_move rfl) rfl ?_
      refine wl_callF (runs_Block.calls _ _ _ _ h) enter21 rfl trivial so ?_; intro x10 w11 h so
      obtain ⟨q12, h⟩ := h
      replace t_b1 := pv_bk q12 t_b1 (by simp)
      refine wl_val (at_move rfl) rfl ?_
      refine wl_val (at_extract rfl rfl) rfl ?_
      refine wl_val (at_extract rfl rfl) rfl ?_
      refine wl_newT (T := 24) (cs := (c24 (zInts 64))) (ef_alloc zero24 rfl) rfl so ?_; intro b13 w14 hb_b13 t_b13 k_b13 so
      have g_b13 := Nat.le_of_eq hb_b13.symm
      have hc := k_b13.ch (F := [])
      have n_b1_b13 : b1 ≠ b13 := fun e => by have := t_b1.lt; omega
      replace t_b1 := t_b1.keep k_b13
      refine wl_stWT (vs := (c24 x10.1)) t_b13 (by first | (rw [len24, len24]) | (rw [len24]) | rfl) rfl so (fun q => ef_storeA (p := (⟨b13, 0, none⟩ : Addr)) (cs := (c24 x10.1)) (by rw [len24]; exact sz24) rfl rfl (one24 _) q) ?_; intro w15 t_b13 s_w15 so
      replace t_b1 := t_b1.same s_w15 (n_b1_b13)
      replace hc := ch_same hc s_w15 (.inr g_b13)
      refine wl_val (at_assign rfl) rfl ?_
      refine wl_nil ?_
      refine wk_prune [(1, .pointer (some (⟨b1, 0, none⟩ : Addr))), (4, .pointer (some (⟨b13, 0, none⟩ : Addr))), (5, .int .i64 x10.2)] ⟨rfl, rfl, rfl, trivial⟩ (fun f1 => ?_)
      refine wk_then ?_
      refine wc_seq ?_
      refine wc_region ?_
      refine wl_val (at_move rfl) rfl ?_
      refine wl_val (at_eql rfl rfl) rfl ?_
      refine wl_val (at_move rfl) rfl ?_
      replace h := h b13 _ hc g_b13 t_b13.lt; clear hc
      refine bif_ h (fun hb h => ?_) (fun hb h => ?_)
      · refine wl_set (t := 40) (v := .bool true) (congrArg Value.bool hb) ?_; clear hb
        refine wl_on (t := 40) rfl (by decide) rfl ?_
        refine wl_val (at_loadA (cs := (c24 x10.1)) Try.underlying24 rfl (by rw [len24]; exact sz24) rfl (ldA_full t_b13)) rfl ?_
        refine wl_on (t := 40) rfl (by decide) rfl ?_
        refine wl_val (at_loadA (cs := (c24 (mkI (n := 64) [5, (-3), 0, 0, 7, 0, 0, 0, 0, 0, 0, 0, 0, 0, 0, 0, 0, 0, 0, 0, 0, 0, 0, 0, 0, 0, 0, 0, 0, 0, 0, 0, 0, 0, 0, 0, 0, 0, 0, 0, 0, 0, 0, 0, 0, 0, 0, 0, 0, 0, 0, 0, 0, 0, 0, 0, 0, 0, 0, 0, 0, 0, 0, 0] (by rfl)))) Try.underlying24 rfl (by rw [len24]; exact sz24) rfl (ldA_full t_b1)) rfl ?_
        refine wl_on (t := 40) rfl (by decide) rfl ?_
        refine wl_val (at_eqlA (xs := (c24 x10.1)) (ys := (c24 (mkI (n := 64) [5, (-3), 0, 0, 7, 0, 0, 0, 0, 0, 0, 0, 0, 0, 0, 0, 0, 0, 0, 0, 0, 0, 0, 0, 0, 0, 0, 0, 0, 0, 0, 0, 0, 0, 0, 0, 0, 0, 0, 0, 0, 0, 0, 0, 0, 0, 0, 0, 0, 0, 0, 0, 0, 0, 0, 0, 0, 0, 0, 0, 0, 0, 0, 0] (by rfl)))) rfl rfl (by kernel_rfl) (eqv_ints Try.underlying24 Try.underlying22 sz22)) rfl ?_
        refine wl_val (at_pick_t rfl rfl) rfl ?_
        refine wl_val (at_assign rfl) rfl ?_
        refine wl_nil ?_
        refine wk_prune [(0, .bool (x10.1.1 == (mkI (n := 64) [5, (-3), 0, 0, 7, 0, 0, 0, 0, 0, 0, 0, 0, 0, 0, 0, 0, 0, 0, 0, 0, 0, 0, 0, 0, 0, 0, 0, 0, 0, 0, 0, 0, 0, 0, 0, 0, 0, 0, 0, 0, 0, 0, 0, 0, 0, 0, 0, 0, 0, 0, 0, 0, 0, 0, 0, 0, 0, 0, 0, 0, 0, 0, 0] (by rfl)).1))] ⟨rfl, trivial⟩ (fun f1 => ?_)
        refine wk_then ?_
        refine wc_ret ?_
        exact wk_ret1 (x := (x10.1.1 == (mkI (n := 64) [5, (-3), 0, 0, 7, 0, 0, 0, 0, 0, 0, 0, 0, 0, 0, 0, 0, 0, 0, 0, 0, 0, 0, 0, 0, 0, 0, 0, 0, 0, 0, 0, 0, 0, 0, 0, 0, 0, 0, 0, 0, 0, 0, 0, 0, 0, 0, 0, 0, 0, 0, 0, 0, 0, 0, 0, 0, 0, 0, 0, 0, 0, 0, 0] (by rfl)).1)) rfl (by decide) rfl so h
      · refine wl_set (t := 40) (v := .bool false) (congrArg Value.bool hb) ?_; clear hb
        refine wl_off (t := 40) rfl (by decide) rfl ?_
        refine wl_off (t := 40) rfl (by decide) rfl ?_
        refine wl_off (t := 40) rfl (by decide) rfl ?_
        refine wl_val (at_pick_f rfl rfl) rfl ?_
        refine wl_val (at_assign rfl) rfl ?_
        refine wl_nil ?_
        refine wk_prune [(0, .bool false)] ⟨rfl, trivial⟩ (fun f1 => ?_)
        refine wk_then ?_
        refine wc_ret ?_
        exact wk_ret1 (x := false) rfl (by decide) rfl so h
  · intro J7 h hJ7
    refine wc_region ?_
    refine wl_val (at_move rfl) rfl ?_
    refine wl_val (at_neq rfl rfl) rfl ?_
    refine wl_val (at_move rfl) rfl ?_
    refine bif_ h (fun hb h => ?_) (fun hb h => ?_)
    · refine wl_set (t := 14) (v := .bool true) (congrArg Value.bool hb) ?_; clear hb
      refine wl_off (t := 14) rfl (by decide) rfl ?_
      refine wl_off (t := 14) rfl (by decide) rfl ?_
      refine wl_off (t := 14) rfl (by decide) rfl ?_
      refine wl_val (at_pick_t rfl rfl) rfl ?_
      refine wl_val (at_move rfl) rfl ?_
      refine wl_off (t := 19) rfl (by decide) rfl ?_
      refine wl_off (t := 19) rfl (by decide) rfl ?_
      refine wl_off (t := 19) rfl (by decide) rfl ?_
      refine wl_off (t := 19) rfl (by decide) rfl ?_
      refine wl_off (t := 19) rfl (by decide) rfl ?_
      refine wl_val (at_pick_t rfl rfl) rfl ?_
      refine wl_val (at_move rfl) rfl ?_
      refine wl_off (t := 26) rfl (by decide) rfl ?_
      refine wl_off (t := 26) rfl (by decide) rfl ?_
      refine wl_off (t := 26) rfl (by decide) rfl ?_
      refine wl_off (t := 26) rfl (by decide) rfl ?_
      refine wl_off (t := 26) rfl (by decide) rfl ?_
      refine wl_val (at_pick_t rfl rfl) rfl ?_
      refine wl_nil ?_
      exact wk_prune [(1, .pointer (some (⟨b1, 0, none⟩ : Addr))), (2, .slice x4.1.a x4.1.n x4.1.c), (32, .bool true)] ⟨rfl, rfl, rfl, trivial⟩ (fun f1 => hJ7 (true) _ f1 h ⟨t_b1, trivial⟩ so)
    · refine wl_set (t := 14) (v := .bool false) (congrArg Value.bool hb) ?_; clear hb
      refine wl_on (t := 14) rfl (by decide) rfl ?_
      refine wl_val (at_move rfl) rfl ?_
      refine wl_on (t := 14) rfl (by decide) rfl ?_
      refine wl_val (at_lenL Try.underlying25 rfl) rfl ?_
      refine wl_on (t := 14) rfl (by decide) rfl ?_
      refine wl_val (at_neq rfl rfl) rfl ?_
      refine wl_val (at_pick_f rfl rfl) rfl ?_
      refine wl_val (at_move rfl) rfl ?_
      refine bif_ h (fun hb h => ?_) (fun hb h => ?_)
      · refine wl_set (t := 19) (v := .bool true) (congrArg Value.bool hb) ?_; clear hb
        refine wl_off (t := 19) rfl (by decide) rfl ?_
        refine wl_off (t := 19) rfl (by decide) rfl ?_
        refine wl_off (t := 19) rfl (by decide) rfl ?_
        refine wl_off (t := 19) rfl (by decide) rfl ?_
        refine wl_off (t := 19) rfl (by decide) rfl ?_
        refine wl_val (at_pick_t rfl rfl) rfl ?_
        refine wl_val (at_move rfl) rfl ?_
        refine wl_off (t := 26) rfl (by decide) rfl ?_
        refine wl_off (t := 26) rfl (by decide) rfl ?_
        refine wl_off (t := 26) rfl (by decide) rfl ?_
        refine wl_off (t := 26) rfl (by decide) rfl ?_
        refine wl_off (t := 26) rfl (by decide) rfl ?_
        refine wl_val (at_pick_t rfl rfl) rfl ?_
        refine wl_nil ?_
        exact wk_prune [(1, .pointer (some (⟨b1, 0, none⟩ : Addr))), (2, .slice x4.1.a x4.1.n x4.1.c), (32, .bool true)] ⟨rfl, rfl, rfl, trivial⟩ (fun f1 => hJ7 (true) _ f1 h ⟨t_b1, trivial⟩ so)
      · refine wl_set (t := 19) (v := .bool false) (congrArg Value.bool hb) ?_; clear hb
        refine wl_on (t := 19) rfl (by decide) rfl ?_
        refine wl_val (at_move rfl) rfl ?_
        refine wl_on (t := 19) rfl (by decide) rfl ?_
        obtain ⟨q16, q17, p18, q19, h⟩ := h
        refine wl_val (at_ixAddrL Try.underlying25 sz42 (sl_some q19) rfl q16 q17) rfl ?_
        refine wl_on (t := 19) rfl (by decide) rfl ?_
        obtain ⟨x20, x21, x22, q23, h⟩ := h
        refine wl_val (at_loadA (cs := (c42 x20 x21 x22)) Try.underlying42 rfl (by rw [len42]; exact sz42) rfl q23) rfl ?_
        refine wl_on (t := 19) rfl (by decide) rfl ?_
        refine wl_val (at_build (cs := (c42 2 2 1)) (ps := [(0, .int .u8 2), (1, .int .i8 2), (2, .int .u16 1)]) rfl (fun w => by simp [Instr.build, Instr.fill, go_sem, Try.underlying42, z42])) rfl ?_
        refine wl_on (t := 19) rfl (by decide) rfl ?_
        refine wl_val (at_neqA (xs := (c42 x20 x21 x22)) (ys := (c42 2 2 1)) rfl rfl (by kernel_rfl) (eqv_struct Try.underlying42 (by kernel_rfl) (eqf_cons rfl (pt_one (v := .int .u8 x20) Try.underlying5 rfl rfl) (pt_one (v := .int .u8 2) Try.underlying5 rfl rfl) (eqv_int Try.underlying5) (eqf_cons rfl (pt_one (v := .int .i8 x21) Try.underlying39 rfl rfl) (pt_one (v := .int .i8 2) Try.underlying39 rfl rfl) (eqv_int Try.underlying39) (eqf_last rfl (pt_one (v := .int .u16 x22) Try.underlying40 rfl rfl) (pt_one (v := .int .u16 1) Try.underlying40 rfl rfl) (eqv_int Try.underlying40)))))) rfl ?_
        refine wl_val (at_pick_f rfl rfl) rfl ?_
        refine wl_val (at_move rfl) rfl ?_
        refine bif_ h (fun hb h => ?_) (fun hb h => ?_)
        · refine wl_set (t := 26) (v := .bool true) (congrArg Value.bool hb) ?_; clear hb
          refine wl_off (t := 26) rfl (by decide) rfl ?_
          refine wl_off (t := 26) rfl (by decide) rfl ?_
          refine wl_off (t := 26) rfl (by decide) rfl ?_
          refine wl_off (t := 26) rfl (by decide) rfl ?_
          refine wl_off (t := 26) rfl (by decide) rfl ?_
          refine wl_val (at_pick_t rfl rfl) rfl ?_
          refine wl_nil ?_
          exact wk_prune [(1, .pointer (some (⟨b1, 0, none⟩ : Addr))), (2, .slice x4.1.a x4.1.n x4.1.c), (32, .bool true)] ⟨rfl, rfl, rfl, trivial⟩ (fun f1 => hJ7 (true) _ f1 h ⟨t_b1, trivial⟩ so)
        · refine wl_set (t := 26) (v := .bool false) (congrArg Value.bool hb) ?_; clear hb
          refine wl_on (t := 26) rfl (by decide) rfl ?_
          refine wl_val (at_move rfl) rfl ?_
          refine wl_on (t := 26) rfl (by decide) rfl ?_
          obtain ⟨q24, q25, h⟩ := h
          refine wl_val (at_ixAddrL Try.underlying25 sz42 (sl_some q19) rfl q24 q25) rfl ?_
          refine wl_on (t := 26) rfl (by decide) rfl ?_
          obtain ⟨x26, x27, x28, q29, h⟩ := h
          refine wl_val (at_loadA (cs := (c42 x26 x27 x28)) Try.underlying42 rfl (by rw [len42]; exact sz42) rfl q29) rfl ?_
          refine wl_on (t := 26) rfl (by decide) rfl ?_
          refine wl_val (at_build (cs := (c42 35 3 7)) (ps := [(0, .int .u8 35), (1, .int .i8 3), (2, .int .u16 7)]) rfl (fun w => by simp [Instr.build, Instr.fill, go_sem, Try.underlying42, z42])) rfl ?_
          refine wl_on (t := 26) rfl (by decide) rfl ?_
          refine wl_val (at_neqA (xs := (c42 x26 x27 x28)) (ys := (c42 35 3 7)) rfl rfl (by kernel_rfl) (eqv_struct Try.underlying42 (by kernel_rfl) (eqf_cons rfl (pt_one (v := .int .u8 x26) Try.underlying5 rfl rfl) (pt_one (v := .int .u8 35) Try.underlying5 rfl rfl) (eqv_int Try.underlying5) (eqf_cons rfl (pt_one (v := .int .i8 x27) Try.underlying39 rfl rfl) (pt_one (v := .int .i8 3) Try.underlying39 rfl rfl) (eqv_int Try.underlying39) (eqf_last rfl (pt_one (v := .int .u16 x28) Try.underlying40 rfl rfl) (pt_one (v := .int .u16 7) Try.underlying40 rfl rfl) (eqv_int Try.underlying40)))))) rfl ?_
          refine wl_val (at_pick_f rfl rfl) rfl ?_
          refine wl_nil ?_
          exact wk_prune [(1, .pointer (some (⟨b1, 0, none⟩ : Addr))), (2, .slice x4.1.a x4.1.n x4.1.c), (32, .bool (!((x26 == 35) && ((x27 == 3) && (x28 == 7)))))] ⟨rfl, rfl, rfl, trivial⟩ (fun f1 => hJ7 ((!((x26 == 35) && ((x27 == 3) && (x28 == 7))))) _ f1 h ⟨t_b1, trivial⟩ so)

/-- mosaic/mosaiclaw07.within -/
def mosaiclaw07_within.enc : Int → Value := fun r => .int .i16 r
def mosaiclaw07_within.s (a0 : Int) (a1 : Int) (a2 : Int) (H0 : Hp) (Q : Int → Hp → Prop) : Prop :=
  (IntKind.wrap .i64 ((IntKind.wrap .i64 (a2 - a1)) + 1)) ≠ 0 ∧ (Lt ((Int.tmod (IntKind.wrap .i64 ((IntKind.wrap .i64 a0) - a1)) (IntKind.wrap .i64 ((IntKind.wrap .i64 (a2 - a1)) + 1))) : Int) (fun x2 => Join (fun (s5 : Int) (H6 : Hp) => Lt ((IntKind.wrap .i16 (IntKind.wrap .i64 (a1 + s5))) : Int) (fun x7 => Q x7 H6)) (fun (J4 : Int → Hp → Prop) => if decide (x2 < 0) = true then (Lt ((IntKind.wrap .i64 ((IntKind.wrap .i64 ((IntKind.wrap .i64 (x2 + a2)) - a1)) + 1)) : Int) (fun x9 => J4 (x9) H0)) else (J4 (x2) H0))))
set_option maxRecDepth 20000 in
set_option maxHeartbeats 4000000 in
theorem mosaiclaw07_within.calls (a0 : Int) (a1 : Int) (a2 : Int) (w0 : World) (Q : Int → Hp → Prop) (h : mosaiclaw07_within.s a0 a1 a2 w0.heap Q) :
    Ca Try.prog 24 #[.int .i16 a0, .int .i64 a1, .int .i64 a2] w0 (Rt mosaiclaw07_within.enc Q w0) := by
  refine ca_start (c := _) Try.func24 rfl Try.ntmps24 rfl ?_
  have so : Sm w0 w0 := Sm.refl w0
  unfold mosaiclaw07_within.s at h
  refine wc_prune [(0, .int .i16 a0), (1, .int .i64 a1), (2, .int .i64 a2)] ⟨rfl, rfl, rfl, trivial⟩ (fun f1 => ?_)
  refine wc_seq ?_
  refine wc_region ?_
  refine wl_val (at_assign rfl) rfl ?_
  refine wl_nil ?_
  refine wk_prune [(0, .int .i16 a0), (1, .int .i64 a1), (2, .int .i64 a2)] ⟨rfl, rfl, rfl, trivial⟩ (fun f1 => ?_)
  refine wk_then ?_
  refine wc_seq ?_
  refine wc_region ?_
  refine wl_val (at_move rfl) rfl ?_
  refine wl_val (at_conv Try.underlying22 Try.underlying3 rfl) rfl ?_
  refine wl_val (at_move rfl) rfl ?_
  refine wl_val (at_sub rfl rfl) rfl ?_
  refine wl_val (at_move rfl) rfl ?_
  refine wl_val (at_move rfl) rfl ?_
  refine wl_val (at_sub rfl rfl) rfl ?_
  refine wl_val (at_add rfl rfl) rfl ?_
  obtain ⟨q1, h⟩ := h
  refine wl_val (at_rem rfl rfl q1) rfl ?_
  refine wl_val (at_assign rfl) rfl ?_
  obtain ⟨x2, e3⟩ : ∃ x : Int, x = (Int.tmod (IntKind.wrap .i64 ((IntKind.wrap .i64 a0) - a1)) (IntKind.wrap .i64 ((IntKind.wrap .i64 (a2 - a1)) + 1))) := ⟨_, rfl⟩; replace h := h x2 e3
  refine wl_set (t := 7) (v := .int .i64 x2) (congrArg (Value.int .i64) e3.symm) ?_
  refine wl_nil ?_
  refine wk_prune [(1, .int .i64 a1), (2, .int .i64 a2), (7, .int .i64 x2)] ⟨rfl, rfl, rfl, trivial⟩ (fun f1 => ?_)
  refine wk_then ?_
  refine wc_seq ?_
  refine wc_join (w0 := w0) (fun (s5 : Int) => [(1, .int .i64 a1), (7, .int .i64 s5)]) h ?_ ?_
  · rintro s5 w6 f1 h so; refine wk_then ?_
    refine wc_seq ?_
    refine wc_region ?_
    refine wl_val (at_move rfl) rfl ?_
    refine wl_val (at_move rfl) rfl ?_
    refine wl_val (at_add rfl rfl) rfl ?_
    refine wl_val (at_conv Try.underlying3 Try.underlying22 rfl) rfl ?_
    refine wl_val (at_assign rfl) rfl ?_
    obtain ⟨x7, e8⟩ : ∃ x : Int, x = (IntKind.wrap .i16 (IntKind.wrap .i64 (a1 + s5))) := ⟨_, rfl⟩; replace h := h x7 e8
    refine wl_set (t := 6) (v := .int .i16 x7) (congrArg (Value.int .i16) e8.symm) ?_
    refine wl_nil ?_
    refine wk_prune [(6, .int .i16 x7)] ⟨rfl, trivial⟩ (fun f1 => ?_)
    refine wk_then ?_
    refine wc_ret ?_
    exact wk_ret1 (x := x7) rfl (by decide) rfl so h
  · intro J4 h hJ4
    refine wc_seq ?_
    refine wc_region ?_
    refine wl_val (at_move rfl) rfl ?_
    refine wl_val (at_lss rfl rfl) rfl ?_
    refine wl_nil ?_
    refine wk_prune [(1, .int .i64 a1), (2, .int .i64 a2), (7, .int .i64 x2), (18, .bool (decide (x2 < 0)))] ⟨rfl, rfl, rfl, rfl, trivial⟩ (fun f1 => ?_)
    refine wk_then ?_
    refine wc_cond rfl h (fun h => ?_) (fun h => ?_)
    · refine wc_region ?_
      refine wl_val (at_move rfl) rfl ?_
      refine wl_val (at_move rfl) rfl ?_
      refine wl_val (at_add rfl rfl) rfl ?_
      refine wl_val (at_move rfl) rfl ?_
      refine wl_val (at_sub rfl rfl) rfl ?_
      refine wl_val (at_add rfl rfl) rfl ?_
      refine wl_val (at_assign rfl) rfl ?_
      obtain ⟨x9, e10⟩ : ∃ x : Int, x = (IntKind.wrap .i64 ((IntKind.wrap .i64 ((IntKind.wrap .i64 (x2 + a2)) - a1)) + 1)) := ⟨_, rfl⟩; replace h := h x9 e10
      refine wl_set (t := 7) (v := .int .i64 x9) (congrArg (Value.int .i64) e10.symm) ?_
      refine wl_nil ?_
      exact wk_prune [(1, .int .i64 a1), (7, .int .i64 x9)] ⟨rfl, rfl, trivial⟩ (fun f1 => hJ4 (x9) _ f1 h so)
    · refine wc_skip ?_
      exact wk_prune [(1, .int .i64 a1), (7, .int .i64 x2)] ⟨rfl, rfl, trivial⟩ (fun f1 => hJ4 (x2) _ f1 h so)

/-- mosaic/mosaiclaw07.fit -/
def mosaiclaw07_fit.enc : (Ints 64) → Value := fun r => .agg (c24 r).toArray
def mosaiclaw07_fit.s (a0_0 : Ints 64) (H0 : Hp) (Q : (Ints 64) → Hp → Prop) : Prop :=
  Gn [] H0 (fun (b1 : Nat) (H2 : Hp) => Gn [] H2 (fun (b3 : Nat) (H4 : Hp) => Bk H4 b1 24 (c24 a0_0) → (ldI .i16 H4 (⟨b1, 0, none⟩ : Addr) (fun x5 => mosaiclaw07_within.s x5 (-1024) 1023 H4 (fun x7 H8 => Pv [b3] H4 H8 ∧ (st H8 (⟨b1, 0, none⟩ : Addr) (.int .i16 x7) (fun H10 => Pv [b3] H8 H10 ∧ (∃ k12, Fix (fun (rec17 : Int → Hp → Prop) (s14 : Int) (H15 : Hp) => if decide (s14 < 64) = true then (0 ≤ s14 ∧ s14 < (64 : Int) ∧ (ldI .i16 H15 ((⟨b1, 0, none⟩ : Addr).add (Int.toNat s14 * 1)) (fun x20 => mosaiclaw07_within.s x20 (-1023) 1023 H15 (fun x22 H23 => Pv [b3] H15 H23 ∧ (0 ≤ s14 ∧ s14 < (64 : Int) ∧ (st H23 ((⟨b1, 0, none⟩ : Addr).add (Int.toNat s14 * 1)) (.int .i16 x22) (fun H27 => Pv [b3] H23 H27 ∧ (rec17 ((IntKind.wrap .i64 (s14 + 1))) H27)))))))) else (∃ x29 : Ints 64, ldA H15 (⟨b1, 0, none⟩ : Addr) (c24 x29) ∧ (Gr [b3] H15 (fun (H31 : Hp) => Q x29 H31)))) k12 (1) H10))))))))
set_option maxRecDepth 20000 in
set_option maxHeartbeats 4000000 in
theorem mosaiclaw07_fit.calls (a0_0 : Ints 64) (w0 : World) (Q : (Ints 64) → Hp → Prop) (h : mosaiclaw07_fit.s a0_0 w0.heap Q) :
    Ca Try.prog 23 #[.agg (c24 a0_0).toArray] w0 (Rt mosaiclaw07_fit.enc Q w0) := by
  refine ca_start (c := _) Try.func23 rfl Try.ntmps23 rfl ?_
  have so : Sm w0 w0 := Sm.refl w0
  unfold mosaiclaw07_fit.s at h
  refine wc_prune [(0, .agg (c24 a0_0).toArray)] ⟨rfl, trivial⟩ (fun f1 => ?_)
  refine wc_seq ?_
  refine wc_region ?_
  refine wl_newT (T := 24) (cs := (c24 a0_0)) (ef_box rfl rfl) rfl so ?_; intro b1 w2 hb_b1 t_b1 k_b1 so
  have g_b1 := Nat.le_of_eq hb_b1.symm
  have hc := k_b1.ch (F := [])
  replace h := h b1 _ hc g_b1 t_b1.lt; clear hc
  refine wl_newT (T := 24) (cs := (c24 (zInts 64))) (ef_alloc zero24 rfl) rfl so ?_; intro b3 w4 hb_b3 t_b3 k_b3 so
  have g_b3 := Nat.le_of_eq hb_b3.symm
  have hc := k_b3.ch (F := [])
  have n_b1_b3 : b1 ≠ b3 := fun e => by have := t_b1.lt; omega
  replace t_b1 := t_b1.keep k_b3
  refine wl_nil ?_
  refine wk_prune [(1, .pointer (some (⟨b1, 0, none⟩ : Addr))), (2, .pointer (some (⟨b3, 0, none⟩ : Addr)))] ⟨rfl, rfl, trivial⟩ (fun f1 => ?_)
  refine wk_then ?_
  refine wc_seq ?_
  refine wc_region ?_
  refine wl_val (at_ixAddrA Try.underlying24 sz22 rfl rfl (by decide) (by decide)) rfl ?_
  replace h := h b3 _ hc g_b3 t_b3.lt; clear hc
  replace h := h t_b1
  obtain ⟨x5, q6, h⟩ := h
  refine wl_val (at_load Try.underlying22 rfl rfl q6) rfl ?_
  refine wl_callF (mosaiclaw07_within.calls _ _ _ _ _ h) enter24 rfl trivial so ?_; intro x7 w8 h so
  obtain ⟨q9, h⟩ := h
  replace t_b3 := pv_bk q9 t_b3 (by simp)
  refine wl_val (at_ixAddrA Try.underlying24 sz22 rfl rfl (by decide) (by decide)) rfl ?_
  refine wl_st (v := .int .i16 x7) h rfl so (fun q1 q2 => ef_store (sz := sz22) rfl rfl rfl q1 q2) ?_; intro w10 h so
  obtain ⟨q11, h⟩ := h
  replace t_b3 := pv_bk q11 t_b3 (by simp)
  refine wl_nil ?_
  refine wk_prune [(1, .pointer (some (⟨b1, 0, none⟩ : Addr))), (2, .pointer (some (⟨b3, 0, none⟩ : Addr)))] ⟨rfl, rfl, trivial⟩ (fun f1 => ?_)
  refine wk_then ?_
  refine wc_seq ?_
  refine wc_seq ?_
  refine wc_region ?_
  refine wl_val (at_assign rfl) rfl ?_
  refine wl_nil ?_
  refine wk_prune [(1, .pointer (some (⟨b1, 0, none⟩ : Addr))), (2, .pointer (some (⟨b3, 0, none⟩ : Addr))), (3, .int .i64 1)] ⟨rfl, rfl, rfl, trivial⟩ (fun f1 => ?_)
  refine wk_then ?_
  refine wc_block ?_
  obtain ⟨k12, h⟩ := h
  refine wc_loop (fun k a w => ∃ (s14 : Int) (f1 : Nat → Value), a = ac 19 (en f1 [(1, .pointer (some (⟨b1, 0, none⟩ : Addr))), (2, .pointer (some (⟨b3, 0, none⟩ : Addr))), (3, .int .i64 s14)]) [] ∧ Sm w0 w ∧ (Bk w.heap b3 24 (c24 (zInts 64)) ∧ True) ∧ Fix _ k s14 w.heap) k12 ⟨(1), _, ac_again ⟨rfl, rfl, rfl, trivial⟩, so, ⟨t_b3, trivial⟩, h⟩ ?_
  rintro k13 a16 w15 ⟨s14, f1, rfl, so, ⟨t_b3, _⟩, h⟩
  rcases k13 with _ | k13
  · exact h.elim
  replace h := Fix.un h; refine wc_in ?_
  refine wc_seq ?_
  refine wc_seq ?_
  refine wc_region ?_
  refine wl_val (at_move rfl) rfl ?_
  refine wl_val (at_lss rfl rfl) rfl ?_
  refine wl_nil ?_
  refine wk_prune [(1, .pointer (some (⟨b1, 0, none⟩ : Addr))), (2, .pointer (some (⟨b3, 0, none⟩ : Addr))), (3, .int .i64 s14), (9, .bool (decide (s14 < 64)))] ⟨rfl, rfl, rfl, rfl, trivial⟩ (fun f1 => ?_)
  refine wk_then ?_
  refine wc_cond rfl h (fun h => ?_) (fun h => ?_)
  · refine wc_skip ?_
    refine wk_prune [(1, .pointer (some (⟨b1, 0, none⟩ : Addr))), (2, .pointer (some (⟨b3, 0, none⟩ : Addr))), (3, .int .i64 s14)] ⟨rfl, rfl, rfl, trivial⟩ (fun f1 => ?_)
    refine wk_then ?_
    refine wc_seq ?_
    refine wc_block ?_
    refine wc_region ?_
    refine wl_val (at_move rfl) rfl ?_
    refine wl_val (at_move rfl) rfl ?_
    obtain ⟨q18, q19, h⟩ := h
    refine wl_val (at_ixAddrA Try.underlying24 sz22 rfl rfl q18 q19) rfl ?_
    obtain ⟨x20, q21, h⟩ := h
    refine wl_val (at_load Try.underlying22 rfl rfl q21) rfl ?_
    refine wl_callF (mosaiclaw07_within.calls _ _ _ _ _ h) enter24 rfl trivial so ?_; intro x22 w23 h so
    obtain ⟨q24, h⟩ := h
    replace t_b3 := pv_bk q24 t_b3 (by simp)
    obtain ⟨q25, q26, h⟩ := h
    refine wl_val (at_ixAddrA Try.underlying24 sz22 rfl rfl q25 q26) rfl ?_
    refine wl_st (v := .int .i16 x22) h rfl so (fun q1 q2 => ef_store (sz := sz22) rfl rfl rfl q1 q2) ?_; intro w27 h so
    obtain ⟨q28, h⟩ := h
    replace t_b3 := pv_bk q28 t_b3 (by simp)
    refine wl_nil ?_
    refine wk_blkN ?_
    refine wk_prune [(1, .pointer (some (⟨b1, 0, none⟩ : Addr))), (2, .pointer (some (⟨b3, 0, none⟩ : Addr))), (3, .int .i64 s14)] ⟨rfl, rfl, rfl, trivial⟩ (fun f1 => ?_)
    refine wk_then ?_
    refine wc_region ?_
    refine wl_val (at_move rfl) rfl ?_
    refine wl_val (at_add rfl rfl) rfl ?_
    refine wl_val (at_assign rfl) rfl ?_
    refine wl_nil ?_
    exact wk_again ⟨((IntKind.wrap .i64 (s14 + 1))), _, ac_again ⟨rfl, rfl, rfl, trivial⟩, so, ⟨t_b3, trivial⟩, h⟩
  · refine wc_exit ?_
    refine wk_thenE ?_
    refine wk_thenE ?_
    refine wk_blkE ?_
    refine wk_prune [(1, .pointer (some (⟨b1, 0, none⟩ : Addr))), (2, .pointer (some (⟨b3, 0, none⟩ : Addr)))] ⟨rfl, rfl, trivial⟩ (fun f1 => ?_)
    refine wk_then ?_
    refine wc_seq ?_
    refine wc_region ?_
    obtain ⟨x29, q30, h⟩ := h
    refine wl_val (at_loadA (cs := (c24 x29)) Try.underlying24 rfl (by rw [len24]; exact sz24) rfl q30) rfl ?_
    refine wl_stWT (vs := (c24 x29)) t_b3 (by first | (rw [len24, len24]) | (rw [len24]) | rfl) rfl so (fun q => ef_storeA (p := (⟨b3, 0, none⟩ : Addr)) (cs := (c24 x29)) (by rw [len24]; exact sz24) rfl rfl (one24 _) q) ?_; intro w31 t_b3 s_w31 so
    have hc := s_w31.ch
    refine wl_nil ?_
    refine wk_prune [(2, .pointer (some (⟨b3, 0, none⟩ : Addr)))] ⟨rfl, trivial⟩ (fun f1 => ?_)
    refine wk_then ?_
    refine wc_ret ?_
    replace h := h _ hc; clear hc
    exact wk_retR1 (x := x29) rfl ⟨by decide, _, rfl, loadVar_agg (cs := (c24 x29)) Try.underlying24 rfl (by rw [len24]; exact sz24) (ldA_full t_b3)⟩ rfl so h

/-- mosaic/mosaiclaw07.same -/
def mosaiclaw07_same.enc : Bool → Value := fun r => .bool r
def mosaiclaw07_same.s (a0 : Sl) (a1 : Sl) (H0 : Hp) (Q : Bool → Hp → Prop) : Prop :=
  if ((a0.n : Int) != (a1.n : Int)) = true then (Q false H0) else (∃ k1, Fix (fun (rec6 : Int → Hp → Prop) (s3 : Int) (H4 : Hp) => if decide (s3 < (a0.n : Int)) = true then (0 ≤ s3 ∧ s3 < (a0.n : Int) ∧ someA a0.a (fun p9 => ∃ x11 : Int, ∃ x12 : Int, ∃ x13 : Int, ldA H4 (p9.add (Int.toNat s3 * 3)) (c42 x11 x12 x13) ∧ (0 ≤ s3 ∧ s3 < (a1.n : Int) ∧ someA a1.a (fun p17 => ∃ x19 : Int, ∃ x20 : Int, ∃ x21 : Int, ldA H4 (p17.add (Int.toNat s3 * 3)) (c42 x19 x20 x21) ∧ (if (!((x11 == x19) && ((x12 == x20) && (x13 == x21)))) = true then (Q false H4) else (rec6 ((IntKind.wrap .i64 (s3 + 1))) H4)))))) else (Q true H4)) k1 (0) H0)
set_option maxRecDepth 20000 in
set_option maxHeartbeats 4000000 in
theorem mosaiclaw07_same.calls (a0 : Sl) (a1 : Sl) (w0 : World) (Q : Bool → Hp → Prop) (h : mosaiclaw07_same.s a0 a1 w0.heap Q) :
    Ca Try.prog 25 #[.slice a0.a a0.n a0.c, .slice a1.a a1.n a1.c] w0 (Rt mosaiclaw07_same.enc Q w0) := by
  refine ca_start (c := _) Try.func25 rfl Try.ntmps25 rfl ?_
  have so : Sm w0 w0 := Sm.refl w0
  unfold mosaiclaw07_same.s at h
  refine wc_prune [(0, .slice a0.a a0.n a0.c), (1, .slice a1.a a1.n a1.c)] ⟨rfl, rfl, trivial⟩ (fun f1 => ?_)
  refine wc_seq ?_
  refine wc_region ?_
  refine wl_val (at_assign rfl) rfl ?_
  refine wl_nil ?_
  refine wk_prune [(0, .slice a0.a a0.n a0.c), (1, .slice a1.a a1.n a1.c)] ⟨rfl, rfl, trivial⟩ (fun f1 => ?_)
  refine wk_then ?_
  refine wc_seq ?_
  refine wc_seq ?_
  refine wc_region ?_
  refine wl_val (at_move rfl) rfl ?_
  refine wl_val (at_lenL Try.underlying25 rfl) rfl ?_
  refine wl_val (at_move rfl) rfl ?_
  refine wl_val (at_lenL Try.underlying25 rfl) rfl ?_
  refine wl_val (at_neq rfl rfl) rfl ?_
  refine wl_nil ?_
  refine wk_prune [(0, .slice a0.a a0.n a0.c), (1, .slice a1.a a1.n a1.c), (10, .bool ((a0.n : Int) != (a1.n : Int)))] ⟨rfl, rfl, rfl, trivial⟩ (fun f1 => ?_)
  refine wk_then ?_
  refine wc_cond rfl h (fun h => ?_) (fun h => ?_)
  · refine wc_seq ?_
    refine wc_region ?_
    refine wl_val (at_assign rfl) rfl ?_
    refine wl_nil ?_
    refine wk_prune [(4, .bool false)] ⟨rfl, trivial⟩ (fun f1 => ?_)
    refine wk_then ?_
    refine wc_ret ?_
    refine wk_thenR ?_
    exact wk_ret1 (x := false) rfl (by decide) rfl so h
  · refine wc_skip ?_
    refine wk_prune [(0, .slice a0.a a0.n a0.c), (1, .slice a1.a a1.n a1.c)] ⟨rfl, rfl, trivial⟩ (fun f1 => ?_)
    refine wk_then ?_
    refine wc_seq ?_
    refine wc_seq ?_
    refine wc_region ?_
    refine wl_val (at_assign rfl) rfl ?_
    refine wl_nil ?_
    refine wk_prune [(0, .slice a0.a a0.n a0.c), (1, .slice a1.a a1.n a1.c), (5, .int .i64 0)] ⟨rfl, rfl, rfl, trivial⟩ (fun f1 => ?_)
    refine wk_then ?_
    refine wc_block ?_
    obtain ⟨k1, h⟩ := h
    refine wc_loop (fun k a w => ∃ (s3 : Int) (f1 : Nat → Value), a = ac 26 (en f1 [(0, .slice a0.a a0.n a0.c), (1, .slice a1.a a1.n a1.c), (5, .int .i64 s3)]) [] ∧ Sm w0 w ∧ Fix _ k s3 w.heap) k1 ⟨(0), _, ac_again ⟨rfl, rfl, rfl, trivial⟩, so, h⟩ ?_
    rintro k2 a5 w4 ⟨s3, f1, rfl, so, h⟩
    rcases k2 with _ | k2
    · exact h.elim
    replace h := Fix.un h; refine wc_in ?_
    refine wc_seq ?_
    refine wc_seq ?_
    refine wc_region ?_
    refine wl_val (at_move rfl) rfl ?_
    refine wl_val (at_move rfl) rfl ?_
    refine wl_val (at_lenL Try.underlying25 rfl) rfl ?_
    refine wl_val (at_lss rfl rfl) rfl ?_
    refine wl_nil ?_
    refine wk_prune [(0, .slice a0.a a0.n a0.c), (1, .slice a1.a a1.n a1.c), (5, .int .i64 s3), (14, .bool (decide (s3 < (a0.n : Int))))] ⟨rfl, rfl, rfl, rfl, trivial⟩ (fun f1 => ?_)
    refine wk_then ?_
    refine wc_cond rfl h (fun h => ?_) (fun h => ?_)
    · refine wc_skip ?_
      refine wk_prune [(0, .slice a0.a a0.n a0.c), (1, .slice a1.a a1.n a1.c), (5, .int .i64 s3)] ⟨rfl, rfl, rfl, trivial⟩ (fun f1 => ?_)
      refine wk_then ?_
      refine wc_seq ?_
      refine wc_block ?_
      refine wc_seq ?_
      refine wc_draw mixed (by kernel_rfl) so ?_
      refine wq_val (at_move rfl) rfl ?_
      refine wq_val (at_move rfl) rfl ?_
      obtain ⟨q7, q8, p9, q10, h⟩ := h
      refine wq_val (at_ixAddrL Try.underlying25 sz42 (sl_some q10) rfl q7 q8) rfl ?_
      obtain ⟨x11, x12, x13, q14, h⟩ := h
      refine wq_val (at_loadA (cs := (c42 x11 x12 x13)) Try.underlying42 rfl (by rw [len42]; exact sz42) rfl q14) rfl ?_
      refine wq_val (at_move rfl) rfl ?_
      refine wq_val (at_move rfl) rfl ?_
      obtain ⟨q15, q16, p17, q18, h⟩ := h
      refine wq_val (at_ixAddrL Try.underlying25 sz42 (sl_some q18) rfl q15 q16) rfl ?_
      obtain ⟨x19, x20, x21, q22, h⟩ := h
      refine wq_val (at_loadA (cs := (c42 x19 x20 x21)) Try.underlying42 rfl (by rw [len42]; exact sz42) rfl q22) rfl ?_
      refine wq_val (at_neqA (xs := (c42 x11 x12 x13)) (ys := (c42 x19 x20 x21)) rfl rfl (by kernel_rfl) (eqv_struct Try.underlying42 (by kernel_rfl) (eqf_cons rfl (pt_one (v := .int .u8 x11) Try.underlying5 rfl rfl) (pt_one (v := .int .u8 x19) Try.underlying5 rfl rfl) (eqv_int Try.underlying5) (eqf_cons rfl (pt_one (v := .int .i8 x12) Try.underlying39 rfl rfl) (pt_one (v := .int .i8 x20) Try.underlying39 rfl rfl) (eqv_int Try.underlying39) (eqf_last rfl (pt_one (v := .int .u16 x13) Try.underlying40 rfl rfl) (pt_one (v := .int .u16 x21) Try.underlying40 rfl rfl) (eqv_int Try.underlying40)))))) rfl ?_
      refine wq_nil ?_; intro w23 hw so; rw [← hw] at h; clear hw
      refine wk_prune [(0, .slice a0.a a0.n a0.c), (1, .slice a1.a a1.n a1.c), (5, .int .i64 s3), (25, .bool (!((x11 == x19) && ((x12 == x20) && (x13 == x21)))))] ⟨rfl, rfl, rfl, rfl, trivial⟩ (fun f1 => ?_)
      refine wk_then ?_
      refine wc_cond rfl h (fun h => ?_) (fun h => ?_)
      · refine wc_seq ?_
        refine wc_region ?_
        refine wl_val (at_assign rfl) rfl ?_
        refine wl_nil ?_
        refine wk_prune [(4, .bool false)] ⟨rfl, trivial⟩ (fun f1 => ?_)
        refine wk_then ?_
        refine wc_ret ?_
        refine wk_blkR ?_
        refine wk_thenR ?_
        refine wk_thenR ?_
        refine wk_blkR ?_
        refine wk_thenR ?_
        exact wk_ret1 (x := false) rfl (by decide) rfl so h
      · refine wc_skip ?_
        refine wk_blkN ?_
        refine wk_prune [(0, .slice a0.a a0.n a0.c), (1, .slice a1.a a1.n a1.c), (5, .int .i64 s3)] ⟨rfl, rfl, rfl, trivial⟩ (fun f1 => ?_)
        refine wk_then ?_
        refine wc_region ?_
        refine wl_val (at_move rfl) rfl ?_
        refine wl_val (at_add rfl rfl) rfl ?_
        refine wl_val (at_assign rfl) rfl ?_
        refine wl_nil ?_
        exact wk_again ⟨((IntKind.wrap .i64 (s3 + 1))), _, ac_again ⟨rfl, rfl, rfl, trivial⟩, so, h⟩
    · refine wc_exit ?_
      refine wk_thenE ?_
      refine wk_thenE ?_
      refine wk_blkE ?_
      refine wk_prune [] trivial (fun f1 => ?_)
      refine wk_then ?_
      refine wc_seq ?_
      refine wc_region ?_
      refine wl_val (at_assign rfl) rfl ?_
      refine wl_nil ?_
      refine wk_prune [(4, .bool true)] ⟨rfl, trivial⟩ (fun f1 => ?_)
      refine wk_then ?_
      refine wc_ret ?_
      exact wk_ret1 (x := true) rfl (by decide) rfl so h

/-- mosaic/mosaiclaw07.shorter -/
def mosaiclaw07_shorter.enc : Sl → Value := fun r => .slice r.a r.n r.c
def mosaiclaw07_shorter.s (a0 : Sl) (H0 : Hp) (Q : Sl → Hp → Prop) : Prop :=
  Join (fun (s2 : Bool) (H3 : Hp) => if s2 = true then (Q a0 H3) else (∃ k4, Fix (fun (rec9 : Int → Hp → Prop) (s6 : Int) (H7 : Hp) => Join (fun (s11 : Bool) (H12 : Hp) => if s11 = true then (rec9 ((IntKind.wrap .i64 (s6 - 1))) H12) else (0 ≤ s6 ∧ s6 ≤ (a0.c : Int) ∧ (∃ y18 : List Value, y18.length = (slS a0 3 0 s6).n * 3 ∧ rdS H12 ((slS a0 3 0 s6).a) y18 ∧ apS H12 ⟨none, 0, 0⟩ 42 3 4 z42.cells (slS a0 3 0 s6).n y18 (fun l16 H17 => 0 ≤ (IntKind.wrap .i64 ((a0.n : Int) - 1)) ∧ (IntKind.wrap .i64 ((a0.n : Int) - 1)) < (a0.n : Int) ∧ someA a0.a (fun p23 => ∃ x25 : Int, ∃ x26 : Int, ∃ x27 : Int, ldA H17 (p23.add (Int.toNat (IntKind.wrap .i64 ((a0.n : Int) - 1)) * 3)) (c42 x25 x26 x27) ∧ (nw H17 42 (c42 x25 x26 x27) (fun p29 H30 => apS H30 l16 42 3 4 z42.cells 1 (c42 x25 x26 x27) (fun l34 H35 => Q l34 H35)))))))) (fun (J10 : Bool → Hp → Prop) => if decide ((1 : Int) < s6) = true then (0 ≤ (IntKind.wrap .i64 (s6 - 1)) ∧ (IntKind.wrap .i64 (s6 - 1)) < (a0.n : Int) ∧ someA a0.a (fun p38 => ldI .u8 H7 ((p38.add (Int.toNat (IntKind.wrap .i64 (s6 - 1)) * 3)).add 0) (fun x40 => J10 ((x40 == 240)) H7))) else (J10 (false) H7))) k4 ((IntKind.wrap .i64 ((a0.n : Int) - 1))) H3)) (fun (J1 : Bool → Hp → Prop) => if ((a0.n : Int) == 0) = true then (J1 (true) H0) else (0 ≤ (IntKind.wrap .i64 ((a0.n : Int) - 1)) ∧ (IntKind.wrap .i64 ((a0.n : Int) - 1)) < (a0.n : Int) ∧ someA a0.a (fun p44 => ldI .u8 H0 ((p44.add (Int.toNat (IntKind.wrap .i64 ((a0.n : Int) - 1)) * 3)).add 0) (fun x46 => if (x46 != 0) = true then (J1 (true) H0) else (J1 (((a0.n : Int) == 1)) H0)))))
set_option maxRecDepth 20000 in
set_option maxHeartbeats 4000000 in
theorem mosaiclaw07_shorter.calls (a0 : Sl) (w0 : World) (Q : Sl → Hp → Prop) (h : mosaiclaw07_shorter.s a0 w0.heap Q) :
    Ca Try.prog 26 #[.slice a0.a a0.n a0.c] w0 (Rt mosaiclaw07_shorter.enc Q w0) := by
  refine ca_start (c := _) Try.func26 rfl Try.ntmps26 rfl ?_
  have so : Sm w0 w0 := Sm.refl w0
  unfold mosaiclaw07_shorter.s at h
  refine wc_prune [(0, .slice a0.a a0.n a0.c)] ⟨rfl, trivial⟩ (fun f1 => ?_)
  refine wc_seq ?_
  refine wc_region ?_
  refine wl_val (at_assign rfl) rfl ?_
  refine wl_nil ?_
  refine wk_prune [(0, .slice a0.a a0.n a0.c)] ⟨rfl, trivial⟩ (fun f1 => ?_)
  refine wk_then ?_
  refine wc_seq ?_
  refine wc_region ?_
  refine wl_val (at_move rfl) rfl ?_
  refine wl_val (at_lenL Try.underlying25 rfl) rfl ?_
  refine wl_val (at_assign rfl) rfl ?_
  refine wl_nil ?_
  refine wk_prune [(0, .slice a0.a a0.n a0.c), (3, .int .i64 (a0.n : Int))] ⟨rfl, rfl, trivial⟩ (fun f1 => ?_)
  refine wk_then ?_
  refine wc_seq ?_
  refine wc_seq ?_
  refine wc_join (w0 := w0) (fun (s2 : Bool) => [(0, .slice a0.a a0.n a0.c), (3, .int .i64 (a0.n : Int)), (22, .bool s2)]) h ?_ ?_
  · rintro s2 w3 f1 h so; refine wk_then ?_
    refine wc_cond rfl h (fun h => ?_) (fun h => ?_)
    · refine wc_seq ?_
      refine wc_region ?_
      refine wl_val (at_move rfl) rfl ?_
      refine wl_val (at_assign rfl) rfl ?_
      refine wl_nil ?_
      refine wk_prune [(2, .slice a0.a a0.n a0.c)] ⟨rfl, trivial⟩ (fun f1 => ?_)
      refine wk_then ?_
      refine wc_ret ?_
      refine wk_thenR ?_
      exact wk_ret1 (x := a0) rfl (by decide) rfl so h
    · refine wc_skip ?_
      refine wk_prune [(0, .slice a0.a a0.n a0.c), (3, .int .i64 (a0.n : Int))] ⟨rfl, rfl, trivial⟩ (fun f1 => ?_)
      refine wk_then ?_
      refine wc_seq ?_
      refine wc_region ?_
      refine wl_val (at_move rfl) rfl ?_
      refine wl_val (at_sub rfl rfl) rfl ?_
      refine wl_val (at_assign rfl) rfl ?_
      refine wl_nil ?_
      refine wk_prune [(0, .slice a0.a a0.n a0.c), (3, .int .i64 (a0.n : Int)), (4, .int .i64 (IntKind.wrap .i64 ((a0.n : Int) - 1)))] ⟨rfl, rfl, rfl, trivial⟩ (fun f1 => ?_)
      refine wk_then ?_
      refine wc_seq ?_
      refine wc_block ?_
      obtain ⟨k4, h⟩ := h
      refine wc_loop (fun k a w => ∃ (s6 : Int) (f1 : Nat → Value), a = ac 52 (en f1 [(0, .slice a0.a a0.n a0.c), (3, .int .i64 (a0.n : Int)), (4, .int .i64 s6)]) [] ∧ Sm w0 w ∧ Fix _ k s6 w.heap) k4 ⟨((IntKind.wrap .i64 ((a0.n : Int) - 1))), _, ac_again ⟨rfl, rfl, rfl, trivial⟩, so, h⟩ ?_
      rintro k5 a8 w7 ⟨s6, f1, rfl, so, h⟩
      rcases k5 with _ | k5
      · exact h.elim
      replace h := Fix.un h; refine wc_in ?_
      refine wc_seq ?_
      refine wc_seq ?_
      refine wc_join (w0 := w0) (fun (s11 : Bool) => [(0, .slice a0.a a0.n a0.c), (3, .int .i64 (a0.n : Int)), (4, .int .i64 s6), (36, .bool s11)]) h ?_ ?_
      · rintro s11 w12 f1 h so; refine wk_then ?_
        refine wc_cond rfl h (fun h => ?_) (fun h => ?_)
        · refine wc_skip ?_
          refine wk_prune [(0, .slice a0.a a0.n a0.c), (3, .int .i64 (a0.n : Int)), (4, .int .i64 s6)] ⟨rfl, rfl, rfl, trivial⟩ (fun f1 => ?_)
          refine wk_then ?_
          refine wc_block ?_
          refine wc_region ?_
          refine wl_val (at_move rfl) rfl ?_
          refine wl_val (at_sub rfl rfl) rfl ?_
          refine wl_val (at_assign rfl) rfl ?_
          refine wl_nil ?_
          refine wk_blkN ?_
          exact wk_again ⟨((IntKind.wrap .i64 (s6 - 1))), _, ac_again ⟨rfl, rfl, rfl, trivial⟩, so, h⟩
        · refine wc_exit ?_
          refine wk_thenE ?_
          refine wk_thenE ?_
          refine wk_blkE ?_
          refine wk_prune [(0, .slice a0.a a0.n a0.c), (3, .int .i64 (a0.n : Int)), (4, .int .i64 s6)] ⟨rfl, rfl, rfl, trivial⟩ (fun f1 => ?_)
          refine wk_then ?_
          refine wc_seq ?_
          refine wc_region ?_
          refine wl_val (at_assign rfl) rfl ?_
          refine wl_nil ?_
          refine wk_prune [(0, .slice a0.a a0.n a0.c), (3, .int .i64 (a0.n : Int)), (4, .int .i64 s6), (5, .slice none 0 0)] ⟨rfl, rfl, rfl, rfl, trivial⟩ (fun f1 => ?_)
          refine wk_then ?_
          refine wc_seq ?_
          refine wc_region ?_
          refine wl_val (at_move rfl) rfl ?_
          refine wl_val (at_move rfl) rfl ?_
          refine wl_val (at_move rfl) rfl ?_
          obtain ⟨q13, q14, h⟩ := h
          refine wl_val (at_subLh (s := a0) Try.underlying25 sz42 rfl rfl q13 q14) rfl ?_
          obtain ⟨i15, i15a, i15b, i15c, i15d⟩ := info42
          obtain ⟨y18, q19, q20, h⟩ := h
          refine wl_ap (fx_append (s := ⟨none, 0, 0⟩) (t := (slS a0 3 0 s6)) (m := (slS a0 3 0 s6).n) (xs := y18) Try.underlying25 Try.underlying25 i15a i15b i15c i15d rfl rfl rfl q19 q20 h) rfl so ?_; intro l16 w17 h so
          refine wl_val (at_assign rfl) rfl ?_
          refine wl_nil ?_
          refine wk_prune [(0, .slice a0.a a0.n a0.c), (3, .int .i64 (a0.n : Int)), (5, .slice l16.a l16.n l16.c)] ⟨rfl, rfl, rfl, trivial⟩ (fun f1 => ?_)
          refine wk_then ?_
          refine wc_seq ?_
          refine wc_region ?_
          refine wl_val (at_move rfl) rfl ?_
          refine wl_val (at_move rfl) rfl ?_
          refine wl_val (at_move rfl) rfl ?_
          refine wl_val (at_sub rfl rfl) rfl ?_
          obtain ⟨q21, q22, p23, q24, h⟩ := h
          refine wl_val (at_ixAddrL Try.underlying25 sz42 (sl_some q24) rfl q21 q22) rfl ?_
          obtain ⟨x25, x26, x27, q28, h⟩ := h
          refine wl_val (at_loadA (cs := (c42 x25 x26 x27)) Try.underlying42 rfl (by rw [len42]; exact sz42) rfl q28) rfl ?_
          obtain ⟨i32, i32a, i32b, i32c, i32d⟩ := info42
          refine wl_newS (ef_buildSlice (cs := (c42 x25 x26 x27)) (ps := [(0, .agg (c42 x25 x26 x27).toArray)]) Try.underlying25 i32a i32b rfl (by rw [i32c]; decide) (by rw [i32c]; exact fill_full (vs := [.agg (c42 x25 x26 x27).toArray]) rfl (by simp [Value.cells]) (by simp [Value.cells, len42]) rfl (by simp))) rfl so (one42 _ _ _) h ?_; intro p29 w30 h r31 so
          obtain ⟨i33, i33a, i33b, i33c, i33d⟩ := info42
          refine wl_ap (fx_append (s := l16) (t := ⟨(some p29), 1, 1⟩) (m := 1) (xs := (c42 x25 x26 x27)) Try.underlying25 Try.underlying25 i33a i33b i33c i33d rfl rfl rfl (by first | rfl | simp [len42]) r31 h) rfl so ?_; intro l34 w35 h so
          refine wl_val (at_assign rfl) rfl ?_
          refine wl_nil ?_
          refine wk_prune [(2, .slice l34.a l34.n l34.c)] ⟨rfl, trivial⟩ (fun f1 => ?_)
          refine wk_then ?_
          refine wc_ret ?_
          exact wk_ret1 (x := l34) rfl (by decide) rfl so h
      · intro J10 h hJ10
        refine wc_region ?_
        refine wl_val (at_move rfl) rfl ?_
        refine wl_val (at_gtr rfl rfl) rfl ?_
        refine wl_val (at_move rfl) rfl ?_
        refine bif_ h (fun hb h => ?_) (fun hb h => ?_)
        · refine wl_set (t := 28) (v := .bool true) (congrArg Value.bool hb) ?_; clear hb
          refine wl_on (t := 28) rfl (by decide) rfl ?_
          refine wl_val (at_move rfl) rfl ?_
          refine wl_on (t := 28) rfl (by decide) rfl ?_
          refine wl_val (at_move rfl) rfl ?_
          refine wl_on (t := 28) rfl (by decide) rfl ?_
          refine wl_val (at_sub rfl rfl) rfl ?_
          refine wl_on (t := 28) rfl (by decide) rfl ?_
          obtain ⟨q36, q37, p38, q39, h⟩ := h
          refine wl_val (at_ixAddrL Try.underlying25 sz42 (sl_some q39) rfl q36 q37) rfl ?_
          refine wl_on (t := 28) rfl (by decide) rfl ?_
          refine wl_val (at_fieldAddr Try.underlying42 rfl rfl sz5 (by decide) rfl) rfl ?_
          refine wl_on (t := 28) rfl (by decide) rfl ?_
          obtain ⟨x40, q41, h⟩ := h
          refine wl_val (at_load Try.underlying5 rfl rfl q41) rfl ?_
          refine wl_on (t := 28) rfl (by decide) rfl ?_
          refine wl_val (at_eql rfl rfl) rfl ?_
          refine wl_val (at_pick_t rfl rfl) rfl ?_
          refine wl_nil ?_
          exact wk_prune [(0, .slice a0.a a0.n a0.c), (3, .int .i64 (a0.n : Int)), (4, .int .i64 s6), (36, .bool (x40 == 240))] ⟨rfl, rfl, rfl, rfl, trivial⟩ (fun f1 => hJ10 ((x40 == 240)) _ f1 h so)
        · refine wl_set (t := 28) (v := .bool false) (congrArg Value.bool hb) ?_; clear hb
          refine wl_off (t := 28) rfl (by decide) rfl ?_
          refine wl_off (t := 28) rfl (by decide) rfl ?_
          refine wl_off (t := 28) rfl (by decide) rfl ?_
          refine wl_off (t := 28) rfl (by decide) rfl ?_
          refine wl_off (t := 28) rfl (by decide) rfl ?_
          refine wl_off (t := 28) rfl (by decide) rfl ?_
          refine wl_off (t := 28) rfl (by decide) rfl ?_
          refine wl_val (at_pick_f rfl rfl) rfl ?_
          refine wl_nil ?_
          exact wk_prune [(0, .slice a0.a a0.n a0.c), (3, .int .i64 (a0.n : Int)), (4, .int .i64 s6), (36, .bool false)] ⟨rfl, rfl, rfl, rfl, trivial⟩ (fun f1 => hJ10 (false) _ f1 h so)
  · intro J1 h hJ1
    refine wc_region ?_
    refine wl_val (at_move rfl) rfl ?_
    refine wl_val (at_eql rfl rfl) rfl ?_
    refine wl_val (at_move rfl) rfl ?_
    refine bif_ h (fun hb h => ?_) (fun hb h => ?_)
    · refine wl_set (t := 10) (v := .bool true) (congrArg Value.bool hb) ?_; clear hb
      refine wl_off (t := 10) rfl (by decide) rfl ?_
      refine wl_off (t := 10) rfl (by decide) rfl ?_
      refine wl_off (t := 10) rfl (by decide) rfl ?_
      refine wl_off (t := 10) rfl (by decide) rfl ?_
      refine wl_off (t := 10) rfl (by decide) rfl ?_
      refine wl_off (t := 10) rfl (by decide) rfl ?_
      refine wl_off (t := 10) rfl (by decide) rfl ?_
      refine wl_val (at_pick_t rfl rfl) rfl ?_
      refine wl_val (at_move rfl) rfl ?_
      refine wl_off (t := 19) rfl (by decide) rfl ?_
      refine wl_off (t := 19) rfl (by decide) rfl ?_
      refine wl_val (at_pick_t rfl rfl) rfl ?_
      refine wl_nil ?_
      exact wk_prune [(0, .slice a0.a a0.n a0.c), (3, .int .i64 (a0.n : Int)), (22, .bool true)] ⟨rfl, rfl, rfl, trivial⟩ (fun f1 => hJ1 (true) _ f1 h so)
    · refine wl_set (t := 10) (v := .bool false) (congrArg Value.bool hb) ?_; clear hb
      refine wl_on (t := 10) rfl (by decide) rfl ?_
      refine wl_val (at_move rfl) rfl ?_
      refine wl_on (t := 10) rfl (by decide) rfl ?_
      refine wl_val (at_move rfl) rfl ?_
      refine wl_on (t := 10) rfl (by decide) rfl ?_
      refine wl_val (at_sub rfl rfl) rfl ?_
      refine wl_on (t := 10) rfl (by decide) rfl ?_
      obtain ⟨q42, q43, p44, q45, h⟩ := h
      refine wl_val (at_ixAddrL Try.underlying25 sz42 (sl_some q45) rfl q42 q43) rfl ?_
      refine wl_on (t := 10) rfl (by decide) rfl ?_
      refine wl_val (at_fieldAddr Try.underlying42 rfl rfl sz5 (by decide) rfl) rfl ?_
      refine wl_on (t := 10) rfl (by decide) rfl ?_
      obtain ⟨x46, q47, h⟩ := h
      refine wl_val (at_load Try.underlying5 rfl rfl q47) rfl ?_
      refine wl_on (t := 10) rfl (by decide) rfl ?_
      refine wl_val (at_neq rfl rfl) rfl ?_
      refine wl_val (at_pick_f rfl rfl) rfl ?_
      refine wl_val (at_move rfl) rfl ?_
      refine bif_ h (fun hb h => ?_) (fun hb h => ?_)
      · refine wl_set (t := 19) (v := .bool true) (congrArg Value.bool hb) ?_; clear hb
        refine wl_off (t := 19) rfl (by decide) rfl ?_
        refine wl_off (t := 19) rfl (by decide) rfl ?_
        refine wl_val (at_pick_t rfl rfl) rfl ?_
        refine wl_nil ?_
        exact wk_prune [(0, .slice a0.a a0.n a0.c), (3, .int .i64 (a0.n : Int)), (22, .bool true)] ⟨rfl, rfl, rfl, trivial⟩ (fun f1 => hJ1 (true) _ f1 h so)
      · refine wl_set (t := 19) (v := .bool false) (congrArg Value.bool hb) ?_; clear hb
        refine wl_on (t := 19) rfl (by decide) rfl ?_
        refine wl_val (at_move rfl) rfl ?_
        refine wl_on (t := 19) rfl (by decide) rfl ?_
        refine wl_val (at_eql rfl rfl) rfl ?_
        refine wl_val (at_pick_f rfl rfl) rfl ?_
        refine wl_nil ?_
        exact wk_prune [(0, .slice a0.a a0.n a0.c), (3, .int .i64 (a0.n : Int)), (22, .bool ((a0.n : Int) == 1))] ⟨rfl, rfl, rfl, trivial⟩ (fun f1 => hJ1 (((a0.n : Int) == 1)) _ f1 h so)
end Go.Proofs.Ythblohaffipkhaa.G
