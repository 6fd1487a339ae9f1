import Derived.Test.YtdcjjoihlnjpnaaKshelf
import Derived.Test.YtdcjjoihlnjpnaaKcuts
import Derived.Test.YtdcjjoihlnjpnaaKmosaicref19
namespace Go.Proofs.Ytdcjjoihlnjpnaa.G
open Go.RowKit
set_option linter.unusedVariables false
set_option linter.unusedSimpArgs false
/-- mosaic/mosaiclaw19.apart -/
def mosaiclaw19_apart.enc : Bool → Value := fun r => .bool r
def mosaiclaw19_apart.s (a0 : Sl) (a1 : Sl) (H0 : Hp) (Q : Bool → Hp → Prop) : Prop :=
  ∃ k1, Fix (fun (rec6 : Int → Hp → Prop) (s3 : Int) (H4 : Hp) => if decide (s3 < (a0.n : Int)) = true then (0 ≤ s3 ∧ s3 < (a0.n : Int) ∧ someA a0.a (fun p10 => 0 ≤ s3 ∧ s3 < (a1.n : Int) ∧ someA a1.a (fun p14 => ldL H4 (p10.add (Int.toNat s3 * 1)) (fun x16 => ldL H4 (p14.add (Int.toNat s3 * 1)) (fun x18 => mosaicref19_Same.s x16 x18 H4 (fun x20 H21 => if (!x20) = true then (Q false H21) else (rec6 ((IntKind.wrap .i64 (s3 + 1))) H21))))))) else (∃ k22, Fix (fun (rec27 : Int → Hp → Prop) (s24 : Int) (H25 : Hp) => if decide (s24 < (a0.n : Int)) = true then (∃ k28, Fix (fun (rec33 : Int → Hp → Prop) (s30 : Int) (H31 : Hp) => 0 ≤ s24 ∧ s24 < (a0.n : Int) ∧ someA a0.a (fun p36 => ldL H31 (p36.add (Int.toNat s24 * 1)) (fun x38 => if decide (s30 < (x38.n : Int)) = true then (0 ≤ s24 ∧ s24 < (a0.n : Int) ∧ (ldL H31 (p36.add (Int.toNat s24 * 1)) (fun x42 => 0 ≤ s30 ∧ s30 < (x42.n : Int) ∧ someA x42.a (fun p46 => stA H31 (p46.add (Int.toNat s30 * 4)) (c29 (IntKind.wrap .i64 ((-100 : Int) - s24)) 0 0 0) (fun H48 => rec33 ((IntKind.wrap .i64 (s30 + 1))) H48))))) else (rec27 ((IntKind.wrap .i64 (s24 + 2))) H31)))) k28 (0) H25) else (∃ k49, Fix (fun (rec54 : (Sl × Int) → Hp → Prop) (s51 : Sl × Int) (H52 : Hp) => if decide (s51.2 < (a0.n : Int)) = true then (0 ≤ s51.2 ∧ s51.2 < (a0.n : Int) ∧ someA a0.a (fun p57 => ldL H52 (p57.add (Int.toNat s51.2 * 1)) (fun x59 => ∃ k61, Fix (fun (rec66 : (Sl × Int) → Hp → Prop) (s63 : Sl × Int) (H64 : Hp) => Join (fun (s68 : Bool) (H69 : Hp) => if s68 = true then (nw H69 29 (c29 (IntKind.wrap .i64 ((-1000 : Int) - s51.2)) 0 0 0) (fun p70 H71 => apS H71 s63.1 29 4 32 z29.cells 1 (c29 (IntKind.wrap .i64 ((-1000 : Int) - s51.2)) 0 0 0) (fun l75 H76 => rec66 (l75, (IntKind.wrap .i64 (s63.2 + 1))) H76))) else (nw H69 22 [.slice s63.1.a s63.1.n s63.1.c] (fun p77 H78 => apS H78 s51.1 22 1 24 z22.cells 1 [.slice s63.1.a s63.1.n s63.1.c] (fun l82 H83 => rec54 (l82, (IntKind.wrap .i64 (s51.2 + 1))) H83)))) (fun (J67 : Bool → Hp → Prop) => if decide (s63.2 < 12) = true then (J67 (((Int.tmod s51.2 2) == 0)) H64) else (J67 (false) H64))) k61 (x59, 0) H52))) else (∃ k84, Fix (fun (rec89 : Int → Hp → Prop) (s86 : Int) (H87 : Hp) => if decide (s86 < (a0.n : Int)) = true then (Join (fun (s91 : Unit) (H92 : Hp) => rec89 ((IntKind.wrap .i64 (s86 + 1))) H92) (fun (J90 : Unit → Hp → Prop) => if ((Int.tmod s86 2) == 1) = true then (0 ≤ s86 ∧ s86 < (a0.n : Int) ∧ someA a0.a (fun p96 => 0 ≤ s86 ∧ s86 < (a1.n : Int) ∧ someA a1.a (fun p100 => ldL H87 (p96.add (Int.toNat s86 * 1)) (fun x102 => ldL H87 (p100.add (Int.toNat s86 * 1)) (fun x104 => mosaicref19_Same.s x102 x104 H87 (fun x106 H107 => if (!x106) = true then (Q false H107) else (J90 () H107))))))) else (∃ k108, Fix (fun (rec113 : Int → Hp → Prop) (s110 : Int) (H111 : Hp) => 0 ≤ s86 ∧ s86 < (s51.1.n : Int) ∧ someA s51.1.a (fun p116 => ldL H111 (p116.add (Int.toNat s86 * 1)) (fun x118 => if decide (s110 < (x118.n : Int)) = true then (0 ≤ s86 ∧ s86 < (a0.n : Int) ∧ someA a0.a (fun p122 => ldL H111 (p122.add (Int.toNat s86 * 1)) (fun x124 => Join (fun (s127 : Bool) (H128 : Hp) => if s127 = true then (Q false H128) else (rec113 ((IntKind.wrap .i64 (s110 + 1))) H128)) (fun (J126 : Bool → Hp → Prop) => if decide (s110 < (x124.n : Int)) = true then (0 ≤ s86 ∧ s86 < (a0.n : Int) ∧ (ldL H111 (p122.add (Int.toNat s86 * 1)) (fun x132 => 0 ≤ s110 ∧ s110 < (x132.n : Int) ∧ someA x132.a (fun p136 => ldI .i64 H111 ((p136.add (Int.toNat s110 * 4)).add 0) (fun x138 => if (x138 != (IntKind.wrap .i64 ((-100 : Int) - s86))) = true then (J126 (true) H111) else (0 ≤ s86 ∧ s86 < (s51.1.n : Int) ∧ (0 ≤ s86 ∧ s86 < (a0.n : Int) ∧ (ldL H111 (p116.add (Int.toNat s86 * 1)) (fun x144 => 0 ≤ s110 ∧ s110 < (x144.n : Int) ∧ someA x144.a (fun p148 => ∃ x150 : Int, ∃ x151 : Int, ∃ x152 : Int, ∃ x153 : Int, ldA H111 (p148.add (Int.toNat s110 * 4)) (c29 x150 x151 x152 x153) ∧ (ldL H111 (p122.add (Int.toNat s86 * 1)) (fun x155 => 0 ≤ s110 ∧ s110 < (x155.n : Int) ∧ someA x155.a (fun p159 => ∃ x161 : Int, ∃ x162 : Int, ∃ x163 : Int, ∃ x164 : Int, ldA H111 (p159.add (Int.toNat s110 * 4)) (c29 x161 x162 x163 x164) ∧ (if (!((x150 == x161) && ((x151 == x162) && ((x152 == x163) && (x153 == x164))))) = true then (J126 (true) H111) else (if decide ((x124.n : Int) ≤ s110) = true then (0 ≤ s86 ∧ s86 < (s51.1.n : Int) ∧ (ldL H111 (p116.add (Int.toNat s86 * 1)) (fun x168 => 0 ≤ s110 ∧ s110 < (x168.n : Int) ∧ someA x168.a (fun p172 => ldI .i64 H111 ((p172.add (Int.toNat s110 * 4)).add 0) (fun x174 => J126 ((x174 != (IntKind.wrap .i64 ((-1000 : Int) - s86)))) H111))))) else (J126 (false) H111)))))))))))))))) else (if decide ((x124.n : Int) ≤ s110) = true then (0 ≤ s86 ∧ s86 < (s51.1.n : Int) ∧ (ldL H111 (p116.add (Int.toNat s86 * 1)) (fun x178 => 0 ≤ s110 ∧ s110 < (x178.n : Int) ∧ someA x178.a (fun p182 => ldI .i64 H111 ((p182.add (Int.toNat s110 * 4)).add 0) (fun x184 => J126 ((x184 != (IntKind.wrap .i64 ((-1000 : Int) - s86)))) H111))))) else (J126 (false) H111)))))) else (J90 () H111)))) k108 (0) H87))) else (Q true H87)) k84 (0) H52)) k49 (⟨none, 0, 0⟩, 0) H25)) k22 (0) H4)) k1 (0) H0
set_option maxRecDepth 20000 in
set_option maxHeartbeats 4000000 in
theorem mosaiclaw19_apart.calls (a0 : Sl) (a1 : Sl) (w0 : World) (Q : Bool → Hp → Prop) (h : mosaiclaw19_apart.s a0 a1 w0.heap Q) :
    Ca Try.prog 12 #[.slice a0.a a0.n a0.c, .slice a1.a a1.n a1.c] w0 (Rt mosaiclaw19_apart.enc Q w0) := by
  refine ca_start (c := _) Try.func12 rfl Try.ntmps12 rfl ?_
  have so : Sm w0 w0 := Sm.refl w0
  unfold mosaiclaw19_apart.s at h
  refine wc_prune [(0, .slice a0.a a0.n a0.c), (1, .slice a1.a a1.n a1.c)] ⟨rfl, rfl, trivial⟩ (fun f1 => ?_)
  refine wc_seq ?_
  refine wc_region ?_
  refine wl_val (at_assign rfl) rfl ?_
  refine wl_nil ?_
  refine wk_prune [(0, .slice a0.a a0.n a0.c), (1, .slice a1.a a1.n a1.c)] ⟨rfl, rfl, trivial⟩ (fun f1 => ?_)
  refine wk_then ?_
  refine wc_seq ?_
  refine wc_seq ?_
  refine wc_region ?_
  refine wl_val (at_assign rfl) rfl ?_
  refine wl_nil ?_
  refine wk_prune [(0, .slice a0.a a0.n a0.c), (1, .slice a1.a a1.n a1.c), (5, .int .i64 0)] ⟨rfl, rfl, rfl, trivial⟩ (fun f1 => ?_)
  refine wk_then ?_
  refine wc_block ?_
  obtain ⟨k1, h⟩ := h
  refine wc_loop (fun k a w => ∃ (s3 : Int) (f1 : Nat → Value), a = ac 172 (en f1 [(0, .slice a0.a a0.n a0.c), (1, .slice a1.a a1.n a1.c), (5, .int .i64 s3)]) [] ∧ Sm w0 w ∧ Fix _ k s3 w.heap) k1 ⟨(0), _, ac_again ⟨rfl, rfl, rfl, trivial⟩, so, h⟩ ?_
  rintro k2 a5 w4 ⟨s3, f1, rfl, so, h⟩
  rcases k2 with _ | k2
  · exact h.elim
  replace h := Fix.un h; refine wc_in ?_
  refine wc_seq ?_
  refine wc_seq ?_
  refine wc_region ?_
  refine wl_val (at_move rfl) rfl ?_
  refine wl_val (at_move rfl) rfl ?_
  refine wl_val (at_lenL Try.underlying35 rfl) rfl ?_
  refine wl_val (at_lss rfl rfl) rfl ?_
  refine wl_nil ?_
  refine wk_prune [(0, .slice a0.a a0.n a0.c), (1, .slice a1.a a1.n a1.c), (5, .int .i64 s3), (20, .bool (decide (s3 < (a0.n : Int))))] ⟨rfl, rfl, rfl, rfl, trivial⟩ (fun f1 => ?_)
  refine wk_then ?_
  refine wc_cond rfl h (fun h => ?_) (fun h => ?_)
  · refine wc_skip ?_
    refine wk_prune [(0, .slice a0.a a0.n a0.c), (1, .slice a1.a a1.n a1.c), (5, .int .i64 s3)] ⟨rfl, rfl, rfl, trivial⟩ (fun f1 => ?_)
    refine wk_then ?_
    refine wc_seq ?_
    refine wc_block ?_
    refine wc_seq ?_
    refine wc_wo [0, 0, 3, 7, 0, 0, 48, 112, 255, 511] mixed (by kernel_rfl) so ?_; intro w7 hw so; rw [← hw] at h; clear hw
    refine wo_pure (m' := 1) 0 rfl (by kernel_rfl) rfl rfl (fun H => at_move rfl) ?_
    refine wo_pure (m' := 3) 1 rfl (by kernel_rfl) rfl rfl (fun H => at_move rfl) ?_
    obtain ⟨q8, q9, p10, q11, h⟩ := h
    refine wo_pure (m' := 7) 2 rfl (by kernel_rfl) rfl rfl (fun H => at_ixAddrL Try.underlying35 sz22 (sl_some q11) rfl q8 q9) ?_
    refine wo_pure (m' := 23) 4 rfl (by kernel_rfl) rfl rfl (fun H => at_move rfl) ?_
    refine wo_pure (m' := 55) 5 rfl (by kernel_rfl) rfl rfl (fun H => at_move rfl) ?_
    obtain ⟨q12, q13, p14, q15, h⟩ := h
    refine wo_pure (m' := 119) 6 rfl (by kernel_rfl) rfl rfl (fun H => at_ixAddrL Try.underlying35 sz22 (sl_some q15) rfl q12 q13) ?_
    obtain ⟨x16, q17, h⟩ := h
    refine wo_load (m' := 127) 3 (fun H => cellAt H (p10.add (Int.toNat s3 * 1)) = some (.slice x16.a x16.n x16.c)) rfl (by kernel_rfl) rfl rfl (fun H q17 => at_load Try.underlying22 rfl rfl q17) q17 ?_
    obtain ⟨x18, q19, h⟩ := h
    refine wo_load (m' := 255) 7 (fun H => cellAt H (p14.add (Int.toNat s3 * 1)) = some (.slice x18.a x18.n x18.c)) rfl (by kernel_rfl) rfl rfl (fun H q19 => at_load Try.underlying22 rfl rfl q19) q19 ?_
    refine wo_take (m' := 511) 8 [true, true] rfl (by kernel_rfl) rfl (by kernel_rfl) ?_
    refine wl_callF (mosaicref19_Same.calls _ _ _ _ h) enter9 rfl trivial so ?_; intro x20 w21 h so
    refine wl_nil ?_
    refine wk_tq trivial ?_
    refine wo_pure (m' := 1023) 9 rfl (by kernel_rfl) rfl rfl (fun H => at_assign rfl) ?_
    refine wo_done (by kernel_rfl) ?_
    refine wk_prune [(0, .slice a0.a a0.n a0.c), (1, .slice a1.a a1.n a1.c), (5, .int .i64 s3), (6, .bool x20)] ⟨rfl, rfl, rfl, rfl, trivial⟩ (fun f1 => ?_)
    refine wk_then ?_
    refine wc_seq ?_
    refine wc_region ?_
    refine wl_val (at_move rfl) rfl ?_
    refine wl_val (at_not rfl) rfl ?_
    refine wl_nil ?_
    refine wk_prune [(0, .slice a0.a a0.n a0.c), (1, .slice a1.a a1.n a1.c), (5, .int .i64 s3), (33, .bool (!x20))] ⟨rfl, rfl, rfl, rfl, trivial⟩ (fun f1 => ?_)
    refine wk_then ?_
    refine wc_cond rfl h (fun h => ?_) (fun h => ?_)
    · refine wc_seq ?_
      refine wc_region ?_
      refine wl_val (at_assign rfl) rfl ?_
      refine wl_nil ?_
      refine wk_prune [(4, .bool false)] ⟨rfl, trivial⟩ (fun f1 => ?_)
      refine wk_then ?_
      refine wc_ret ?_
      refine wk_blkR ?_
      refine wk_thenR ?_
      refine wk_thenR ?_
      refine wk_blkR ?_
      refine wk_thenR ?_
      exact wk_ret1 (x := false) rfl (by decide) rfl so h
    · refine wc_skip ?_
      refine wk_blkN ?_
      refine wk_prune [(0, .slice a0.a a0.n a0.c), (1, .slice a1.a a1.n a1.c), (5, .int .i64 s3)] ⟨rfl, rfl, rfl, trivial⟩ (fun f1 => ?_)
      refine wk_then ?_
      refine wc_region ?_
      refine wl_val (at_move rfl) rfl ?_
      refine wl_val (at_add rfl rfl) rfl ?_
      refine wl_val (at_assign rfl) rfl ?_
      refine wl_nil ?_
      exact wk_again ⟨((IntKind.wrap .i64 (s3 + 1))), _, ac_again ⟨rfl, rfl, rfl, trivial⟩, so, h⟩
  · refine wc_exit ?_
    refine wk_thenE ?_
    refine wk_thenE ?_
    refine wk_blkE ?_
    refine wk_prune [(0, .slice a0.a a0.n a0.c), (1, .slice a1.a a1.n a1.c)] ⟨rfl, rfl, trivial⟩ (fun f1 => ?_)
    refine wk_then ?_
    refine wc_seq ?_
    refine wc_seq ?_
    refine wc_region ?_
    refine wl_val (at_assign rfl) rfl ?_
    refine wl_nil ?_
    refine wk_prune [(0, .slice a0.a a0.n a0.c), (1, .slice a1.a a1.n a1.c), (7, .int .i64 0)] ⟨rfl, rfl, rfl, trivial⟩ (fun f1 => ?_)
    refine wk_then ?_
    refine wc_block ?_
    obtain ⟨k22, h⟩ := h
    refine wc_loop (fun k a w => ∃ (s24 : Int) (f1 : Nat → Value), a = ac 172 (en f1 [(0, .slice a0.a a0.n a0.c), (1, .slice a1.a a1.n a1.c), (7, .int .i64 s24)]) [] ∧ Sm w0 w ∧ Fix _ k s24 w.heap) k22 ⟨(0), _, ac_again ⟨rfl, rfl, rfl, trivial⟩, so, h⟩ ?_
    rintro k23 a26 w25 ⟨s24, f1, rfl, so, h⟩
    rcases k23 with _ | k23
    · exact h.elim
    replace h := Fix.un h; refine wc_in ?_
    refine wc_seq ?_
    refine wc_seq ?_
    refine wc_region ?_
    refine wl_val (at_move rfl) rfl ?_
    refine wl_val (at_move rfl) rfl ?_
    refine wl_val (at_lenL Try.underlying35 rfl) rfl ?_
    refine wl_val (at_lss rfl rfl) rfl ?_
    refine wl_nil ?_
    refine wk_prune [(0, .slice a0.a a0.n a0.c), (1, .slice a1.a a1.n a1.c), (7, .int .i64 s24), (37, .bool (decide (s24 < (a0.n : Int))))] ⟨rfl, rfl, rfl, rfl, trivial⟩ (fun f1 => ?_)
    refine wk_then ?_
    refine wc_cond rfl h (fun h => ?_) (fun h => ?_)
    · refine wc_skip ?_
      refine wk_prune [(0, .slice a0.a a0.n a0.c), (1, .slice a1.a a1.n a1.c), (7, .int .i64 s24)] ⟨rfl, rfl, rfl, trivial⟩ (fun f1 => ?_)
      refine wk_then ?_
      refine wc_seq ?_
      refine wc_block ?_
      refine wc_seq ?_
      refine wc_region ?_
      refine wl_val (at_assign rfl) rfl ?_
      refine wl_nil ?_
      refine wk_prune [(0, .slice a0.a a0.n a0.c), (1, .slice a1.a a1.n a1.c), (7, .int .i64 s24), (8, .int .i64 0)] ⟨rfl, rfl, rfl, rfl, trivial⟩ (fun f1 => ?_)
      refine wk_then ?_
      refine wc_block ?_
      obtain ⟨k28, h⟩ := h
      refine wc_loop (fun k a w => ∃ (s30 : Int) (f1 : Nat → Value), a = ac 172 (en f1 [(0, .slice a0.a a0.n a0.c), (1, .slice a1.a a1.n a1.c), (7, .int .i64 s24), (8, .int .i64 s30)]) [] ∧ Sm w0 w ∧ Fix _ k s30 w.heap) k28 ⟨(0), _, ac_again ⟨rfl, rfl, rfl, rfl, trivial⟩, so, h⟩ ?_
      rintro k29 a32 w31 ⟨s30, f1, rfl, so, h⟩
      rcases k29 with _ | k29
      · exact h.elim
      replace h := Fix.un h; refine wc_in ?_
      refine wc_seq ?_
      refine wc_seq ?_
      refine wc_region ?_
      refine wl_val (at_move rfl) rfl ?_
      refine wl_val (at_move rfl) rfl ?_
      refine wl_val (at_move rfl) rfl ?_
      obtain ⟨q34, q35, p36, q37, h⟩ := h
      refine wl_val (at_ixAddrL Try.underlying35 sz22 (sl_some q37) rfl q34 q35) rfl ?_
      obtain ⟨x38, q39, h⟩ := h
      refine wl_val (at_load Try.underlying22 rfl rfl q39) rfl ?_
      refine wl_val (at_lenL Try.underlying22 rfl) rfl ?_
      refine wl_val (at_lss rfl rfl) rfl ?_
      refine wl_nil ?_
      refine wk_prune [(0, .slice a0.a a0.n a0.c), (1, .slice a1.a a1.n a1.c), (7, .int .i64 s24), (8, .int .i64 s30), (46, .bool (decide (s30 < (x38.n : Int))))] ⟨rfl, rfl, rfl, rfl, rfl, trivial⟩ (fun f1 => ?_)
      refine wk_then ?_
      refine wc_cond rfl h (fun h => ?_) (fun h => ?_)
      · refine wc_skip ?_
        refine wk_prune [(0, .slice a0.a a0.n a0.c), (1, .slice a1.a a1.n a1.c), (7, .int .i64 s24), (8, .int .i64 s30)] ⟨rfl, rfl, rfl, rfl, trivial⟩ (fun f1 => ?_)
        refine wk_then ?_
        refine wc_seq ?_
        refine wc_block ?_
        refine wc_region ?_
        refine wl_val (at_move rfl) rfl ?_
        refine wl_val (at_move rfl) rfl ?_
        obtain ⟨q40, q41, h⟩ := h
        refine wl_val (at_ixAddrL Try.underlying35 sz22 (sl_some q37) rfl q40 q41) rfl ?_
        obtain ⟨x42, q43, h⟩ := h
        refine wl_val (at_load Try.underlying22 rfl rfl q43) rfl ?_
        refine wl_val (at_move rfl) rfl ?_
        refine wl_val (at_move rfl) rfl ?_
        refine wl_val (at_sub rfl rfl) rfl ?_
        refine wl_val (at_build (cs := (c29 (IntKind.wrap .i64 ((-100 : Int) - s24)) 0 0 0)) (ps := [(0, .int .i64 (IntKind.wrap .i64 ((-100 : Int) - s24)))]) rfl (fun w => by simp [Instr.build, Instr.fill, go_sem, Try.underlying29, z29])) rfl ?_
        obtain ⟨q44, q45, p46, q47, h⟩ := h
        refine wl_val (at_ixAddrL Try.underlying22 sz29 (sl_some q47) rfl q44 q45) rfl ?_
        refine wl_stA h rfl so (fun q => ef_storeA (by rw [len29]; exact sz29) rfl rfl (one29 _ _ _ _) q) ?_; intro w48 h so
        refine wl_nil ?_
        refine wk_blkN ?_
        refine wk_prune [(0, .slice a0.a a0.n a0.c), (1, .slice a1.a a1.n a1.c), (7, .int .i64 s24), (8, .int .i64 s30)] ⟨rfl, rfl, rfl, rfl, trivial⟩ (fun f1 => ?_)
        refine wk_then ?_
        refine wc_region ?_
        refine wl_val (at_move rfl) rfl ?_
        refine wl_val (at_add rfl rfl) rfl ?_
        refine wl_val (at_assign rfl) rfl ?_
        refine wl_nil ?_
        exact wk_again ⟨((IntKind.wrap .i64 (s30 + 1))), _, ac_again ⟨rfl, rfl, rfl, rfl, trivial⟩, so, h⟩
      · refine wc_exit ?_
        refine wk_thenE ?_
        refine wk_thenE ?_
        refine wk_blkE ?_
        refine wk_blkN ?_
        refine wk_prune [(0, .slice a0.a a0.n a0.c), (1, .slice a1.a a1.n a1.c), (7, .int .i64 s24)] ⟨rfl, rfl, rfl, trivial⟩ (fun f1 => ?_)
        refine wk_then ?_
        refine wc_region ?_
        refine wl_val (at_move rfl) rfl ?_
        refine wl_val (at_add rfl rfl) rfl ?_
        refine wl_val (at_assign rfl) rfl ?_
        refine wl_nil ?_
        exact wk_again ⟨((IntKind.wrap .i64 (s24 + 2))), _, ac_again ⟨rfl, rfl, rfl, trivial⟩, so, h⟩
    · refine wc_exit ?_
      refine wk_thenE ?_
      refine wk_thenE ?_
      refine wk_blkE ?_
      refine wk_prune [(0, .slice a0.a a0.n a0.c), (1, .slice a1.a a1.n a1.c)] ⟨rfl, rfl, trivial⟩ (fun f1 => ?_)
      refine wk_then ?_
      refine wc_seq ?_
      refine wc_region ?_
      refine wl_val (at_assign rfl) rfl ?_
      refine wl_nil ?_
      refine wk_prune [(0, .slice a0.a a0.n a0.c), (1, .slice a1.a a1.n a1.c), (9, .slice none 0 0)] ⟨rfl, rfl, rfl, trivial⟩ (fun f1 => ?_)
      refine wk_then ?_
      refine wc_seq ?_
      refine wc_seq ?_
      refine wc_region ?_
      refine wl_val (at_assign rfl) rfl ?_
      refine wl_nil ?_
      refine wk_prune [(0, .slice a0.a a0.n a0.c), (1, .slice a1.a a1.n a1.c), (9, .slice none 0 0), (10, .int .i64 0)] ⟨rfl, rfl, rfl, rfl, trivial⟩ (fun f1 => ?_)
      refine wk_then ?_
      refine wc_block ?_
      obtain ⟨k49, h⟩ := h
      refine wc_loop (fun k a w => ∃ (s51 : Sl × Int) (f1 : Nat → Value), a = ac 172 (en f1 [(0, .slice a0.a a0.n a0.c), (1, .slice a1.a a1.n a1.c), (9, .slice s51.1.a s51.1.n s51.1.c), (10, .int .i64 s51.2)]) [] ∧ Sm w0 w ∧ Fix _ k s51 w.heap) k49 ⟨(⟨none, 0, 0⟩, 0), _, ac_again ⟨rfl, rfl, rfl, rfl, trivial⟩, so, h⟩ ?_
      rintro k50 a53 w52 ⟨s51, f1, rfl, so, h⟩
      rcases k50 with _ | k50
      · exact h.elim
      replace h := Fix.un h; refine wc_in ?_
      refine wc_seq ?_
      refine wc_seq ?_
      refine wc_region ?_
      refine wl_val (at_move rfl) rfl ?_
      refine wl_val (at_move rfl) rfl ?_
      refine wl_val (at_lenL Try.underlying35 rfl) rfl ?_
      refine wl_val (at_lss rfl rfl) rfl ?_
      refine wl_nil ?_
      refine wk_prune [(0, .slice a0.a a0.n a0.c), (1, .slice a1.a a1.n a1.c), (9, .slice s51.1.a s51.1.n s51.1.c), (10, .int .i64 s51.2), (61, .bool (decide (s51.2 < (a0.n : Int))))] ⟨rfl, rfl, rfl, rfl, rfl, trivial⟩ (fun f1 => ?_)
      refine wk_then ?_
      refine wc_cond rfl h (fun h => ?_) (fun h => ?_)
      · refine wc_skip ?_
        refine wk_prune [(0, .slice a0.a a0.n a0.c), (1, .slice a1.a a1.n a1.c), (9, .slice s51.1.a s51.1.n s51.1.c), (10, .int .i64 s51.2)] ⟨rfl, rfl, rfl, rfl, trivial⟩ (fun f1 => ?_)
        refine wk_then ?_
        refine wc_seq ?_
        refine wc_block ?_
        refine wc_seq ?_
        refine wc_region ?_
        refine wl_val (at_move rfl) rfl ?_
        refine wl_val (at_move rfl) rfl ?_
        obtain ⟨q55, q56, p57, q58, h⟩ := h
        refine wl_val (at_ixAddrL Try.underlying35 sz22 (sl_some q58) rfl q55 q56) rfl ?_
        obtain ⟨x59, q60, h⟩ := h
        refine wl_val (at_load Try.underlying22 rfl rfl q60) rfl ?_
        refine wl_val (at_assign rfl) rfl ?_
        refine wl_nil ?_
        refine wk_prune [(0, .slice a0.a a0.n a0.c), (1, .slice a1.a a1.n a1.c), (9, .slice s51.1.a s51.1.n s51.1.c), (10, .int .i64 s51.2), (11, .slice x59.a x59.n x59.c)] ⟨rfl, rfl, rfl, rfl, rfl, trivial⟩ (fun f1 => ?_)
        refine wk_then ?_
        refine wc_seq ?_
        refine wc_seq ?_
        refine wc_region ?_
        refine wl_val (at_assign rfl) rfl ?_
        refine wl_nil ?_
        refine wk_prune [(0, .slice a0.a a0.n a0.c), (1, .slice a1.a a1.n a1.c), (9, .slice s51.1.a s51.1.n s51.1.c), (10, .int .i64 s51.2), (11, .slice x59.a x59.n x59.c), (12, .int .i64 0)] ⟨rfl, rfl, rfl, rfl, rfl, rfl, trivial⟩ (fun f1 => ?_)
        refine wk_then ?_
        refine wc_block ?_
        obtain ⟨k61, h⟩ := h
        refine wc_loop (fun k a w => ∃ (s63 : Sl × Int) (f1 : Nat → Value), a = ac 172 (en f1 [(0, .slice a0.a a0.n a0.c), (1, .slice a1.a a1.n a1.c), (9, .slice s51.1.a s51.1.n s51.1.c), (10, .int .i64 s51.2), (11, .slice s63.1.a s63.1.n s63.1.c), (12, .int .i64 s63.2)]) [] ∧ Sm w0 w ∧ Fix _ k s63 w.heap) k61 ⟨(x59, 0), _, ac_again ⟨rfl, rfl, rfl, rfl, rfl, rfl, trivial⟩, so, h⟩ ?_
        rintro k62 a65 w64 ⟨s63, f1, rfl, so, h⟩
        rcases k62 with _ | k62
        · exact h.elim
        replace h := Fix.un h; refine wc_in ?_
        refine wc_seq ?_
        refine wc_seq ?_
        refine wc_join (w0 := w0) (fun (s68 : Bool) => [(0, .slice a0.a a0.n a0.c), (1, .slice a1.a a1.n a1.c), (9, .slice s51.1.a s51.1.n s51.1.c), (10, .int .i64 s51.2), (11, .slice s63.1.a s63.1.n s63.1.c), (12, .int .i64 s63.2), (74, .bool s68)]) h ?_ ?_
        · rintro s68 w69 f1 h so; refine wk_then ?_
          refine wc_cond rfl h (fun h => ?_) (fun h => ?_)
          · refine wc_skip ?_
            refine wk_prune [(0, .slice a0.a a0.n a0.c), (1, .slice a1.a a1.n a1.c), (9, .slice s51.1.a s51.1.n s51.1.c), (10, .int .i64 s51.2), (11, .slice s63.1.a s63.1.n s63.1.c), (12, .int .i64 s63.2)] ⟨rfl, rfl, rfl, rfl, rfl, rfl, trivial⟩ (fun f1 => ?_)
            refine wk_then ?_
            refine wc_seq ?_
            refine wc_block ?_
            refine wc_region ?_
            refine wl_val (at_move rfl) rfl ?_
            refine wl_val (at_move rfl) rfl ?_
            refine wl_val (at_sub rfl rfl) rfl ?_
            refine wl_val (at_build (cs := (c29 (IntKind.wrap .i64 ((-1000 : Int) - s51.2)) 0 0 0)) (ps := [(0, .int .i64 (IntKind.wrap .i64 ((-1000 : Int) - s51.2)))]) rfl (fun w => by simp [Instr.build, Instr.fill, go_sem, Try.underlying29, z29])) rfl ?_
            obtain ⟨i73, i73a, i73b, i73c, i73d⟩ := info29
            refine wl_newS (ef_buildSlice (cs := (c29 (IntKind.wrap .i64 ((-1000 : Int) - s51.2)) 0 0 0)) (ps := [(0, .agg (c29 (IntKind.wrap .i64 ((-1000 : Int) - s51.2)) 0 0 0).toArray)]) Try.underlying22 i73a i73b rfl (by rw [i73c]; decide) (by rw [i73c]; exact fill_full (vs := [.agg (c29 (IntKind.wrap .i64 ((-1000 : Int) - s51.2)) 0 0 0).toArray]) rfl (by simp [Value.cells]) (by simp [Value.cells, len29]) rfl (by simp))) rfl so (one29 _ _ _ _) h ?_; intro p70 w71 h r72 so
            obtain ⟨i74, i74a, i74b, i74c, i74d⟩ := info29
            refine wl_ap (fx_append (s := s63.1) (t := ⟨(some p70), 1, 1⟩) (m := 1) (xs := (c29 (IntKind.wrap .i64 ((-1000 : Int) - s51.2)) 0 0 0)) Try.underlying22 Try.underlying22 i74a i74b i74c i74d rfl rfl rfl (by first | rfl | simp [len29]) r72 h) rfl so ?_; intro l75 w76 h so
            refine wl_val (at_assign rfl) rfl ?_
            refine wl_nil ?_
            refine wk_blkN ?_
            refine wk_prune [(0, .slice a0.a a0.n a0.c), (1, .slice a1.a a1.n a1.c), (9, .slice s51.1.a s51.1.n s51.1.c), (10, .int .i64 s51.2), (11, .slice l75.a l75.n l75.c), (12, .int .i64 s63.2)] ⟨rfl, rfl, rfl, rfl, rfl, rfl, trivial⟩ (fun f1 => ?_)
            refine wk_then ?_
            refine wc_region ?_
            refine wl_val (at_move rfl) rfl ?_
            refine wl_val (at_add rfl rfl) rfl ?_
            refine wl_val (at_assign rfl) rfl ?_
            refine wl_nil ?_
            exact wk_again ⟨(l75, (IntKind.wrap .i64 (s63.2 + 1))), _, ac_again ⟨rfl, rfl, rfl, rfl, rfl, rfl, trivial⟩, so, h⟩
          · refine wc_exit ?_
            refine wk_thenE ?_
            refine wk_thenE ?_
            refine wk_blkE ?_
            refine wk_prune [(0, .slice a0.a a0.n a0.c), (1, .slice a1.a a1.n a1.c), (9, .slice s51.1.a s51.1.n s51.1.c), (10, .int .i64 s51.2), (11, .slice s63.1.a s63.1.n s63.1.c)] ⟨rfl, rfl, rfl, rfl, rfl, trivial⟩ (fun f1 => ?_)
            refine wk_then ?_
            refine wc_region ?_
            refine wl_val (at_move rfl) rfl ?_
            refine wl_val (at_move rfl) rfl ?_
            obtain ⟨i80, i80a, i80b, i80c, i80d⟩ := info22
            refine wl_newS (ef_buildSlice (cs := [.slice s63.1.a s63.1.n s63.1.c]) (ps := [(0, .slice s63.1.a s63.1.n s63.1.c)]) Try.underlying35 i80a i80b rfl (by rw [i80c]; decide) (by rw [i80c]; exact fill_full (vs := [.slice s63.1.a s63.1.n s63.1.c]) rfl (by simp [Value.cells]) (by simp [Value.cells]) rfl (by simp))) rfl so (ones_cons rfl ones_nil) h ?_; intro p77 w78 h r79 so
            obtain ⟨i81, i81a, i81b, i81c, i81d⟩ := info22
            refine wl_ap (fx_append (s := s51.1) (t := ⟨(some p77), 1, 1⟩) (m := 1) (xs := [.slice s63.1.a s63.1.n s63.1.c]) Try.underlying35 Try.underlying35 i81a i81b i81c i81d rfl rfl rfl (by first | rfl | simp) r79 h) rfl so ?_; intro l82 w83 h so
            refine wl_val (at_assign rfl) rfl ?_
            refine wl_nil ?_
            refine wk_blkN ?_
            refine wk_prune [(0, .slice a0.a a0.n a0.c), (1, .slice a1.a a1.n a1.c), (9, .slice l82.a l82.n l82.c), (10, .int .i64 s51.2)] ⟨rfl, rfl, rfl, rfl, trivial⟩ (fun f1 => ?_)
            refine wk_then ?_
            refine wc_region ?_
            refine wl_val (at_move rfl) rfl ?_
            refine wl_val (at_add rfl rfl) rfl ?_
            refine wl_val (at_assign rfl) rfl ?_
            refine wl_nil ?_
            exact wk_again ⟨(l82, (IntKind.wrap .i64 (s51.2 + 1))), _, ac_again ⟨rfl, rfl, rfl, rfl, trivial⟩, so, h⟩
        · intro J67 h hJ67
          refine wc_region ?_
          refine wl_val (at_move rfl) rfl ?_
          refine wl_val (at_lss rfl rfl) rfl ?_
          refine wl_val (at_move rfl) rfl ?_
          refine bif_ h (fun hb h => ?_) (fun hb h => ?_)
          · refine wl_set (t := 70) (v := .bool true) (congrArg Value.bool hb) ?_; clear hb
            refine wl_on (t := 70) rfl (by decide) rfl ?_
            refine wl_val (at_move rfl) rfl ?_
            refine wl_on (t := 70) rfl (by decide) rfl ?_
            refine wl_val (at_rem rfl rfl (by decide)) rfl ?_
            refine wl_on (t := 70) rfl (by decide) rfl ?_
            refine wl_val (at_eql rfl rfl) rfl ?_
            refine wl_val (at_pick_t rfl rfl) rfl ?_
            refine wl_nil ?_
            exact wk_prune [(0, .slice a0.a a0.n a0.c), (1, .slice a1.a a1.n a1.c), (9, .slice s51.1.a s51.1.n s51.1.c), (10, .int .i64 s51.2), (11, .slice s63.1.a s63.1.n s63.1.c), (12, .int .i64 s63.2), (74, .bool ((Int.tmod s51.2 2) == 0))] ⟨rfl, rfl, rfl, rfl, rfl, rfl, rfl, trivial⟩ (fun f1 => hJ67 (((Int.tmod s51.2 2) == 0)) _ f1 h so)
          · refine wl_set (t := 70) (v := .bool false) (congrArg Value.bool hb) ?_; clear hb
            refine wl_off (t := 70) rfl (by decide) rfl ?_
            refine wl_off (t := 70) rfl (by decide) rfl ?_
            refine wl_off (t := 70) rfl (by decide) rfl ?_
            refine wl_val (at_pick_f rfl rfl) rfl ?_
            refine wl_nil ?_
            exact wk_prune [(0, .slice a0.a a0.n a0.c), (1, .slice a1.a a1.n a1.c), (9, .slice s51.1.a s51.1.n s51.1.c), (10, .int .i64 s51.2), (11, .slice s63.1.a s63.1.n s63.1.c), (12, .int .i64 s63.2), (74, .bool false)] ⟨rfl, rfl, rfl, rfl, rfl, rfl, rfl, trivial⟩ (fun f1 => hJ67 (false) _ f1 h so)
      · refine wc_exit ?_
        refine wk_thenE ?_
        refine wk_thenE ?_
        refine wk_blkE ?_
        refine wk_prune [(0, .slice a0.a a0.n a0.c), (1, .slice a1.a a1.n a1.c), (9, .slice s51.1.a s51.1.n s51.1.c)] ⟨rfl, rfl, rfl, trivial⟩ (fun f1 => ?_)
        refine wk_then ?_
        refine wc_seq ?_
        refine wc_seq ?_
        refine wc_region ?_
        refine wl_val (at_assign rfl) rfl ?_
        refine wl_nil ?_
        refine wk_prune [(0, .slice a0.a a0.n a0.c), (1, .slice a1.a a1.n a1.c), (9, .slice s51.1.a s51.1.n s51.1.c), (13, .int .i64 0)] ⟨rfl, rfl, rfl, rfl, trivial⟩ (fun f1 => ?_)
        refine wk_then ?_
        refine wc_block ?_
        obtain ⟨k84, h⟩ := h
        refine wc_loop (fun k a w => ∃ (s86 : Int) (f1 : Nat → Value), a = ac 172 (en f1 [(0, .slice a0.a a0.n a0.c), (1, .slice a1.a a1.n a1.c), (9, .slice s51.1.a s51.1.n s51.1.c), (13, .int .i64 s86)]) [] ∧ Sm w0 w ∧ Fix _ k s86 w.heap) k84 ⟨(0), _, ac_again ⟨rfl, rfl, rfl, rfl, trivial⟩, so, h⟩ ?_
        rintro k85 a88 w87 ⟨s86, f1, rfl, so, h⟩
        rcases k85 with _ | k85
        · exact h.elim
        replace h := Fix.un h; refine wc_in ?_
        refine wc_seq ?_
        refine wc_seq ?_
        refine wc_region ?_
        refine wl_val (at_move rfl) rfl ?_
        refine wl_val (at_move rfl) rfl ?_
        refine wl_val (at_lenL Try.underlying35 rfl) rfl ?_
        refine wl_val (at_lss rfl rfl) rfl ?_
        refine wl_nil ?_
        refine wk_prune [(0, .slice a0.a a0.n a0.c), (1, .slice a1.a a1.n a1.c), (9, .slice s51.1.a s51.1.n s51.1.c), (13, .int .i64 s86), (90, .bool (decide (s86 < (a0.n : Int))))] ⟨rfl, rfl, rfl, rfl, rfl, trivial⟩ (fun f1 => ?_)
        refine wk_then ?_
        refine wc_cond rfl h (fun h => ?_) (fun h => ?_)
        · refine wc_skip ?_
          refine wk_prune [(0, .slice a0.a a0.n a0.c), (1, .slice a1.a a1.n a1.c), (9, .slice s51.1.a s51.1.n s51.1.c), (13, .int .i64 s86)] ⟨rfl, rfl, rfl, rfl, trivial⟩ (fun f1 => ?_)
          refine wk_then ?_
          refine wc_seq ?_
          refine wc_join (w0 := w0) (fun (s91 : Unit) => [(0, .slice a0.a a0.n a0.c), (1, .slice a1.a a1.n a1.c), (9, .slice s51.1.a s51.1.n s51.1.c), (13, .int .i64 s86)]) h ?_ ?_
          · rintro s91 w92 f1 h so; refine wk_then ?_
            refine wc_region ?_
            refine wl_val (at_move rfl) rfl ?_
            refine wl_val (at_add rfl rfl) rfl ?_
            refine wl_val (at_assign rfl) rfl ?_
            refine wl_nil ?_
            exact wk_again ⟨((IntKind.wrap .i64 (s86 + 1))), _, ac_again ⟨rfl, rfl, rfl, rfl, trivial⟩, so, h⟩
          · intro J90 h hJ90
            refine wc_block ?_
            refine wc_seq ?_
            refine wc_seq ?_
            refine wc_region ?_
            refine wl_val (at_move rfl) rfl ?_
            refine wl_val (at_rem rfl rfl (by decide)) rfl ?_
            refine wl_val (at_eql rfl rfl) rfl ?_
            refine wl_nil ?_
            refine wk_prune [(0, .slice a0.a a0.n a0.c), (1, .slice a1.a a1.n a1.c), (9, .slice s51.1.a s51.1.n s51.1.c), (13, .int .i64 s86), (95, .bool ((Int.tmod s86 2) == 1))] ⟨rfl, rfl, rfl, rfl, rfl, trivial⟩ (fun f1 => ?_)
            refine wk_then ?_
            refine wc_cond rfl h (fun h => ?_) (fun h => ?_)
            · refine wc_seq ?_
              refine wc_wo [0, 0, 3, 7, 0, 0, 48, 112, 255, 511] mixed (by kernel_rfl) so ?_; intro w93 hw so; rw [← hw] at h; clear hw
              refine wo_pure (m' := 1) 0 rfl (by kernel_rfl) rfl rfl (fun H => at_move rfl) ?_
              refine wo_pure (m' := 3) 1 rfl (by kernel_rfl) rfl rfl (fun H => at_move rfl) ?_
              obtain ⟨q94, q95, p96, q97, h⟩ := h
              refine wo_pure (m' := 7) 2 rfl (by kernel_rfl) rfl rfl (fun H => at_ixAddrL Try.underlying35 sz22 (sl_some q97) rfl q94 q95) ?_
              refine wo_pure (m' := 23) 4 rfl (by kernel_rfl) rfl rfl (fun H => at_move rfl) ?_
              refine wo_pure (m' := 55) 5 rfl (by kernel_rfl) rfl rfl (fun H => at_move rfl) ?_
              obtain ⟨q98, q99, p100, q101, h⟩ := h
              refine wo_pure (m' := 119) 6 rfl (by kernel_rfl) rfl rfl (fun H => at_ixAddrL Try.underlying35 sz22 (sl_some q101) rfl q98 q99) ?_
              obtain ⟨x102, q103, h⟩ := h
              refine wo_load (m' := 127) 3 (fun H => cellAt H (p96.add (Int.toNat s86 * 1)) = some (.slice x102.a x102.n x102.c)) rfl (by kernel_rfl) rfl rfl (fun H q103 => at_load Try.underlying22 rfl rfl q103) q103 ?_
              obtain ⟨x104, q105, h⟩ := h
              refine wo_load (m' := 255) 7 (fun H => cellAt H (p100.add (Int.toNat s86 * 1)) = some (.slice x104.a x104.n x104.c)) rfl (by kernel_rfl) rfl rfl (fun H q105 => at_load Try.underlying22 rfl rfl q105) q105 ?_
              refine wo_take (m' := 511) 8 [true, true] rfl (by kernel_rfl) rfl (by kernel_rfl) ?_
              refine wl_callF (mosaicref19_Same.calls _ _ _ _ h) enter9 rfl trivial so ?_; intro x106 w107 h so
              refine wl_nil ?_
              refine wk_tq trivial ?_
              refine wo_pure (m' := 1023) 9 rfl (by kernel_rfl) rfl rfl (fun H => at_assign rfl) ?_
              refine wo_done (by kernel_rfl) ?_
              refine wk_prune [(0, .slice a0.a a0.n a0.c), (1, .slice a1.a a1.n a1.c), (9, .slice s51.1.a s51.1.n s51.1.c), (13, .int .i64 s86), (14, .bool x106)] ⟨rfl, rfl, rfl, rfl, rfl, trivial⟩ (fun f1 => ?_)
              refine wk_then ?_
              refine wc_seq ?_
              refine wc_seq ?_
              refine wc_region ?_
              refine wl_val (at_move rfl) rfl ?_
              refine wl_val (at_not rfl) rfl ?_
              refine wl_nil ?_
              refine wk_prune [(0, .slice a0.a a0.n a0.c), (1, .slice a1.a a1.n a1.c), (9, .slice s51.1.a s51.1.n s51.1.c), (13, .int .i64 s86), (106, .bool (!x106))] ⟨rfl, rfl, rfl, rfl, rfl, trivial⟩ (fun f1 => ?_)
              refine wk_then ?_
              refine wc_cond rfl h (fun h => ?_) (fun h => ?_)
              · refine wc_seq ?_
                refine wc_region ?_
                refine wl_val (at_assign rfl) rfl ?_
                refine wl_nil ?_
                refine wk_prune [(4, .bool false)] ⟨rfl, trivial⟩ (fun f1 => ?_)
                refine wk_then ?_
                refine wc_ret ?_
                refine wk_thenR ?_
                refine wk_thenR ?_
                refine wk_blkR ?_
                refine wk_thenR ?_
                refine wk_thenR ?_
                refine wk_blkR ?_
                refine wk_thenR ?_
                exact wk_ret1 (x := false) rfl (by decide) rfl so h
              · refine wc_skip ?_
                refine wk_prune [(0, .slice a0.a a0.n a0.c), (1, .slice a1.a a1.n a1.c), (9, .slice s51.1.a s51.1.n s51.1.c), (13, .int .i64 s86)] ⟨rfl, rfl, rfl, rfl, trivial⟩ (fun f1 => ?_)
                refine wk_then ?_
                refine wc_exit ?_
                refine wk_thenE ?_
                refine wk_blkE ?_
                exact wk_prune [(0, .slice a0.a a0.n a0.c), (1, .slice a1.a a1.n a1.c), (9, .slice s51.1.a s51.1.n s51.1.c), (13, .int .i64 s86)] ⟨rfl, rfl, rfl, rfl, trivial⟩ (fun f1 => hJ90 () _ f1 h so)
            · refine wc_skip ?_
              refine wk_prune [(0, .slice a0.a a0.n a0.c), (1, .slice a1.a a1.n a1.c), (9, .slice s51.1.a s51.1.n s51.1.c), (13, .int .i64 s86)] ⟨rfl, rfl, rfl, rfl, trivial⟩ (fun f1 => ?_)
              refine wk_then ?_
              refine wc_seq ?_
              refine wc_region ?_
              refine wl_val (at_assign rfl) rfl ?_
              refine wl_nil ?_
              refine wk_prune [(0, .slice a0.a a0.n a0.c), (1, .slice a1.a a1.n a1.c), (9, .slice s51.1.a s51.1.n s51.1.c), (13, .int .i64 s86), (15, .int .i64 0)] ⟨rfl, rfl, rfl, rfl, rfl, trivial⟩ (fun f1 => ?_)
              refine wk_then ?_
              refine wc_block ?_
              obtain ⟨k108, h⟩ := h
              refine wc_loop (fun k a w => ∃ (s110 : Int) (f1 : Nat → Value), a = ac 172 (en f1 [(0, .slice a0.a a0.n a0.c), (1, .slice a1.a a1.n a1.c), (9, .slice s51.1.a s51.1.n s51.1.c), (13, .int .i64 s86), (15, .int .i64 s110)]) [] ∧ Sm w0 w ∧ Fix _ k s110 w.heap) k108 ⟨(0), _, ac_again ⟨rfl, rfl, rfl, rfl, rfl, trivial⟩, so, h⟩ ?_
              rintro k109 a112 w111 ⟨s110, f1, rfl, so, h⟩
              rcases k109 with _ | k109
              · exact h.elim
              replace h := Fix.un h; refine wc_in ?_
              refine wc_seq ?_
              refine wc_seq ?_
              refine wc_region ?_
              refine wl_val (at_move rfl) rfl ?_
              refine wl_val (at_move rfl) rfl ?_
              refine wl_val (at_move rfl) rfl ?_
              obtain ⟨q114, q115, p116, q117, h⟩ := h
              refine wl_val (at_ixAddrL Try.underlying35 sz22 (sl_some q117) rfl q114 q115) rfl ?_
              obtain ⟨x118, q119, h⟩ := h
              refine wl_val (at_load Try.underlying22 rfl rfl q119) rfl ?_
              refine wl_val (at_lenL Try.underlying22 rfl) rfl ?_
              refine wl_val (at_lss rfl rfl) rfl ?_
              refine wl_nil ?_
              refine wk_prune [(0, .slice a0.a a0.n a0.c), (1, .slice a1.a a1.n a1.c), (9, .slice s51.1.a s51.1.n s51.1.c), (13, .int .i64 s86), (15, .int .i64 s110), (113, .bool (decide (s110 < (x118.n : Int))))] ⟨rfl, rfl, rfl, rfl, rfl, rfl, trivial⟩ (fun f1 => ?_)
              refine wk_then ?_
              refine wc_cond rfl h (fun h => ?_) (fun h => ?_)
              · refine wc_skip ?_
                refine wk_prune [(0, .slice a0.a a0.n a0.c), (1, .slice a1.a a1.n a1.c), (9, .slice s51.1.a s51.1.n s51.1.c), (13, .int .i64 s86), (15, .int .i64 s110)] ⟨rfl, rfl, rfl, rfl, rfl, trivial⟩ (fun f1 => ?_)
                refine wk_then ?_
                refine wc_seq ?_
                refine wc_block ?_
                refine wc_seq ?_
                refine wc_region ?_
                refine wl_val (at_move rfl) rfl ?_
                refine wl_val (at_move rfl) rfl ?_
                obtain ⟨q120, q121, p122, q123, h⟩ := h
                refine wl_val (at_ixAddrL Try.underlying35 sz22 (sl_some q123) rfl q120 q121) rfl ?_
                obtain ⟨x124, q125, h⟩ := h
                refine wl_val (at_load Try.underlying22 rfl rfl q125) rfl ?_
                refine wl_val (at_lenL Try.underlying22 rfl) rfl ?_
                refine wl_val (at_assign rfl) rfl ?_
                refine wl_nil ?_
                refine wk_prune [(0, .slice a0.a a0.n a0.c), (1, .slice a1.a a1.n a1.c), (9, .slice s51.1.a s51.1.n s51.1.c), (13, .int .i64 s86), (15, .int .i64 s110), (16, .int .i64 (x124.n : Int))] ⟨rfl, rfl, rfl, rfl, rfl, rfl, trivial⟩ (fun f1 => ?_)
                refine wk_then ?_
                refine wc_seq ?_
                refine wc_join (w0 := w0) (fun (s127 : Bool) => [(0, .slice a0.a a0.n a0.c), (1, .slice a1.a a1.n a1.c), (9, .slice s51.1.a s51.1.n s51.1.c), (13, .int .i64 s86), (15, .int .i64 s110), (171, .bool s127)]) h ?_ ?_
                · rintro s127 w128 f1 h so; refine wk_then ?_
                  refine wc_cond rfl h (fun h => ?_) (fun h => ?_)
                  · refine wc_seq ?_
                    refine wc_region ?_
                    refine wl_val (at_assign rfl) rfl ?_
                    refine wl_nil ?_
                    refine wk_prune [(4, .bool false)] ⟨rfl, trivial⟩ (fun f1 => ?_)
                    refine wk_then ?_
                    refine wc_ret ?_
                    refine wk_blkR ?_
                    refine wk_thenR ?_
                    refine wk_thenR ?_
                    refine wk_blkR ?_
                    refine wk_blkR ?_
                    refine wk_thenR ?_
                    refine wk_thenR ?_
                    refine wk_blkR ?_
                    refine wk_thenR ?_
                    exact wk_ret1 (x := false) rfl (by decide) rfl so h
                  · refine wc_skip ?_
                    refine wk_blkN ?_
                    refine wk_prune [(0, .slice a0.a a0.n a0.c), (1, .slice a1.a a1.n a1.c), (9, .slice s51.1.a s51.1.n s51.1.c), (13, .int .i64 s86), (15, .int .i64 s110)] ⟨rfl, rfl, rfl, rfl, rfl, trivial⟩ (fun f1 => ?_)
                    refine wk_then ?_
                    refine wc_region ?_
                    refine wl_val (at_move rfl) rfl ?_
                    refine wl_val (at_add rfl rfl) rfl ?_
                    refine wl_val (at_assign rfl) rfl ?_
                    refine wl_nil ?_
                    exact wk_again ⟨((IntKind.wrap .i64 (s110 + 1))), _, ac_again ⟨rfl, rfl, rfl, rfl, rfl, trivial⟩, so, h⟩
                · intro J126 h hJ126
                  refine wc_wo [0, 0, 3, 7, 15, 15, 63, 127, 15, 511, 1023, 2047, 15, 4111, 16383, 32767, 65535, 65535, 262143, 524287, 65535, 2097151, 4194303, 65535, 65535, 25231359, 58785791, 65535, 260112383, 528547839, 1073741823, 2147483647, 4294967295, 8589934591, 17179869183, 17179869183, 68719476735, 137438953471, 274877906943, 274877906943, 1099511627775, 2199023255551, 274877906943, 8796093022207, 17592186044415, 35184372088831, 274877906943, 70643622084607, 281474976710655, 562949953421311, 1125899906842623] mixed (by kernel_rfl) so ?_; intro w129 hw so; rw [← hw] at h; clear hw
                  refine wo_pure (m' := 1) 0 rfl (by kernel_rfl) rfl rfl (fun H => at_move rfl) ?_
                  refine wo_pure (m' := 3) 1 rfl (by kernel_rfl) rfl rfl (fun H => at_move rfl) ?_
                  refine wo_pure (m' := 7) 2 rfl (by kernel_rfl) rfl rfl (fun H => at_lss rfl rfl) ?_
                  refine wo_pure (m' := 15) 3 rfl (by kernel_rfl) rfl rfl (fun H => at_move rfl) ?_
                  refine bif_ h (fun hb h => ?_) (fun hb h => ?_)
                  · refine wo_set (t := 124) (v := .bool true) (congrArg Value.bool hb) ?_; clear hb
                    refine wo_pureG (m' := 31) 4 rfl (by kernel_rfl) rfl (t := 124) rfl (by decide) rfl (fun H => at_move rfl) ?_
                    refine wo_pureG (m' := 63) 5 rfl (by kernel_rfl) rfl (t := 124) rfl (by decide) rfl (fun H => at_move rfl) ?_
                    obtain ⟨q130, q131, h⟩ := h
                    refine wo_pureG (m' := 127) 6 rfl (by kernel_rfl) rfl (t := 124) rfl (by decide) rfl (fun H => at_ixAddrL Try.underlying35 sz22 (sl_some q123) rfl q130 q131) ?_
                    refine wo_pureG (m' := 383) 8 rfl (by kernel_rfl) rfl (t := 124) rfl (by decide) rfl (fun H => at_move rfl) ?_
                    refine wo_pureG (m' := 4479) 12 rfl (by kernel_rfl) rfl (t := 124) rfl (by decide) rfl (fun H => at_move rfl) ?_
                    refine wo_pureG (m' := 12671) 13 rfl (by kernel_rfl) rfl (t := 124) rfl (by decide) rfl (fun H => at_sub rfl rfl) ?_
                    obtain ⟨x132, q133, h⟩ := h
                    refine wo_loadG (m' := 12799) 7 (fun H => cellAt H (p122.add (Int.toNat s86 * 1)) = some (.slice x132.a x132.n x132.c)) rfl (by kernel_rfl) rfl (t := 124) rfl (by decide) rfl (fun H q133 => at_load Try.underlying22 rfl rfl q133) q133 ?_
                    obtain ⟨q134, q135, p136, q137, h⟩ := h
                    refine wo_pureG (m' := 13311) 9 rfl (by kernel_rfl) rfl (t := 124) rfl (by decide) rfl (fun H => at_ixAddrL Try.underlying22 sz29 (sl_some q137) rfl q134 q135) ?_
                    refine wo_pureG (m' := 14335) 10 rfl (by kernel_rfl) rfl (t := 124) rfl (by decide) rfl (fun H => at_fieldAddr Try.underlying29 rfl rfl sz3 (by decide) rfl) ?_
                    obtain ⟨x138, q139, h⟩ := h
                    refine wo_loadG (m' := 16383) 11 (fun H => cellAt H ((p136.add (Int.toNat s110 * 4)).add 0) = some (.int .i64 x138)) rfl (by kernel_rfl) rfl (t := 124) rfl (by decide) rfl (fun H q139 => at_load Try.underlying3 rfl rfl q139) q139 ?_
                    refine wo_pureG (m' := 32767) 14 rfl (by kernel_rfl) rfl (t := 124) rfl (by decide) rfl (fun H => at_neq rfl rfl) ?_
                    refine wo_pureG (m' := 65535) 15 rfl (by kernel_rfl) rfl (t := 124) rfl (by decide) rfl (fun H => at_move rfl) ?_
                    refine bif_ h (fun hb h => ?_) (fun hb h => ?_)
                    · refine wo_set (t := 136) (v := .bool true) (congrArg Value.bool hb) ?_; clear hb
                      refine wo_off (m' := 131071) 16 rfl (by kernel_rfl) rfl (t := 136) rfl (by decide) rfl ?_
                      refine wo_off (m' := 262143) 17 rfl (by kernel_rfl) rfl (t := 136) rfl (by decide) rfl ?_
                      refine wo_off (m' := 524287) 18 rfl (by kernel_rfl) rfl (t := 136) rfl (by decide) rfl ?_
                      refine wo_off (m' := 1048575) 19 rfl (by kernel_rfl) rfl (t := 136) rfl (by decide) rfl ?_
                      refine wo_off (m' := 2097151) 20 rfl (by kernel_rfl) rfl (t := 136) rfl (by decide) rfl ?_
                      refine wo_off (m' := 4194303) 21 rfl (by kernel_rfl) rfl (t := 136) rfl (by decide) rfl ?_
                      refine wo_off (m' := 8388607) 22 rfl (by kernel_rfl) rfl (t := 136) rfl (by decide) rfl ?_
                      refine wo_off (m' := 16777215) 23 rfl (by kernel_rfl) rfl (t := 136) rfl (by decide) rfl ?_
                      refine wo_off (m' := 33554431) 24 rfl (by kernel_rfl) rfl (t := 136) rfl (by decide) rfl ?_
                      refine wo_off (m' := 67108863) 25 rfl (by kernel_rfl) rfl (t := 136) rfl (by decide) rfl ?_
                      refine wo_off (m' := 134217727) 26 rfl (by kernel_rfl) rfl (t := 136) rfl (by decide) rfl ?_
                      refine wo_off (m' := 268435455) 27 rfl (by kernel_rfl) rfl (t := 136) rfl (by decide) rfl ?_
                      refine wo_off (m' := 536870911) 28 rfl (by kernel_rfl) rfl (t := 136) rfl (by decide) rfl ?_
                      refine wo_off (m' := 1073741823) 29 rfl (by kernel_rfl) rfl (t := 136) rfl (by decide) rfl ?_
                      refine wo_off (m' := 2147483647) 30 rfl (by kernel_rfl) rfl (t := 136) rfl (by decide) rfl ?_
                      refine wo_pureG (m' := 4294967295) 31 rfl (by kernel_rfl) rfl (t := 124) rfl (by decide) rfl (fun H => at_pick_t rfl rfl) ?_
                      refine wo_pure (m' := 8589934591) 32 rfl (by kernel_rfl) rfl rfl (fun H => at_pick_t rfl rfl) ?_
                      refine wo_pure (m' := 17179869183) 33 rfl (by kernel_rfl) rfl rfl (fun H => at_move rfl) ?_
                      refine wo_off (m' := 34359738367) 34 rfl (by kernel_rfl) rfl (t := 154) rfl (by decide) rfl ?_
                      refine wo_off (m' := 68719476735) 35 rfl (by kernel_rfl) rfl (t := 154) rfl (by decide) rfl ?_
                      refine wo_off (m' := 137438953471) 36 rfl (by kernel_rfl) rfl (t := 154) rfl (by decide) rfl ?_
                      refine wo_off (m' := 274877906943) 37 rfl (by kernel_rfl) rfl (t := 154) rfl (by decide) rfl ?_
                      refine wo_off' (m' := 549755813887) 38 rfl (by kernel_rfl) rfl (t := 158) rfl (by decide) rfl ?_
                      refine wo_off' (m' := 1099511627775) 39 rfl (by kernel_rfl) rfl (t := 158) rfl (by decide) rfl ?_
                      refine wo_off' (m' := 2199023255551) 40 rfl (by kernel_rfl) rfl (t := 158) rfl (by decide) rfl ?_
                      refine wo_off' (m' := 4398046511103) 41 rfl (by kernel_rfl) rfl (t := 158) rfl (by decide) rfl ?_
                      refine wo_off' (m' := 8796093022207) 42 rfl (by kernel_rfl) rfl (t := 158) rfl (by decide) rfl ?_
                      refine wo_off' (m' := 17592186044415) 43 rfl (by kernel_rfl) rfl (t := 158) rfl (by decide) rfl ?_
                      refine wo_off' (m' := 35184372088831) 44 rfl (by kernel_rfl) rfl (t := 158) rfl (by decide) rfl ?_
                      refine wo_off' (m' := 70368744177663) 45 rfl (by kernel_rfl) rfl (t := 158) rfl (by decide) rfl ?_
                      refine wo_off' (m' := 140737488355327) 46 rfl (by kernel_rfl) rfl (t := 158) rfl (by decide) rfl ?_
                      refine wo_off' (m' := 281474976710655) 47 rfl (by kernel_rfl) rfl (t := 158) rfl (by decide) rfl ?_
                      refine wo_off' (m' := 562949953421311) 48 rfl (by kernel_rfl) rfl (t := 158) rfl (by decide) rfl ?_
                      refine wo_off (m' := 1125899906842623) 49 rfl (by kernel_rfl) rfl (t := 154) rfl (by decide) rfl ?_
                      refine wo_pure (m' := 2251799813685247) 50 rfl (by kernel_rfl) rfl rfl (fun H => at_pick_t rfl rfl) ?_
                      refine wo_done (by kernel_rfl) ?_
                      exact wk_prune [(0, .slice a0.a a0.n a0.c), (1, .slice a1.a a1.n a1.c), (9, .slice s51.1.a s51.1.n s51.1.c), (13, .int .i64 s86), (15, .int .i64 s110), (171, .bool true)] ⟨rfl, rfl, rfl, rfl, rfl, rfl, trivial⟩ (fun f1 => hJ126 (true) _ f1 h so)
                    · refine wo_set (t := 136) (v := .bool false) (congrArg Value.bool hb) ?_; clear hb
                      refine wo_pureG (m' := 131071) 16 rfl (by kernel_rfl) rfl (t := 136) rfl (by decide) rfl (fun H => at_move rfl) ?_
                      refine wo_pureG (m' := 262143) 17 rfl (by kernel_rfl) rfl (t := 136) rfl (by decide) rfl (fun H => at_move rfl) ?_
                      obtain ⟨q140, q141, h⟩ := h
                      refine wo_pureG (m' := 524287) 18 rfl (by kernel_rfl) rfl (t := 136) rfl (by decide) rfl (fun H => at_ixAddrL Try.underlying35 sz22 (sl_some q117) rfl q140 q141) ?_
                      refine wo_pureG (m' := 1572863) 20 rfl (by kernel_rfl) rfl (t := 136) rfl (by decide) rfl (fun H => at_move rfl) ?_
                      refine wo_pureG (m' := 9961471) 23 rfl (by kernel_rfl) rfl (t := 136) rfl (by decide) rfl (fun H => at_move rfl) ?_
                      refine wo_pureG (m' := 26738687) 24 rfl (by kernel_rfl) rfl (t := 136) rfl (by decide) rfl (fun H => at_move rfl) ?_
                      obtain ⟨q142, q143, h⟩ := h
                      refine wo_pureG (m' := 60293119) 25 rfl (by kernel_rfl) rfl (t := 136) rfl (by decide) rfl (fun H => at_ixAddrL Try.underlying35 sz22 (sl_some q123) rfl q142 q143) ?_
                      refine wo_pureG (m' := 194510847) 27 rfl (by kernel_rfl) rfl (t := 136) rfl (by decide) rfl (fun H => at_move rfl) ?_
                      obtain ⟨x144, q145, h⟩ := h
                      refine wo_loadG (m' := 195035135) 19 (fun H => cellAt H (p116.add (Int.toNat s86 * 1)) = some (.slice x144.a x144.n x144.c)) rfl (by kernel_rfl) rfl (t := 136) rfl (by decide) rfl (fun H q145 => at_load Try.underlying22 rfl rfl q145) q145 ?_
                      obtain ⟨q146, q147, p148, q149, h⟩ := h
                      refine wo_pureG (m' := 197132287) 21 rfl (by kernel_rfl) rfl (t := 136) rfl (by decide) rfl (fun H => at_ixAddrL Try.underlying22 sz29 (sl_some q149) rfl q146 q147) ?_
                      obtain ⟨x150, x151, x152, x153, q154, h⟩ := h
                      refine wo_loadG (m' := 201326591) 22 (fun H => ldA H (p148.add (Int.toNat s110 * 4)) (c29 x150 x151 x152 x153)) rfl (by kernel_rfl) rfl (t := 136) rfl (by decide) rfl (fun H q154 => at_loadA (cs := (c29 x150 x151 x152 x153)) Try.underlying29 rfl (by rw [len29]; exact sz29) rfl q154) q154 ?_
                      obtain ⟨x155, q156, h⟩ := h
                      refine wo_loadG (m' := 268435455) 26 (fun H => cellAt H (p122.add (Int.toNat s86 * 1)) = some (.slice x155.a x155.n x155.c)) rfl (by kernel_rfl) rfl (t := 136) rfl (by decide) rfl (fun H q156 => at_load Try.underlying22 rfl rfl q156) q156 ?_
                      obtain ⟨q157, q158, p159, q160, h⟩ := h
                      refine wo_pureG (m' := 536870911) 28 rfl (by kernel_rfl) rfl (t := 136) rfl (by decide) rfl (fun H => at_ixAddrL Try.underlying22 sz29 (sl_some q160) rfl q157 q158) ?_
                      obtain ⟨x161, x162, x163, x164, q165, h⟩ := h
                      refine wo_loadG (m' := 1073741823) 29 (fun H => ldA H (p159.add (Int.toNat s110 * 4)) (c29 x161 x162 x163 x164)) rfl (by kernel_rfl) rfl (t := 136) rfl (by decide) rfl (fun H q165 => at_loadA (cs := (c29 x161 x162 x163 x164)) Try.underlying29 rfl (by rw [len29]; exact sz29) rfl q165) q165 ?_
                      refine wo_pureG (m' := 2147483647) 30 rfl (by kernel_rfl) rfl (t := 136) rfl (by decide) rfl (fun H => at_neqA (xs := (c29 x150 x151 x152 x153)) (ys := (c29 x161 x162 x163 x164)) rfl rfl (by kernel_rfl) (eqv_struct Try.underlying29 (by kernel_rfl) (eqf_cons rfl (pt_one (v := .int .i64 x150) Try.underlying3 rfl rfl) (pt_one (v := .int .i64 x161) Try.underlying3 rfl rfl) (eqv_int Try.underlying3) (eqf_cons rfl (pt_one (v := .int .i64 x151) Try.underlying3 rfl rfl) (pt_one (v := .int .i64 x162) Try.underlying3 rfl rfl) (eqv_int Try.underlying3) (eqf_cons rfl (pt_one (v := .int .i8 x152) Try.underlying27 rfl rfl) (pt_one (v := .int .i8 x163) Try.underlying27 rfl rfl) (eqv_int Try.underlying27) (eqf_last rfl (pt_one (v := .int .i64 x153) Try.underlying3 rfl rfl) (pt_one (v := .int .i64 x164) Try.underlying3 rfl rfl) (eqv_int Try.underlying3))))))) ?_
                      refine wo_pureG (m' := 4294967295) 31 rfl (by kernel_rfl) rfl (t := 124) rfl (by decide) rfl (fun H => at_pick_f rfl rfl) ?_
                      refine wo_pure (m' := 8589934591) 32 rfl (by kernel_rfl) rfl rfl (fun H => at_pick_t rfl rfl) ?_
                      refine wo_pure (m' := 17179869183) 33 rfl (by kernel_rfl) rfl rfl (fun H => at_move rfl) ?_
                      refine bif_ h (fun hb h => ?_) (fun hb h => ?_)
                      · refine wo_set (t := 154) (v := .bool true) (congrArg Value.bool hb) ?_; clear hb
                        refine wo_off (m' := 34359738367) 34 rfl (by kernel_rfl) rfl (t := 154) rfl (by decide) rfl ?_
                        refine wo_off (m' := 68719476735) 35 rfl (by kernel_rfl) rfl (t := 154) rfl (by decide) rfl ?_
                        refine wo_off (m' := 137438953471) 36 rfl (by kernel_rfl) rfl (t := 154) rfl (by decide) rfl ?_
                        refine wo_off (m' := 274877906943) 37 rfl (by kernel_rfl) rfl (t := 154) rfl (by decide) rfl ?_
                        refine wo_off' (m' := 549755813887) 38 rfl (by kernel_rfl) rfl (t := 158) rfl (by decide) rfl ?_
                        refine wo_off' (m' := 1099511627775) 39 rfl (by kernel_rfl) rfl (t := 158) rfl (by decide) rfl ?_
                        refine wo_off' (m' := 2199023255551) 40 rfl (by kernel_rfl) rfl (t := 158) rfl (by decide) rfl ?_
                        refine wo_off' (m' := 4398046511103) 41 rfl (by kernel_rfl) rfl (t := 158) rfl (by decide) rfl ?_
                        refine wo_off' (m' := 8796093022207) 42 rfl (by kernel_rfl) rfl (t := 158) rfl (by decide) rfl ?_
                        refine wo_off' (m' := 17592186044415) 43 rfl (by kernel_rfl) rfl (t := 158) rfl (by decide) rfl ?_
                        refine wo_off' (m' := 35184372088831) 44 rfl (by kernel_rfl) rfl (t := 158) rfl (by decide) rfl ?_
                        refine wo_off' (m' := 70368744177663) 45 rfl (by kernel_rfl) rfl (t := 158) rfl (by decide) rfl ?_
                        refine wo_off' (m' := 140737488355327) 46 rfl (by kernel_rfl) rfl (t := 158) rfl (by decide) rfl ?_
                        refine wo_off' (m' := 281474976710655) 47 rfl (by kernel_rfl) rfl (t := 158) rfl (by decide) rfl ?_
                        refine wo_off' (m' := 562949953421311) 48 rfl (by kernel_rfl) rfl (t := 158) rfl (by decide) rfl ?_
                        refine wo_off (m' := 1125899906842623) 49 rfl (by kernel_rfl) rfl (t := 154) rfl (by decide) rfl ?_
                        refine wo_pure (m' := 2251799813685247) 50 rfl (by kernel_rfl) rfl rfl (fun H => at_pick_t rfl rfl) ?_
                        refine wo_done (by kernel_rfl) ?_
                        exact wk_prune [(0, .slice a0.a a0.n a0.c), (1, .slice a1.a a1.n a1.c), (9, .slice s51.1.a s51.1.n s51.1.c), (13, .int .i64 s86), (15, .int .i64 s110), (171, .bool true)] ⟨rfl, rfl, rfl, rfl, rfl, rfl, trivial⟩ (fun f1 => hJ126 (true) _ f1 h so)
                      · refine wo_set (t := 154) (v := .bool false) (congrArg Value.bool hb) ?_; clear hb
                        refine wo_pureG (m' := 34359738367) 34 rfl (by kernel_rfl) rfl (t := 154) rfl (by decide) rfl (fun H => at_move rfl) ?_
                        refine wo_pureG (m' := 68719476735) 35 rfl (by kernel_rfl) rfl (t := 154) rfl (by decide) rfl (fun H => at_move rfl) ?_
                        refine wo_pureG (m' := 137438953471) 36 rfl (by kernel_rfl) rfl (t := 154) rfl (by decide) rfl (fun H => at_geq rfl rfl) ?_
                        refine wo_pureG (m' := 274877906943) 37 rfl (by kernel_rfl) rfl (t := 154) rfl (by decide) rfl (fun H => at_move rfl) ?_
                        refine bif_ h (fun hb h => ?_) (fun hb h => ?_)
                        · refine wo_set (t := 158) (v := .bool true) (congrArg Value.bool hb) ?_; clear hb
                          refine wo_pureG (m' := 549755813887) 38 rfl (by kernel_rfl) rfl (t := 158) rfl (by decide) rfl (fun H => at_move rfl) ?_
                          refine wo_pureG (m' := 1099511627775) 39 rfl (by kernel_rfl) rfl (t := 158) rfl (by decide) rfl (fun H => at_move rfl) ?_
                          obtain ⟨q166, q167, h⟩ := h
                          refine wo_pureG (m' := 2199023255551) 40 rfl (by kernel_rfl) rfl (t := 158) rfl (by decide) rfl (fun H => at_ixAddrL Try.underlying35 sz22 (sl_some q117) rfl q166 q167) ?_
                          refine wo_pureG (m' := 6597069766655) 42 rfl (by kernel_rfl) rfl (t := 158) rfl (by decide) rfl (fun H => at_move rfl) ?_
                          refine wo_pureG (m' := 76965813944319) 46 rfl (by kernel_rfl) rfl (t := 158) rfl (by decide) rfl (fun H => at_move rfl) ?_
                          refine wo_pureG (m' := 217703302299647) 47 rfl (by kernel_rfl) rfl (t := 158) rfl (by decide) rfl (fun H => at_sub rfl rfl) ?_
                          obtain ⟨x168, q169, h⟩ := h
                          refine wo_loadG (m' := 219902325555199) 41 (fun H => cellAt H (p116.add (Int.toNat s86 * 1)) = some (.slice x168.a x168.n x168.c)) rfl (by kernel_rfl) rfl (t := 158) rfl (by decide) rfl (fun H q169 => at_load Try.underlying22 rfl rfl q169) q169 ?_
                          obtain ⟨q170, q171, p172, q173, h⟩ := h
                          refine wo_pureG (m' := 228698418577407) 43 rfl (by kernel_rfl) rfl (t := 158) rfl (by decide) rfl (fun H => at_ixAddrL Try.underlying22 sz29 (sl_some q173) rfl q170 q171) ?_
                          refine wo_pureG (m' := 246290604621823) 44 rfl (by kernel_rfl) rfl (t := 158) rfl (by decide) rfl (fun H => at_fieldAddr Try.underlying29 rfl rfl sz3 (by decide) rfl) ?_
                          obtain ⟨x174, q175, h⟩ := h
                          refine wo_loadG (m' := 281474976710655) 45 (fun H => cellAt H ((p172.add (Int.toNat s110 * 4)).add 0) = some (.int .i64 x174)) rfl (by kernel_rfl) rfl (t := 158) rfl (by decide) rfl (fun H q175 => at_load Try.underlying3 rfl rfl q175) q175 ?_
                          refine wo_pureG (m' := 562949953421311) 48 rfl (by kernel_rfl) rfl (t := 158) rfl (by decide) rfl (fun H => at_neq rfl rfl) ?_
                          refine wo_pureG (m' := 1125899906842623) 49 rfl (by kernel_rfl) rfl (t := 154) rfl (by decide) rfl (fun H => at_pick_t rfl rfl) ?_
                          refine wo_pure (m' := 2251799813685247) 50 rfl (by kernel_rfl) rfl rfl (fun H => at_pick_f rfl rfl) ?_
                          refine wo_done (by kernel_rfl) ?_
                          exact wk_prune [(0, .slice a0.a a0.n a0.c), (1, .slice a1.a a1.n a1.c), (9, .slice s51.1.a s51.1.n s51.1.c), (13, .int .i64 s86), (15, .int .i64 s110), (171, .bool (x174 != (IntKind.wrap .i64 ((-1000 : Int) - s86))))] ⟨rfl, rfl, rfl, rfl, rfl, rfl, trivial⟩ (fun f1 => hJ126 ((x174 != (IntKind.wrap .i64 ((-1000 : Int) - s86)))) _ f1 h so)
                        · refine wo_set (t := 158) (v := .bool false) (congrArg Value.bool hb) ?_; clear hb
                          refine wo_off (m' := 549755813887) 38 rfl (by kernel_rfl) rfl (t := 158) rfl (by decide) rfl ?_
                          refine wo_off (m' := 1099511627775) 39 rfl (by kernel_rfl) rfl (t := 158) rfl (by decide) rfl ?_
                          refine wo_off (m' := 2199023255551) 40 rfl (by kernel_rfl) rfl (t := 158) rfl (by decide) rfl ?_
                          refine wo_off (m' := 4398046511103) 41 rfl (by kernel_rfl) rfl (t := 158) rfl (by decide) rfl ?_
                          refine wo_off (m' := 8796093022207) 42 rfl (by kernel_rfl) rfl (t := 158) rfl (by decide) rfl ?_
                          refine wo_off (m' := 17592186044415) 43 rfl (by kernel_rfl) rfl (t := 158) rfl (by decide) rfl ?_
                          refine wo_off (m' := 35184372088831) 44 rfl (by kernel_rfl) rfl (t := 158) rfl (by decide) rfl ?_
                          refine wo_off (m' := 70368744177663) 45 rfl (by kernel_rfl) rfl (t := 158) rfl (by decide) rfl ?_
                          refine wo_off (m' := 140737488355327) 46 rfl (by kernel_rfl) rfl (t := 158) rfl (by decide) rfl ?_
                          refine wo_off (m' := 281474976710655) 47 rfl (by kernel_rfl) rfl (t := 158) rfl (by decide) rfl ?_
                          refine wo_off (m' := 562949953421311) 48 rfl (by kernel_rfl) rfl (t := 158) rfl (by decide) rfl ?_
                          refine wo_pureG (m' := 1125899906842623) 49 rfl (by kernel_rfl) rfl (t := 154) rfl (by decide) rfl (fun H => at_pick_f rfl rfl) ?_
                          refine wo_pure (m' := 2251799813685247) 50 rfl (by kernel_rfl) rfl rfl (fun H => at_pick_f rfl rfl) ?_
                          refine wo_done (by kernel_rfl) ?_
                          exact wk_prune [(0, .slice a0.a a0.n a0.c), (1, .slice a1.a a1.n a1.c), (9, .slice s51.1.a s51.1.n s51.1.c), (13, .int .i64 s86), (15, .int .i64 s110), (171, .bool false)] ⟨rfl, rfl, rfl, rfl, rfl, rfl, trivial⟩ (fun f1 => hJ126 (false) _ f1 h so)
                  · refine wo_set (t := 124) (v := .bool false) (congrArg Value.bool hb) ?_; clear hb
                    refine wo_off (m' := 31) 4 rfl (by kernel_rfl) rfl (t := 124) rfl (by decide) rfl ?_
                    refine wo_off (m' := 63) 5 rfl (by kernel_rfl) rfl (t := 124) rfl (by decide) rfl ?_
                    refine wo_off (m' := 127) 6 rfl (by kernel_rfl) rfl (t := 124) rfl (by decide) rfl ?_
                    refine wo_off (m' := 255) 7 rfl (by kernel_rfl) rfl (t := 124) rfl (by decide) rfl ?_
                    refine wo_off (m' := 511) 8 rfl (by kernel_rfl) rfl (t := 124) rfl (by decide) rfl ?_
                    refine wo_off (m' := 1023) 9 rfl (by kernel_rfl) rfl (t := 124) rfl (by decide) rfl ?_
                    refine wo_off (m' := 2047) 10 rfl (by kernel_rfl) rfl (t := 124) rfl (by decide) rfl ?_
                    refine wo_off (m' := 4095) 11 rfl (by kernel_rfl) rfl (t := 124) rfl (by decide) rfl ?_
                    refine wo_off (m' := 8191) 12 rfl (by kernel_rfl) rfl (t := 124) rfl (by decide) rfl ?_
                    refine wo_off (m' := 16383) 13 rfl (by kernel_rfl) rfl (t := 124) rfl (by decide) rfl ?_
                    refine wo_off (m' := 32767) 14 rfl (by kernel_rfl) rfl (t := 124) rfl (by decide) rfl ?_
                    refine wo_off (m' := 65535) 15 rfl (by kernel_rfl) rfl (t := 124) rfl (by decide) rfl ?_
                    refine wo_off' (m' := 131071) 16 rfl (by kernel_rfl) rfl (t := 136) rfl (by decide) rfl ?_
                    refine wo_off' (m' := 262143) 17 rfl (by kernel_rfl) rfl (t := 136) rfl (by decide) rfl ?_
                    refine wo_off' (m' := 524287) 18 rfl (by kernel_rfl) rfl (t := 136) rfl (by decide) rfl ?_
                    refine wo_off' (m' := 1048575) 19 rfl (by kernel_rfl) rfl (t := 136) rfl (by decide) rfl ?_
                    refine wo_off' (m' := 2097151) 20 rfl (by kernel_rfl) rfl (t := 136) rfl (by decide) rfl ?_
                    refine wo_off' (m' := 4194303) 21 rfl (by kernel_rfl) rfl (t := 136) rfl (by decide) rfl ?_
                    refine wo_off' (m' := 8388607) 22 rfl (by kernel_rfl) rfl (t := 136) rfl (by decide) rfl ?_
                    refine wo_off' (m' := 16777215) 23 rfl (by kernel_rfl) rfl (t := 136) rfl (by decide) rfl ?_
                    refine wo_off' (m' := 33554431) 24 rfl (by kernel_rfl) rfl (t := 136) rfl (by decide) rfl ?_
                    refine wo_off' (m' := 67108863) 25 rfl (by kernel_rfl) rfl (t := 136) rfl (by decide) rfl ?_
                    refine wo_off' (m' := 134217727) 26 rfl (by kernel_rfl) rfl (t := 136) rfl (by decide) rfl ?_
                    refine wo_off' (m' := 268435455) 27 rfl (by kernel_rfl) rfl (t := 136) rfl (by decide) rfl ?_
                    refine wo_off' (m' := 536870911) 28 rfl (by kernel_rfl) rfl (t := 136) rfl (by decide) rfl ?_
                    refine wo_off' (m' := 1073741823) 29 rfl (by kernel_rfl) rfl (t := 136) rfl (by decide) rfl ?_
                    refine wo_off' (m' := 2147483647) 30 rfl (by kernel_rfl) rfl (t := 136) rfl (by decide) rfl ?_
                    refine wo_off (m' := 4294967295) 31 rfl (by kernel_rfl) rfl (t := 124) rfl (by decide) rfl ?_
                    refine wo_pure (m' := 8589934591) 32 rfl (by kernel_rfl) rfl rfl (fun H => at_pick_f rfl rfl) ?_
                    refine wo_pure (m' := 17179869183) 33 rfl (by kernel_rfl) rfl rfl (fun H => at_move rfl) ?_
                    refine wo_pureG (m' := 34359738367) 34 rfl (by kernel_rfl) rfl (t := 154) rfl (by decide) rfl (fun H => at_move rfl) ?_
                    refine wo_pureG (m' := 68719476735) 35 rfl (by kernel_rfl) rfl (t := 154) rfl (by decide) rfl (fun H => at_move rfl) ?_
                    refine wo_pureG (m' := 137438953471) 36 rfl (by kernel_rfl) rfl (t := 154) rfl (by decide) rfl (fun H => at_geq rfl rfl) ?_
                    refine wo_pureG (m' := 274877906943) 37 rfl (by kernel_rfl) rfl (t := 154) rfl (by decide) rfl (fun H => at_move rfl) ?_
                    refine bif_ h (fun hb h => ?_) (fun hb h => ?_)
                    · refine wo_set (t := 158) (v := .bool true) (congrArg Value.bool hb) ?_; clear hb
                      refine wo_pureG (m' := 549755813887) 38 rfl (by kernel_rfl) rfl (t := 158) rfl (by decide) rfl (fun H => at_move rfl) ?_
                      refine wo_pureG (m' := 1099511627775) 39 rfl (by kernel_rfl) rfl (t := 158) rfl (by decide) rfl (fun H => at_move rfl) ?_
                      obtain ⟨q176, q177, h⟩ := h
                      refine wo_pureG (m' := 2199023255551) 40 rfl (by kernel_rfl) rfl (t := 158) rfl (by decide) rfl (fun H => at_ixAddrL Try.underlying35 sz22 (sl_some q117) rfl q176 q177) ?_
                      refine wo_pureG (m' := 6597069766655) 42 rfl (by kernel_rfl) rfl (t := 158) rfl (by decide) rfl (fun H => at_move rfl) ?_
                      refine wo_pureG (m' := 76965813944319) 46 rfl (by kernel_rfl) rfl (t := 158) rfl (by decide) rfl (fun H => at_move rfl) ?_
                      refine wo_pureG (m' := 217703302299647) 47 rfl (by kernel_rfl) rfl (t := 158) rfl (by decide) rfl (fun H => at_sub rfl rfl) ?_
                      obtain ⟨x178, q179, h⟩ := h
                      refine wo_loadG (m' := 219902325555199) 41 (fun H => cellAt H (p116.add (Int.toNat s86 * 1)) = some (.slice x178.a x178.n x178.c)) rfl (by kernel_rfl) rfl (t := 158) rfl (by decide) rfl (fun H q179 => at_load Try.underlying22 rfl rfl q179) q179 ?_
                      obtain ⟨q180, q181, p182, q183, h⟩ := h
                      refine wo_pureG (m' := 228698418577407) 43 rfl (by kernel_rfl) rfl (t := 158) rfl (by decide) rfl (fun H => at_ixAddrL Try.underlying22 sz29 (sl_some q183) rfl q180 q181) ?_
                      refine wo_pureG (m' := 246290604621823) 44 rfl (by kernel_rfl) rfl (t := 158) rfl (by decide) rfl (fun H => at_fieldAddr Try.underlying29 rfl rfl sz3 (by decide) rfl) ?_
                      obtain ⟨x184, q185, h⟩ := h
                      refine wo_loadG (m' := 281474976710655) 45 (fun H => cellAt H ((p182.add (Int.toNat s110 * 4)).add 0) = some (.int .i64 x184)) rfl (by kernel_rfl) rfl (t := 158) rfl (by decide) rfl (fun H q185 => at_load Try.underlying3 rfl rfl q185) q185 ?_
                      refine wo_pureG (m' := 562949953421311) 48 rfl (by kernel_rfl) rfl (t := 158) rfl (by decide) rfl (fun H => at_neq rfl rfl) ?_
                      refine wo_pureG (m' := 1125899906842623) 49 rfl (by kernel_rfl) rfl (t := 154) rfl (by decide) rfl (fun H => at_pick_t rfl rfl) ?_
                      refine wo_pure (m' := 2251799813685247) 50 rfl (by kernel_rfl) rfl rfl (fun H => at_pick_f rfl rfl) ?_
                      refine wo_done (by kernel_rfl) ?_
                      exact wk_prune [(0, .slice a0.a a0.n a0.c), (1, .slice a1.a a1.n a1.c), (9, .slice s51.1.a s51.1.n s51.1.c), (13, .int .i64 s86), (15, .int .i64 s110), (171, .bool (x184 != (IntKind.wrap .i64 ((-1000 : Int) - s86))))] ⟨rfl, rfl, rfl, rfl, rfl, rfl, trivial⟩ (fun f1 => hJ126 ((x184 != (IntKind.wrap .i64 ((-1000 : Int) - s86)))) _ f1 h so)
                    · refine wo_set (t := 158) (v := .bool false) (congrArg Value.bool hb) ?_; clear hb
                      refine wo_off (m' := 549755813887) 38 rfl (by kernel_rfl) rfl (t := 158) rfl (by decide) rfl ?_
                      refine wo_off (m' := 1099511627775) 39 rfl (by kernel_rfl) rfl (t := 158) rfl (by decide) rfl ?_
                      refine wo_off (m' := 2199023255551) 40 rfl (by kernel_rfl) rfl (t := 158) rfl (by decide) rfl ?_
                      refine wo_off (m' := 4398046511103) 41 rfl (by kernel_rfl) rfl (t := 158) rfl (by decide) rfl ?_
                      refine wo_off (m' := 8796093022207) 42 rfl (by kernel_rfl) rfl (t := 158) rfl (by decide) rfl ?_
                      refine wo_off (m' := 17592186044415) 43 rfl (by kernel_rfl) rfl (t := 158) rfl (by decide) rfl ?_
                      refine wo_off (m' := 35184372088831) 44 rfl (by kernel_rfl) rfl (t := 158) rfl (by decide) rfl ?_
                      refine wo_off (m' := 70368744177663) 45 rfl (by kernel_rfl) rfl (t := 158) rfl (by decide) rfl ?_
                      refine wo_off (m' := 140737488355327) 46 rfl (by kernel_rfl) rfl (t := 158) rfl (by decide) rfl ?_
                      refine wo_off (m' := 281474976710655) 47 rfl (by kernel_rfl) rfl (t := 158) rfl (by decide) rfl ?_
                      refine wo_off (m' := 562949953421311) 48 rfl (by kernel_rfl) rfl (t := 158) rfl (by decide) rfl ?_
                      refine wo_pureG (m' := 1125899906842623) 49 rfl (by kernel_rfl) rfl (t := 154) rfl (by decide) rfl (fun H => at_pick_f rfl rfl) ?_
                      refine wo_pure (m' := 2251799813685247) 50 rfl (by kernel_rfl) rfl rfl (fun H => at_pick_f rfl rfl) ?_
                      refine wo_done (by kernel_rfl) ?_
                      exact wk_prune [(0, .slice a0.a a0.n a0.c), (1, .slice a1.a a1.n a1.c), (9, .slice s51.1.a s51.1.n s51.1.c), (13, .int .i64 s86), (15, .int .i64 s110), (171, .bool false)] ⟨rfl, rfl, rfl, rfl, rfl, rfl, trivial⟩ (fun f1 => hJ126 (false) _ f1 h so)
              · refine wc_exit ?_
                refine wk_thenE ?_
                refine wk_thenE ?_
                refine wk_blkE ?_
                refine wk_blkN ?_
                exact wk_prune [(0, .slice a0.a a0.n a0.c), (1, .slice a1.a a1.n a1.c), (9, .slice s51.1.a s51.1.n s51.1.c), (13, .int .i64 s86)] ⟨rfl, rfl, rfl, rfl, trivial⟩ (fun f1 => hJ90 () _ f1 h so)
        · refine wc_exit ?_
          refine wk_thenE ?_
          refine wk_thenE ?_
          refine wk_blkE ?_
          refine wk_prune [] trivial (fun f1 => ?_)
          refine wk_then ?_
          refine wc_seq ?_
          refine wc_region ?_
          refine wl_val (at_assign rfl) rfl ?_
          refine wl_nil ?_
          refine wk_prune [(4, .bool true)] ⟨rfl, trivial⟩ (fun f1 => ?_)
          refine wk_then ?_
          refine wc_ret ?_
          exact wk_ret1 (x := true) rfl (by decide) rfl so h

/-- mosaic/mosaiclaw19.alive -/
def mosaiclaw19_alive.enc : Bool → Value := fun r => .bool r
def mosaiclaw19_alive.s (H0 : Hp) (Q : Bool → Hp → Prop) : Prop :=
  cuts_Pieces.s (⟨#[18, 255, 208, 52, 255, 0, 255, 209, 255, 217]⟩ : ByteArray) 0 9 H0 (fun x1 H2 => if (x1.2.2 == 0) = true then (if (x1.2.1 == 8) = true then (if ((x1.1.n : Int) == 3) = true then (0 ≤ (0 : Int) ∧ (0 : Int) < (x1.1.n : Int) ∧ someA x1.1.a (fun p5 => ∃ x7 : Int, ∃ x8 : Int, ∃ x9 : Int, ∃ x10 : Int, ldA H2 (p5.add (Int.toNat 0 * 4)) (c29 x7 x8 x9 x10) ∧ (if ((x7 == 0) && ((x8 == 1) && ((x9 == 0) && (x10 == 3)))) = true then (0 ≤ (1 : Int) ∧ (1 : Int) < (x1.1.n : Int) ∧ (∃ x14 : Int, ∃ x15 : Int, ∃ x16 : Int, ∃ x17 : Int, ldA H2 (p5.add (Int.toNat 1 * 4)) (c29 x14 x15 x16 x17) ∧ (if ((x14 == 3) && ((x15 == 6) && ((x16 == 1) && (x17 == 8)))) = true then (0 ≤ (2 : Int) ∧ (2 : Int) < (x1.1.n : Int) ∧ (∃ x21 : Int, ∃ x22 : Int, ∃ x23 : Int, ∃ x24 : Int, ldA H2 (p5.add (Int.toNat 2 * 4)) (c29 x21 x22 x23 x24) ∧ (Q ((x21 == 8) && ((x22 == 8) && ((x23 == (-1)) && (x24 == 8)))) H2))) else (Q false H2)))) else (Q false H2)))) else (Q false H2)) else (Q false H2)) else (Q false H2))
set_option maxRecDepth 20000 in
set_option maxHeartbeats 4000000 in
theorem mosaiclaw19_alive.calls (w0 : World) (Q : Bool → Hp → Prop) (h : mosaiclaw19_alive.s w0.heap Q) :
    Ca Try.prog 13 #[] w0 (Rt mosaiclaw19_alive.enc Q w0) := by
  refine ca_start (c := _) Try.func13 rfl Try.ntmps13 rfl ?_
  have so : Sm w0 w0 := Sm.refl w0
  unfold mosaiclaw19_alive.s at h
  refine wc_prune [] trivial (fun f1 => ?_)
  refine wc_seq ?_
  refine wc_region ?_
  refine wl_val (at_assign rfl) rfl ?_
  refine wl_nil ?_
  refine wk_prune [] trivial (fun f1 => ?_)
  refine wk_then ?_
  refine wc_seq ?_
  refine wc_region ?_
  refine wl_callF (cuts_Pieces.calls _ _ _ _ _ h) enter11 rfl trivial so ?_; intro x1 w2 h so
  refine wl_val (at_move rfl) rfl ?_
  refine wl_val (at_extract rfl rfl) rfl ?_
  refine wl_val (at_extract rfl rfl) rfl ?_
  refine wl_val (at_extract rfl rfl) rfl ?_
  refine wl_val (at_assign rfl) rfl ?_
  refine wl_val (at_assign rfl) rfl ?_
  refine wl_val (at_assign rfl) rfl ?_
  refine wl_nil ?_
  refine wk_prune [(1, .slice x1.1.a x1.1.n x1.1.c), (2, .int .i64 x1.2.1), (3, .int .i64 x1.2.2)] ⟨rfl, rfl, rfl, trivial⟩ (fun f1 => ?_)
  refine wk_then ?_
  refine wc_seq ?_
  refine wc_region ?_
  refine wl_val (at_move rfl) rfl ?_
  refine wl_val (at_eql rfl rfl) rfl ?_
  refine wl_val (at_move rfl) rfl ?_
  refine bif_ h (fun hb h => ?_) (fun hb h => ?_)
  · refine wl_set (t := 11) (v := .bool true) (congrArg Value.bool hb) ?_; clear hb
    refine wl_on (t := 11) rfl (by decide) rfl ?_
    refine wl_val (at_move rfl) rfl ?_
    refine wl_on (t := 11) rfl (by decide) rfl ?_
    refine wl_val (at_eql rfl rfl) rfl ?_
    refine wl_val (at_pick_t rfl rfl) rfl ?_
    refine wl_val (at_move rfl) rfl ?_
    refine bif_ h (fun hb h => ?_) (fun hb h => ?_)
    · refine wl_set (t := 15) (v := .bool true) (congrArg Value.bool hb) ?_; clear hb
      refine wl_on (t := 15) rfl (by decide) rfl ?_
      refine wl_val (at_move rfl) rfl ?_
      refine wl_on (t := 15) rfl (by decide) rfl ?_
      refine wl_val (at_lenL Try.underlying22 rfl) rfl ?_
      refine wl_on (t := 15) rfl (by decide) rfl ?_
      refine wl_val (at_eql rfl rfl) rfl ?_
      refine wl_val (at_pick_t rfl rfl) rfl ?_
      refine wl_val (at_move rfl) rfl ?_
      refine bif_ h (fun hb h => ?_) (fun hb h => ?_)
      · refine wl_set (t := 20) (v := .bool true) (congrArg Value.bool hb) ?_; clear hb
        refine wl_on (t := 20) rfl (by decide) rfl ?_
        refine wl_val (at_move rfl) rfl ?_
        refine wl_on (t := 20) rfl (by decide) rfl ?_
        obtain ⟨q3, q4, p5, q6, h⟩ := h
        refine wl_val (at_ixAddrL Try.underlying22 sz29 (sl_some q6) rfl q3 q4) rfl ?_
        refine wl_on (t := 20) rfl (by decide) rfl ?_
        obtain ⟨x7, x8, x9, x10, q11, h⟩ := h
        refine wl_val (at_loadA (cs := (c29 x7 x8 x9 x10)) Try.underlying29 rfl (by rw [len29]; exact sz29) rfl q11) rfl ?_
        refine wl_on (t := 20) rfl (by decide) rfl ?_
        refine wl_val (at_build (cs := (c29 0 1 0 3)) (ps := [(0, .int .i64 0), (1, .int .i64 1), (2, .int .i8 0), (3, .int .i64 3)]) rfl (fun w => by simp [Instr.build, Instr.fill, go_sem, Try.underlying29, z29])) rfl ?_
        refine wl_on (t := 20) rfl (by decide) rfl ?_
        refine wl_val (at_eqlA (xs := (c29 x7 x8 x9 x10)) (ys := (c29 0 1 0 3)) rfl rfl (by kernel_rfl) (eqv_struct Try.underlying29 (by kernel_rfl) (eqf_cons rfl (pt_one (v := .int .i64 x7) Try.underlying3 rfl rfl) (pt_one (v := .int .i64 0) Try.underlying3 rfl rfl) (eqv_int Try.underlying3) (eqf_cons rfl (pt_one (v := .int .i64 x8) Try.underlying3 rfl rfl) (pt_one (v := .int .i64 1) Try.underlying3 rfl rfl) (eqv_int Try.underlying3) (eqf_cons rfl (pt_one (v := .int .i8 x9) Try.underlying27 rfl rfl) (pt_one (v := .int .i8 0) Try.underlying27 rfl rfl) (eqv_int Try.underlying27) (eqf_last rfl (pt_one (v := .int .i64 x10) Try.underlying3 rfl rfl) (pt_one (v := .int .i64 3) Try.underlying3 rfl rfl) (eqv_int Try.underlying3))))))) rfl ?_
        refine wl_val (at_pick_t rfl rfl) rfl ?_
        refine wl_val (at_move rfl) rfl ?_
        refine bif_ h (fun hb h => ?_) (fun hb h => ?_)
        · refine wl_set (t := 27) (v := .bool true) (congrArg Value.bool hb) ?_; clear hb
          refine wl_on (t := 27) rfl (by decide) rfl ?_
          refine wl_val (at_move rfl) rfl ?_
          refine wl_on (t := 27) rfl (by decide) rfl ?_
          obtain ⟨q12, q13, h⟩ := h
          refine wl_val (at_ixAddrL Try.underlying22 sz29 (sl_some q6) rfl q12 q13) rfl ?_
          refine wl_on (t := 27) rfl (by decide) rfl ?_
          obtain ⟨x14, x15, x16, x17, q18, h⟩ := h
          refine wl_val (at_loadA (cs := (c29 x14 x15 x16 x17)) Try.underlying29 rfl (by rw [len29]; exact sz29) rfl q18) rfl ?_
          refine wl_on (t := 27) rfl (by decide) rfl ?_
          refine wl_val (at_build (cs := (c29 3 6 1 8)) (ps := [(0, .int .i64 3), (1, .int .i64 6), (2, .int .i8 1), (3, .int .i64 8)]) rfl (fun w => by simp [Instr.build, Instr.fill, go_sem, Try.underlying29, z29])) rfl ?_
          refine wl_on (t := 27) rfl (by decide) rfl ?_
          refine wl_val (at_eqlA (xs := (c29 x14 x15 x16 x17)) (ys := (c29 3 6 1 8)) rfl rfl (by kernel_rfl) (eqv_struct Try.underlying29 (by kernel_rfl) (eqf_cons rfl (pt_one (v := .int .i64 x14) Try.underlying3 rfl rfl) (pt_one (v := .int .i64 3) Try.underlying3 rfl rfl) (eqv_int Try.underlying3) (eqf_cons rfl (pt_one (v := .int .i64 x15) Try.underlying3 rfl rfl) (pt_one (v := .int .i64 6) Try.underlying3 rfl rfl) (eqv_int Try.underlying3) (eqf_cons rfl (pt_one (v := .int .i8 x16) Try.underlying27 rfl rfl) (pt_one (v := .int .i8 1) Try.underlying27 rfl rfl) (eqv_int Try.underlying27) (eqf_last rfl (pt_one (v := .int .i64 x17) Try.underlying3 rfl rfl) (pt_one (v := .int .i64 8) Try.underlying3 rfl rfl) (eqv_int Try.underlying3))))))) rfl ?_
          refine wl_val (at_pick_t rfl rfl) rfl ?_
          refine wl_val (at_move rfl) rfl ?_
          refine bif_ h (fun hb h => ?_) (fun hb h => ?_)
          · refine wl_set (t := 34) (v := .bool true) (congrArg Value.bool hb) ?_; clear hb
            refine wl_on (t := 34) rfl (by decide) rfl ?_
            refine wl_val (at_move rfl) rfl ?_
            refine wl_on (t := 34) rfl (by decide) rfl ?_
            obtain ⟨q19, q20, h⟩ := h
            refine wl_val (at_ixAddrL Try.underlying22 sz29 (sl_some q6) rfl q19 q20) rfl ?_
            refine wl_on (t := 34) rfl (by decide) rfl ?_
            obtain ⟨x21, x22, x23, x24, q25, h⟩ := h
            refine wl_val (at_loadA (cs := (c29 x21 x22 x23 x24)) Try.underlying29 rfl (by rw [len29]; exact sz29) rfl q25) rfl ?_
            refine wl_on (t := 34) rfl (by decide) rfl ?_
            refine wl_val (at_build (cs := (c29 8 8 (-1) 8)) (ps := [(0, .int .i64 8), (1, .int .i64 8), (2, .int .i8 (-1)), (3, .int .i64 8)]) rfl (fun w => by simp [Instr.build, Instr.fill, go_sem, Try.underlying29, z29])) rfl ?_
            refine wl_on (t := 34) rfl (by decide) rfl ?_
            refine wl_val (at_eqlA (xs := (c29 x21 x22 x23 x24)) (ys := (c29 8 8 (-1) 8)) rfl rfl (by kernel_rfl) (eqv_struct Try.underlying29 (by kernel_rfl) (eqf_cons rfl (pt_one (v := .int .i64 x21) Try.underlying3 rfl rfl) (pt_one (v := .int .i64 8) Try.underlying3 rfl rfl) (eqv_int Try.underlying3) (eqf_cons rfl (pt_one (v := .int .i64 x22) Try.underlying3 rfl rfl) (pt_one (v := .int .i64 8) Try.underlying3 rfl rfl) (eqv_int Try.underlying3) (eqf_cons rfl (pt_one (v := .int .i8 x23) Try.underlying27 rfl rfl) (pt_one (v := .int .i8 (-1)) Try.underlying27 rfl rfl) (eqv_int Try.underlying27) (eqf_last rfl (pt_one (v := .int .i64 x24) Try.underlying3 rfl rfl) (pt_one (v := .int .i64 8) Try.underlying3 rfl rfl) (eqv_int Try.underlying3))))))) rfl ?_
            refine wl_val (at_pick_t rfl rfl) rfl ?_
            refine wl_val (at_assign rfl) rfl ?_
            refine wl_nil ?_
            refine wk_prune [(0, .bool ((x21 == 8) && ((x22 == 8) && ((x23 == (-1)) && (x24 == 8)))))] ⟨rfl, trivial⟩ (fun f1 => ?_)
            refine wk_then ?_
            refine wc_ret ?_
            exact wk_ret1 (x := ((x21 == 8) && ((x22 == 8) && ((x23 == (-1)) && (x24 == 8))))) rfl (by decide) rfl so h
          · refine wl_set (t := 34) (v := .bool false) (congrArg Value.bool hb) ?_; clear hb
            refine wl_off (t := 34) rfl (by decide) rfl ?_
            refine wl_off (t := 34) rfl (by decide) rfl ?_
            refine wl_off (t := 34) rfl (by decide) rfl ?_
            refine wl_off (t := 34) rfl (by decide) rfl ?_
            refine wl_off (t := 34) rfl (by decide) rfl ?_
            refine wl_val (at_pick_f rfl rfl) rfl ?_
            refine wl_val (at_assign rfl) rfl ?_
            refine wl_nil ?_
            refine wk_prune [(0, .bool false)] ⟨rfl, trivial⟩ (fun f1 => ?_)
            refine wk_then ?_
            refine wc_ret ?_
            exact wk_ret1 (x := false) rfl (by decide) rfl so h
        · refine wl_set (t := 27) (v := .bool false) (congrArg Value.bool hb) ?_; clear hb
          refine wl_off (t := 27) rfl (by decide) rfl ?_
          refine wl_off (t := 27) rfl (by decide) rfl ?_
          refine wl_off (t := 27) rfl (by decide) rfl ?_
          refine wl_off (t := 27) rfl (by decide) rfl ?_
          refine wl_off (t := 27) rfl (by decide) rfl ?_
          refine wl_val (at_pick_f rfl rfl) rfl ?_
          refine wl_val (at_move rfl) rfl ?_
          refine wl_off (t := 34) rfl (by decide) rfl ?_
          refine wl_off (t := 34) rfl (by decide) rfl ?_
          refine wl_off (t := 34) rfl (by decide) rfl ?_
          refine wl_off (t := 34) rfl (by decide) rfl ?_
          refine wl_off (t := 34) rfl (by decide) rfl ?_
          refine wl_val (at_pick_f rfl rfl) rfl ?_
          refine wl_val (at_assign rfl) rfl ?_
          refine wl_nil ?_
          refine wk_prune [(0, .bool false)] ⟨rfl, trivial⟩ (fun f1 => ?_)
          refine wk_then ?_
          refine wc_ret ?_
          exact wk_ret1 (x := false) rfl (by decide) rfl so h
      · refine wl_set (t := 20) (v := .bool false) (congrArg Value.bool hb) ?_; clear hb
        refine wl_off (t := 20) rfl (by decide) rfl ?_
        refine wl_off (t := 20) rfl (by decide) rfl ?_
        refine wl_off (t := 20) rfl (by decide) rfl ?_
        refine wl_off (t := 20) rfl (by decide) rfl ?_
        refine wl_off (t := 20) rfl (by decide) rfl ?_
        refine wl_val (at_pick_f rfl rfl) rfl ?_
        refine wl_val (at_move rfl) rfl ?_
        refine wl_off (t := 27) rfl (by decide) rfl ?_
        refine wl_off (t := 27) rfl (by decide) rfl ?_
        refine wl_off (t := 27) rfl (by decide) rfl ?_
        refine wl_off (t := 27) rfl (by decide) rfl ?_
        refine wl_off (t := 27) rfl (by decide) rfl ?_
        refine wl_val (at_pick_f rfl rfl) rfl ?_
        refine wl_val (at_move rfl) rfl ?_
        refine wl_off (t := 34) rfl (by decide) rfl ?_
        refine wl_off (t := 34) rfl (by decide) rfl ?_
        refine wl_off (t := 34) rfl (by decide) rfl ?_
        refine wl_off (t := 34) rfl (by decide) rfl ?_
        refine wl_off (t := 34) rfl (by decide) rfl ?_
        refine wl_val (at_pick_f rfl rfl) rfl ?_
        refine wl_val (at_assign rfl) rfl ?_
        refine wl_nil ?_
        refine wk_prune [(0, .bool false)] ⟨rfl, trivial⟩ (fun f1 => ?_)
        refine wk_then ?_
        refine wc_ret ?_
        exact wk_ret1 (x := false) rfl (by decide) rfl so h
    · refine wl_set (t := 15) (v := .bool false) (congrArg Value.bool hb) ?_; clear hb
      refine wl_off (t := 15) rfl (by decide) rfl ?_
      refine wl_off (t := 15) rfl (by decide) rfl ?_
      refine wl_off (t := 15) rfl (by decide) rfl ?_
      refine wl_val (at_pick_f rfl rfl) rfl ?_
      refine wl_val (at_move rfl) rfl ?_
      refine wl_off (t := 20) rfl (by decide) rfl ?_
      refine wl_off (t := 20) rfl (by decide) rfl ?_
      refine wl_off (t := 20) rfl (by decide) rfl ?_
      refine wl_off (t := 20) rfl (by decide) rfl ?_
      refine wl_off (t := 20) rfl (by decide) rfl ?_
      refine wl_val (at_pick_f rfl rfl) rfl ?_
      refine wl_val (at_move rfl) rfl ?_
      refine wl_off (t := 27) rfl (by decide) rfl ?_
      refine wl_off (t := 27) rfl (by decide) rfl ?_
      refine wl_off (t := 27) rfl (by decide) rfl ?_
      refine wl_off (t := 27) rfl (by decide) rfl ?_
      refine wl_off (t := 27) rfl (by decide) rfl ?_
      refine wl_val (at_pick_f rfl rfl) rfl ?_
      refine wl_val (at_move rfl) rfl ?_
      refine wl_off (t := 34) rfl (by decide) rfl ?_
      refine wl_off (t := 34) rfl (by decide) rfl ?_
      refine wl_off (t := 34) rfl (by decide) rfl ?_
      refine wl_off (t := 34) rfl (by decide) rfl ?_
      refine wl_off (t := 34) rfl (by decide) rfl ?_
      refine wl_val (at_pick_f rfl rfl) rfl ?_
      refine wl_val (at_assign rfl) rfl ?_
      refine wl_nil ?_
      refine wk_prune [(0, .bool false)] ⟨rfl, trivial⟩ (fun f1 => ?_)
      refine wk_then ?_
      refine wc_ret ?_
      exact wk_ret1 (x := false) rfl (by decide) rfl so h
  · refine wl_set (t := 11) (v := .bool false) (congrArg Value.bool hb) ?_; clear hb
    refine wl_off (t := 11) rfl (by decide) rfl ?_
    refine wl_off (t := 11) rfl (by decide) rfl ?_
    refine wl_val (at_pick_f rfl rfl) rfl ?_
    refine wl_val (at_move rfl) rfl ?_
    refine wl_off (t := 15) rfl (by decide) rfl ?_
    refine wl_off (t := 15) rfl (by decide) rfl ?_
    refine wl_off (t := 15) rfl (by decide) rfl ?_
    refine wl_val (at_pick_f rfl rfl) rfl ?_
    refine wl_val (at_move rfl) rfl ?_
    refine wl_off (t := 20) rfl (by decide) rfl ?_
    refine wl_off (t := 20) rfl (by decide) rfl ?_
    refine wl_off (t := 20) rfl (by decide) rfl ?_
    refine wl_off (t := 20) rfl (by decide) rfl ?_
    refine wl_off (t := 20) rfl (by decide) rfl ?_
    refine wl_val (at_pick_f rfl rfl) rfl ?_
    refine wl_val (at_move rfl) rfl ?_
    refine wl_off (t := 27) rfl (by decide) rfl ?_
    refine wl_off (t := 27) rfl (by decide) rfl ?_
    refine wl_off (t := 27) rfl (by decide) rfl ?_
    refine wl_off (t := 27) rfl (by decide) rfl ?_
    refine wl_off (t := 27) rfl (by decide) rfl ?_
    refine wl_val (at_pick_f rfl rfl) rfl ?_
    refine wl_val (at_move rfl) rfl ?_
    refine wl_off (t := 34) rfl (by decide) rfl ?_
    refine wl_off (t := 34) rfl (by decide) rfl ?_
    refine wl_off (t := 34) rfl (by decide) rfl ?_
    refine wl_off (t := 34) rfl (by decide) rfl ?_
    refine wl_off (t := 34) rfl (by decide) rfl ?_
    refine wl_val (at_pick_f rfl rfl) rfl ?_
    refine wl_val (at_assign rfl) rfl ?_
    refine wl_nil ?_
    refine wk_prune [(0, .bool false)] ⟨rfl, trivial⟩ (fun f1 => ?_)
    refine wk_then ?_
    refine wc_ret ?_
    exact wk_ret1 (x := false) rfl (by decide) rfl so h

/-- mosaic/mosaiclaw19.stuffed -/
def mosaiclaw19_stuffed.enc : ByteArray → Value := fun r => .string r
def mosaiclaw19_stuffed.s (a0 : ByteArray) (H0 : Hp) (Q : ByteArray → Hp → Prop) : Prop :=
  ∃ k1, Fix (fun (rec6 : (Sl × Int) → Hp → Prop) (s3 : Sl × Int) (H4 : Hp) => if decide (s3.2 < (a0.size : Int)) = true then (Join (fun (s8 : Sl) (H9 : Hp) => rec6 (s8, (IntKind.wrap .i64 (s3.2 + 1))) H9) (fun (J7 : Sl → Hp → Prop) => 0 ≤ s3.2 ∧ s3.2 < (a0.size : Int) ∧ (nw H4 5 [.int .u8 (bt a0 s3.2)] (fun p12 H13 => apS H13 s3.1 5 1 1 z5.cells 1 [.int .u8 (bt a0 s3.2)] (fun l17 H18 => 0 ≤ s3.2 ∧ s3.2 < (a0.size : Int) ∧ (if ((bt a0 s3.2) == 255) = true then (nw H18 5 [.int .u8 0] (fun p21 H22 => apS H22 l17 5 1 1 z5.cells 1 [.int .u8 0] (fun l26 H27 => J7 (l26) H27))) else (J7 (l17) H18))))))) else (∃ b28 : ByteArray, s3.1.n = b28.size ∧ rdS H4 s3.1.a (byteCells b28) ∧ (Q b28 H4))) k1 (⟨none, 0, 0⟩, 0) H0
set_option maxRecDepth 20000 in
set_option maxHeartbeats 4000000 in
theorem mosaiclaw19_stuffed.calls (a0 : ByteArray) (w0 : World) (Q : ByteArray → Hp → Prop) (h : mosaiclaw19_stuffed.s a0 w0.heap Q) :
    Ca Try.prog 14 #[.string a0] w0 (Rt mosaiclaw19_stuffed.enc Q w0) := by
  refine ca_start (c := _) Try.func14 rfl Try.ntmps14 rfl ?_
  have so : Sm w0 w0 := Sm.refl w0
  unfold mosaiclaw19_stuffed.s at h
  refine wc_prune [(0, .string a0)] ⟨rfl, trivial⟩ (fun f1 => ?_)
  refine wc_seq ?_
  refine wc_region ?_
  refine wl_val (at_assign rfl) rfl ?_
  refine wl_nil ?_
  refine wk_prune [(0, .string a0)] ⟨rfl, trivial⟩ (fun f1 => ?_)
  refine wk_then ?_
  refine wc_seq ?_
  refine wc_region ?_
  refine wl_val (at_assign rfl) rfl ?_
  refine wl_nil ?_
  refine wk_prune [(0, .string a0), (3, .slice none 0 0)] ⟨rfl, rfl, trivial⟩ (fun f1 => ?_)
  refine wk_then ?_
  refine wc_seq ?_
  refine wc_seq ?_
  refine wc_region ?_
  refine wl_val (at_assign rfl) rfl ?_
  refine wl_nil ?_
  refine wk_prune [(0, .string a0), (3, .slice none 0 0), (4, .int .i64 0)] ⟨rfl, rfl, rfl, trivial⟩ (fun f1 => ?_)
  refine wk_then ?_
  refine wc_block ?_
  obtain ⟨k1, h⟩ := h
  refine wc_loop (fun k a w => ∃ (s3 : Sl × Int) (f1 : Nat → Value), a = ac 26 (en f1 [(0, .string a0), (3, .slice s3.1.a s3.1.n s3.1.c), (4, .int .i64 s3.2)]) [] ∧ Sm w0 w ∧ Fix _ k s3 w.heap) k1 ⟨(⟨none, 0, 0⟩, 0), _, ac_again ⟨rfl, rfl, rfl, trivial⟩, so, h⟩ ?_
  rintro k2 a5 w4 ⟨s3, f1, rfl, so, h⟩
  rcases k2 with _ | k2
  · exact h.elim
  replace h := Fix.un h; refine wc_in ?_
  refine wc_seq ?_
  refine wc_seq ?_
  refine wc_region ?_
  refine wl_val (at_move rfl) rfl ?_
  refine wl_val (at_move rfl) rfl ?_
  refine wl_val (at_lenS Try.underlying9 rfl) rfl ?_
  refine wl_val (at_lss rfl rfl) rfl ?_
  refine wl_nil ?_
  refine wk_prune [(0, .string a0), (3, .slice s3.1.a s3.1.n s3.1.c), (4, .int .i64 s3.2), (8, .bool (decide (s3.2 < (a0.size : Int))))] ⟨rfl, rfl, rfl, rfl, trivial⟩ (fun f1 => ?_)
  refine wk_then ?_
  refine wc_cond rfl h (fun h => ?_) (fun h => ?_)
  · refine wc_skip ?_
    refine wk_prune [(0, .string a0), (3, .slice s3.1.a s3.1.n s3.1.c), (4, .int .i64 s3.2)] ⟨rfl, rfl, rfl, trivial⟩ (fun f1 => ?_)
    refine wk_then ?_
    refine wc_seq ?_
    refine wc_join (w0 := w0) (fun (s8 : Sl) => [(0, .string a0), (3, .slice s8.a s8.n s8.c), (4, .int .i64 s3.2)]) h ?_ ?_
    · rintro s8 w9 f1 h so; refine wk_then ?_
      refine wc_region ?_
      refine wl_val (at_move rfl) rfl ?_
      refine wl_val (at_add rfl rfl) rfl ?_
      refine wl_val (at_assign rfl) rfl ?_
      refine wl_nil ?_
      exact wk_again ⟨(s8, (IntKind.wrap .i64 (s3.2 + 1))), _, ac_again ⟨rfl, rfl, rfl, trivial⟩, so, h⟩
    · intro J7 h hJ7
      refine wc_block ?_
      refine wc_seq ?_
      refine wc_region ?_
      refine wl_val (at_move rfl) rfl ?_
      refine wl_val (at_move rfl) rfl ?_
      refine wl_val (at_move rfl) rfl ?_
      obtain ⟨q10, q11, h⟩ := h
      refine wl_val (at_ixS Try.underlying9 rfl rfl q10 q11) rfl ?_
      obtain ⟨i15, i15a, i15b, i15c, i15d⟩ := info5
      refine wl_newS (ef_buildSlice (cs := [.int .u8 (bt a0 s3.2)]) (ps := [(0, .int .u8 (bt a0 s3.2))]) Try.underlying44 i15a i15b rfl (by rw [i15c]; decide) (by rw [i15c]; exact fill_full (vs := [.int .u8 (bt a0 s3.2)]) rfl (by simp [Value.cells]) (by simp [Value.cells]) rfl (by simp))) rfl so (ones_cons rfl ones_nil) h ?_; intro p12 w13 h r14 so
      obtain ⟨i16, i16a, i16b, i16c, i16d⟩ := info5
      refine wl_ap (fx_append (s := s3.1) (t := ⟨(some p12), 1, 1⟩) (m := 1) (xs := [.int .u8 (bt a0 s3.2)]) Try.underlying44 Try.underlying44 i16a i16b i16c i16d rfl rfl rfl (by first | rfl | simp) r14 h) rfl so ?_; intro l17 w18 h so
      refine wl_val (at_assign rfl) rfl ?_
      refine wl_nil ?_
      refine wk_prune [(0, .string a0), (3, .slice l17.a l17.n l17.c), (4, .int .i64 s3.2)] ⟨rfl, rfl, rfl, trivial⟩ (fun f1 => ?_)
      refine wk_then ?_
      refine wc_seq ?_
      refine wc_region ?_
      refine wl_val (at_move rfl) rfl ?_
      refine wl_val (at_move rfl) rfl ?_
      obtain ⟨q19, q20, h⟩ := h
      refine wl_val (at_ixS Try.underlying9 rfl rfl q19 q20) rfl ?_
      refine wl_val (at_eql rfl rfl) rfl ?_
      refine wl_nil ?_
      refine wk_prune [(0, .string a0), (3, .slice l17.a l17.n l17.c), (4, .int .i64 s3.2), (20, .bool ((bt a0 s3.2) == 255))] ⟨rfl, rfl, rfl, rfl, trivial⟩ (fun f1 => ?_)
      refine wk_then ?_
      refine wc_cond rfl h (fun h => ?_) (fun h => ?_)
      · refine wc_region ?_
        refine wl_val (at_move rfl) rfl ?_
        obtain ⟨i24, i24a, i24b, i24c, i24d⟩ := info5
        refine wl_newS (ef_buildSlice (cs := [.int .u8 0]) (ps := [(0, .int .u8 0)]) Try.underlying44 i24a i24b rfl (by rw [i24c]; decide) (by rw [i24c]; exact fill_full (vs := [.int .u8 0]) rfl (by simp [Value.cells]) (by simp [Value.cells]) rfl (by simp))) rfl so (ones_cons rfl ones_nil) h ?_; intro p21 w22 h r23 so
        obtain ⟨i25, i25a, i25b, i25c, i25d⟩ := info5
        refine wl_ap (fx_append (s := l17) (t := ⟨(some p21), 1, 1⟩) (m := 1) (xs := [.int .u8 0]) Try.underlying44 Try.underlying44 i25a i25b i25c i25d rfl rfl rfl (by first | rfl | simp) r23 h) rfl so ?_; intro l26 w27 h so
        refine wl_val (at_assign rfl) rfl ?_
        refine wl_nil ?_
        refine wk_blkN ?_
        exact wk_prune [(0, .string a0), (3, .slice l26.a l26.n l26.c), (4, .int .i64 s3.2)] ⟨rfl, rfl, rfl, trivial⟩ (fun f1 => hJ7 (l26) _ f1 h so)
      · refine wc_skip ?_
        refine wk_blkN ?_
        exact wk_prune [(0, .string a0), (3, .slice l17.a l17.n l17.c), (4, .int .i64 s3.2)] ⟨rfl, rfl, rfl, trivial⟩ (fun f1 => hJ7 (l17) _ f1 h so)
  · refine wc_exit ?_
    refine wk_thenE ?_
    refine wk_thenE ?_
    refine wk_blkE ?_
    refine wk_prune [(3, .slice s3.1.a s3.1.n s3.1.c)] ⟨rfl, trivial⟩ (fun f1 => ?_)
    refine wk_then ?_
    refine wc_seq ?_
    refine wc_region ?_
    refine wl_val (at_move rfl) rfl ?_
    obtain ⟨b28, q29, q30, h⟩ := h
    refine wl_val (at_str (s := s3.1) Try.underlying44 Try.underlying9 Try.underlying5 rfl q29 q30) rfl ?_
    refine wl_val (at_assign rfl) rfl ?_
    refine wl_nil ?_
    refine wk_prune [(2, .string b28)] ⟨rfl, trivial⟩ (fun f1 => ?_)
    refine wk_then ?_
    refine wc_ret ?_
    exact wk_ret1 (x := b28) rfl (by decide) rfl so h

/-- mosaic/mosaiclaw19.fill -/
def mosaiclaw19_fill.enc : ByteArray → Value := fun r => .string r
def mosaiclaw19_fill.s (a0 : Int) (H0 : Hp) (Q : ByteArray → Hp → Prop) : Prop :=
  Join (fun (s2 : Int) (H3 : Hp) => ∃ k4, Fix (fun (rec9 : (ByteArray × Int) → Hp → Prop) (s6 : ByteArray × Int) (H7 : Hp) => if decide (s6.2 < s2) = true then (s6.1.size + (⟨#[255]⟩ : ByteArray).size ≤ 9223372036854775807 ∧ (rec9 ((s6.1 ++ (⟨#[255]⟩ : ByteArray)), (IntKind.wrap .i64 (s6.2 + 1))) H7)) else (Q s6.1 H7)) k4 ((⟨#[]⟩ : ByteArray), 0) H3) (fun (J1 : Int → Hp → Prop) => if decide ((Int.tmod a0 6) < 0) = true then (J1 ((IntKind.wrap .i64 (0 - (Int.tmod a0 6)))) H0) else (J1 ((Int.tmod a0 6)) H0))
set_option maxRecDepth 20000 in
set_option maxHeartbeats 4000000 in
theorem mosaiclaw19_fill.calls (a0 : Int) (w0 : World) (Q : ByteArray → Hp → Prop) (h : mosaiclaw19_fill.s a0 w0.heap Q) :
    Ca Try.prog 15 #[.int .i64 a0] w0 (Rt mosaiclaw19_fill.enc Q w0) := by
  refine ca_start (c := _) Try.func15 rfl Try.ntmps15 rfl ?_
  have so : Sm w0 w0 := Sm.refl w0
  unfold mosaiclaw19_fill.s at h
  refine wc_prune [(0, .int .i64 a0)] ⟨rfl, trivial⟩ (fun f1 => ?_)
  refine wc_seq ?_
  refine wc_region ?_
  refine wl_val (at_assign rfl) rfl ?_
  refine wl_nil ?_
  refine wk_prune [(0, .int .i64 a0)] ⟨rfl, trivial⟩ (fun f1 => ?_)
  refine wk_then ?_
  refine wc_seq ?_
  refine wc_region ?_
  refine wl_val (at_move rfl) rfl ?_
  refine wl_val (at_rem rfl rfl (by decide)) rfl ?_
  refine wl_val (at_assign rfl) rfl ?_
  refine wl_nil ?_
  refine wk_prune [(0, .int .i64 (Int.tmod a0 6))] ⟨rfl, trivial⟩ (fun f1 => ?_)
  refine wk_then ?_
  refine wc_seq ?_
  refine wc_join (w0 := w0) (fun (s2 : Int) => [(0, .int .i64 s2)]) h ?_ ?_
  · rintro s2 w3 f1 h so; refine wk_then ?_
    refine wc_seq ?_
    refine wc_region ?_
    refine wl_val (at_assign rfl) rfl ?_
    refine wl_nil ?_
    refine wk_prune [(0, .int .i64 s2), (3, .string (⟨#[]⟩ : ByteArray))] ⟨rfl, rfl, trivial⟩ (fun f1 => ?_)
    refine wk_then ?_
    refine wc_seq ?_
    refine wc_seq ?_
    refine wc_region ?_
    refine wl_val (at_assign rfl) rfl ?_
    refine wl_nil ?_
    refine wk_prune [(0, .int .i64 s2), (3, .string (⟨#[]⟩ : ByteArray)), (4, .int .i64 0)] ⟨rfl, rfl, rfl, trivial⟩ (fun f1 => ?_)
    refine wk_then ?_
    refine wc_block ?_
    obtain ⟨k4, h⟩ := h
    refine wc_loop (fun k a w => ∃ (s6 : ByteArray × Int) (f1 : Nat → Value), a = ac 19 (en f1 [(0, .int .i64 s2), (3, .string s6.1), (4, .int .i64 s6.2)]) [] ∧ Sm w0 w ∧ Fix _ k s6 w.heap) k4 ⟨((⟨#[]⟩ : ByteArray), 0), _, ac_again ⟨rfl, rfl, rfl, trivial⟩, so, h⟩ ?_
    rintro k5 a8 w7 ⟨s6, f1, rfl, so, h⟩
    rcases k5 with _ | k5
    · exact h.elim
    replace h := Fix.un h; refine wc_in ?_
    refine wc_seq ?_
    refine wc_seq ?_
    refine wc_region ?_
    refine wl_val (at_move rfl) rfl ?_
    refine wl_val (at_move rfl) rfl ?_
    refine wl_val (at_lss rfl rfl) rfl ?_
    refine wl_nil ?_
    refine wk_prune [(0, .int .i64 s2), (3, .string s6.1), (4, .int .i64 s6.2), (13, .bool (decide (s6.2 < s2)))] ⟨rfl, rfl, rfl, rfl, trivial⟩ (fun f1 => ?_)
    refine wk_then ?_
    refine wc_cond rfl h (fun h => ?_) (fun h => ?_)
    · refine wc_skip ?_
      refine wk_prune [(0, .int .i64 s2), (3, .string s6.1), (4, .int .i64 s6.2)] ⟨rfl, rfl, rfl, trivial⟩ (fun f1 => ?_)
      refine wk_then ?_
      refine wc_seq ?_
      refine wc_block ?_
      refine wc_region ?_
      refine wl_val (at_move rfl) rfl ?_
      obtain ⟨q10, h⟩ := h
      refine wl_val (at_cat rfl rfl q10) rfl ?_
      refine wl_val (at_assign rfl) rfl ?_
      refine wl_nil ?_
      refine wk_blkN ?_
      refine wk_prune [(0, .int .i64 s2), (3, .string (s6.1 ++ (⟨#[255]⟩ : ByteArray))), (4, .int .i64 s6.2)] ⟨rfl, rfl, rfl, trivial⟩ (fun f1 => ?_)
      refine wk_then ?_
      refine wc_region ?_
      refine wl_val (at_move rfl) rfl ?_
      refine wl_val (at_add rfl rfl) rfl ?_
      refine wl_val (at_assign rfl) rfl ?_
      refine wl_nil ?_
      exact wk_again ⟨((s6.1 ++ (⟨#[255]⟩ : ByteArray)), (IntKind.wrap .i64 (s6.2 + 1))), _, ac_again ⟨rfl, rfl, rfl, trivial⟩, so, h⟩
    · refine wc_exit ?_
      refine wk_thenE ?_
      refine wk_thenE ?_
      refine wk_blkE ?_
      refine wk_prune [(3, .string s6.1)] ⟨rfl, trivial⟩ (fun f1 => ?_)
      refine wk_then ?_
      refine wc_seq ?_
      refine wc_region ?_
      refine wl_val (at_move rfl) rfl ?_
      refine wl_val (at_assign rfl) rfl ?_
      refine wl_nil ?_
      refine wk_prune [(2, .string s6.1)] ⟨rfl, trivial⟩ (fun f1 => ?_)
      refine wk_then ?_
      refine wc_ret ?_
      exact wk_ret1 (x := s6.1) rfl (by decide) rfl so h
  · intro J1 h hJ1
    refine wc_seq ?_
    refine wc_region ?_
    refine wl_val (at_move rfl) rfl ?_
    refine wl_val (at_lss rfl rfl) rfl ?_
    refine wl_nil ?_
    refine wk_prune [(0, .int .i64 (Int.tmod a0 6)), (8, .bool (decide ((Int.tmod a0 6) < 0)))] ⟨rfl, rfl, trivial⟩ (fun f1 => ?_)
    refine wk_then ?_
    refine wc_cond rfl h (fun h => ?_) (fun h => ?_)
    · refine wc_region ?_
      refine wl_val (at_move rfl) rfl ?_
      refine wl_val (at_neg rfl) rfl ?_
      refine wl_val (at_assign rfl) rfl ?_
      refine wl_nil ?_
      exact wk_prune [(0, .int .i64 (IntKind.wrap .i64 (0 - (Int.tmod a0 6))))] ⟨rfl, trivial⟩ (fun f1 => hJ1 ((IntKind.wrap .i64 (0 - (Int.tmod a0 6)))) _ f1 h so)
    · refine wc_skip ?_
      exact wk_prune [(0, .int .i64 (Int.tmod a0 6))] ⟨rfl, trivial⟩ (fun f1 => hJ1 ((Int.tmod a0 6)) _ f1 h so)
end Go.Proofs.Ytdcjjoihlnjpnaa.G
