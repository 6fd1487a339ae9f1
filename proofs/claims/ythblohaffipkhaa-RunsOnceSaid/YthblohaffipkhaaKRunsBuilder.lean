import Derived.Test.YthblohaffipkhaaGF
import Derived.Test.YthblohaffipkhaaKmosaiclaw07
import Derived.Test.YthblohaffipkhaaKmosaicref07
import Derived.Test.YthblohaffipkhaaKruns
namespace Go.Proofs.Ythblohaffipkhaa.G
open Go.RowKit
set_option linter.unusedVariables false
set_option linter.unusedSimpArgs false
/-- mosaic/mosaiclaw07.RunsBuilder -/
def mosaiclaw07_RunsBuilder.enc : Bool → Value := fun r => .bool r
def mosaiclaw07_RunsBuilder.s (a0 : Int) (a1 : Int) (a2 : Sl) (a3 : Sl) (H0 : Hp) (Q : Bool → Hp → Prop) : Prop :=
  runs_Begin.s a0 H0 (fun x1 H2 => runs_Begin.s a1 H2 (fun x3 H4 => Join (fun (s6 : Bool) (H7 : Hp) => if s6 = true then (Q false H7) else (mosaicref07_Begin.s a0 H7 (fun x8 H9 => mosaicref07_Begin.s a1 H9 (fun x10 H11 => ∃ k12, Fix (fun (rec17 : Int → Hp → Prop) (s14 : Int) (H15 : Hp) => Join (fun (s19 : Bool) (H20 : Hp) => if s19 = true then (Join (fun (s22 : Unit) (H23 : Hp) => rec17 ((IntKind.wrap .i64 (s14 + 1))) H23) (fun (J21 : Unit → Hp → Prop) => Join (fun (s25 : Unit) (H26 : Hp) => if decide (s14 < (a3.n : Int)) = true then (0 ≤ s14 ∧ s14 < (a3.n : Int) ∧ someA a3.a (fun p29 => ∃ x31 : Int, ∃ x32 : Int, ∃ x33 : Int, ∃ x34 : Int, ldA H26 (p29.add (Int.toNat s14 * 4)) (c44 x31 x32 x33 x34) ∧ (mosaiclaw07_act.s x3 x10 x31 x32 x33 x34 H26 (fun x36 H37 => if (!x36) = true then (Q false H37) else (J21 () H37))))) else (J21 () H26)) (fun (J24 : Unit → Hp → Prop) => if decide (s14 < (a2.n : Int)) = true then (0 ≤ s14 ∧ s14 < (a2.n : Int) ∧ someA a2.a (fun p40 => ∃ x42 : Int, ∃ x43 : Int, ∃ x44 : Int, ∃ x45 : Int, ldA H20 (p40.add (Int.toNat s14 * 4)) (c44 x42 x43 x44 x45) ∧ (mosaiclaw07_act.s x1 x8 x42 x43 x44 x45 H20 (fun x47 H48 => if (!x47) = true then (Q false H48) else (J24 () H48))))) else (J24 () H20)))) else (someA x8 (fun p50 => ∃ x52 : Ints 64, ldA H20 (p50.add 0) (c24 x52) ∧ (runs_Builder_Block.s x1 H20 (fun x54 H55 => ldA H55 (p50.add 0) (c24 x52) ∧ (if (x54.1 == x52.1) = true then (someA x10 (fun p57 => ∃ x59 : Ints 64, ldA H55 (p57.add 0) (c24 x59) ∧ (runs_Builder_Block.s x3 H55 (fun x61 H62 => ldA H62 (p57.add 0) (c24 x59) ∧ (if (x61.1 == x59.1) = true then (runs_Builder_Done.s x1 H62 (fun x64 H65 => mosaicref07_Builder_Done.s x8 H65 (fun x66 H67 => if (x64 == x66) = true then (runs_Builder_Done.s x3 H67 (fun x68 H69 => mosaicref07_Builder_Done.s x10 H69 (fun x70 H71 => Q (x68 == x70) H71))) else (Q false H67)))) else (Q false H62)))))) else (Q false H55))))))) (fun (J18 : Bool → Hp → Prop) => if decide (s14 < (a2.n : Int)) = true then (J18 (true) H15) else (J18 ((decide (s14 < (a3.n : Int)))) H15))) k12 (0) H11)))) (fun (J5 : Bool → Hp → Prop) => if x1.isNone = true then (J5 (true) H4) else (J5 (x3.isNone) H4))))
set_option maxRecDepth 20000 in
set_option maxHeartbeats 4000000 in
theorem mosaiclaw07_RunsBuilder.calls (a0 : Int) (a1 : Int) (a2 : Sl) (a3 : Sl) (w0 : World) (Q : Bool → Hp → Prop) (h : mosaiclaw07_RunsBuilder.s a0 a1 a2 a3 w0.heap Q) :
    Ca Try.prog 4 #[.int .i16 a0, .int .i16 a1, .slice a2.a a2.n a2.c, .slice a3.a a3.n a3.c] w0 (Rt mosaiclaw07_RunsBuilder.enc Q w0) := by
  refine ca_start (c := _) Try.func4 rfl Try.ntmps4 rfl ?_
  have so : Sm w0 w0 := Sm.refl w0
  unfold mosaiclaw07_RunsBuilder.s at h
  refine wc_prune [(0, .int .i16 a0), (1, .int .i16 a1), (2, .slice a2.a a2.n a2.c), (3, .slice a3.a a3.n a3.c)] ⟨rfl, rfl, rfl, rfl, trivial⟩ (fun f1 => ?_)
  refine wc_seq ?_
  refine wc_region ?_
  refine wl_val (at_assign rfl) rfl ?_
  refine wl_nil ?_
  refine wk_prune [(0, .int .i16 a0), (1, .int .i16 a1), (2, .slice a2.a a2.n a2.c), (3, .slice a3.a a3.n a3.c)] ⟨rfl, rfl, rfl, rfl, trivial⟩ (fun f1 => ?_)
  refine wk_then ?_
  refine wc_seq ?_
  refine wc_region ?_
  refine wl_val (at_move rfl) rfl ?_
  refine wl_callF (runs_Begin.calls _ _ _ h) enter14 rfl trivial so ?_; intro x1 w2 h so
  refine wl_val (at_assign rfl) rfl ?_
  refine wl_nil ?_
  refine wk_prune [(0, .int .i16 a0), (1, .int .i16 a1), (2, .slice a2.a a2.n a2.c), (3, .slice a3.a a3.n a3.c), (9, .pointer x1)] ⟨rfl, rfl, rfl, rfl, rfl, trivial⟩ (fun f1 => ?_)
  refine wk_then ?_
  refine wc_seq ?_
  refine wc_region ?_
  refine wl_val (at_move rfl) rfl ?_
  refine wl_callF (runs_Begin.calls _ _ _ h) enter14 rfl trivial so ?_; intro x3 w4 h so
  refine wl_val (at_assign rfl) rfl ?_
  refine wl_nil ?_
  refine wk_prune [(0, .int .i16 a0), (1, .int .i16 a1), (2, .slice a2.a a2.n a2.c), (3, .slice a3.a a3.n a3.c), (9, .pointer x1), (10, .pointer x3)] ⟨rfl, rfl, rfl, rfl, rfl, rfl, trivial⟩ (fun f1 => ?_)
  refine wk_then ?_
  refine wc_seq ?_
  refine wc_seq ?_
  refine wc_join (w0 := w0) (fun (s6 : Bool) => [(0, .int .i16 a0), (1, .int .i16 a1), (2, .slice a2.a a2.n a2.c), (3, .slice a3.a a3.n a3.c), (9, .pointer x1), (10, .pointer x3), (25, .bool s6)]) h ?_ ?_
  · rintro s6 w7 f1 h so; refine wk_then ?_
    refine wc_cond rfl h (fun h => ?_) (fun h => ?_)
    · refine wc_seq ?_
      refine wc_region ?_
      refine wl_val (at_assign rfl) rfl ?_
      refine wl_nil ?_
      refine wk_prune [(8, .bool false)] ⟨rfl, trivial⟩ (fun f1 => ?_)
      refine wk_then ?_
      refine wc_ret ?_
      refine wk_thenR ?_
      exact wk_ret1 (x := false) rfl (by decide) rfl so h
    · refine wc_skip ?_
      refine wk_prune [(0, .int .i16 a0), (1, .int .i16 a1), (2, .slice a2.a a2.n a2.c), (3, .slice a3.a a3.n a3.c), (9, .pointer x1), (10, .pointer x3)] ⟨rfl, rfl, rfl, rfl, rfl, rfl, trivial⟩ (fun f1 => ?_)
      refine wk_then ?_
      refine wc_seq ?_
      refine wc_region ?_
      refine wl_val (at_move rfl) rfl ?_
      refine wl_callF (mosaicref07_Begin.calls _ _ _ h) enter15 rfl trivial so ?_; intro x8 w9 h so
      refine wl_val (at_assign rfl) rfl ?_
      refine wl_nil ?_
      refine wk_prune [(1, .int .i16 a1), (2, .slice a2.a a2.n a2.c), (3, .slice a3.a a3.n a3.c), (9, .pointer x1), (10, .pointer x3), (11, .pointer x8)] ⟨rfl, rfl, rfl, rfl, rfl, rfl, trivial⟩ (fun f1 => ?_)
      refine wk_then ?_
      refine wc_seq ?_
      refine wc_region ?_
      refine wl_val (at_move rfl) rfl ?_
      refine wl_callF (mosaicref07_Begin.calls _ _ _ h) enter15 rfl trivial so ?_; intro x10 w11 h so
      refine wl_val (at_assign rfl) rfl ?_
      refine wl_nil ?_
      refine wk_prune [(2, .slice a2.a a2.n a2.c), (3, .slice a3.a a3.n a3.c), (9, .pointer x1), (10, .pointer x3), (11, .pointer x8), (12, .pointer x10)] ⟨rfl, rfl, rfl, rfl, rfl, rfl, trivial⟩ (fun f1 => ?_)
      refine wk_then ?_
      refine wc_seq ?_
      refine wc_seq ?_
      refine wc_region ?_
      refine wl_val (at_assign rfl) rfl ?_
      refine wl_nil ?_
      refine wk_prune [(2, .slice a2.a a2.n a2.c), (3, .slice a3.a a3.n a3.c), (9, .pointer x1), (10, .pointer x3), (11, .pointer x8), (12, .pointer x10), (13, .int .i64 0)] ⟨rfl, rfl, rfl, rfl, rfl, rfl, rfl, trivial⟩ (fun f1 => ?_)
      refine wk_then ?_
      refine wc_block ?_
      obtain ⟨k12, h⟩ := h
      refine wc_loop (fun k a w => ∃ (s14 : Int) (f1 : Nat → Value), a = ac 98 (en f1 [(2, .slice a2.a a2.n a2.c), (3, .slice a3.a a3.n a3.c), (9, .pointer x1), (10, .pointer x3), (11, .pointer x8), (12, .pointer x10), (13, .int .i64 s14)]) [] ∧ Sm w0 w ∧ Fix _ k s14 w.heap) k12 ⟨(0), _, ac_again ⟨rfl, rfl, rfl, rfl, rfl, rfl, rfl, trivial⟩, so, h⟩ ?_
      rintro k13 a16 w15 ⟨s14, f1, rfl, so, h⟩
      rcases k13 with _ | k13
      · exact h.elim
      replace h := Fix.un h; refine wc_in ?_
      refine wc_seq ?_
      refine wc_seq ?_
      refine wc_join (w0 := w0) (fun (s19 : Bool) => [(2, .slice a2.a a2.n a2.c), (3, .slice a3.a a3.n a3.c), (9, .pointer x1), (10, .pointer x3), (11, .pointer x8), (12, .pointer x10), (13, .int .i64 s14), (39, .bool s19)]) h ?_ ?_
      · rintro s19 w20 f1 h so; refine wk_then ?_
        refine wc_cond rfl h (fun h => ?_) (fun h => ?_)
        · refine wc_skip ?_
          refine wk_prune [(2, .slice a2.a a2.n a2.c), (3, .slice a3.a a3.n a3.c), (9, .pointer x1), (10, .pointer x3), (11, .pointer x8), (12, .pointer x10), (13, .int .i64 s14)] ⟨rfl, rfl, rfl, rfl, rfl, rfl, rfl, trivial⟩ (fun f1 => ?_)
          refine wk_then ?_
          refine wc_seq ?_
          refine wc_join (w0 := w0) (fun (s22 : Unit) => [(2, .slice a2.a a2.n a2.c), (3, .slice a3.a a3.n a3.c), (9, .pointer x1), (10, .pointer x3), (11, .pointer x8), (12, .pointer x10), (13, .int .i64 s14)]) h ?_ ?_
          · rintro s22 w23 f1 h so; refine wk_then ?_
            refine wc_region ?_
            refine wl_val (at_move rfl) rfl ?_
            refine wl_val (at_add rfl rfl) rfl ?_
            refine wl_val (at_assign rfl) rfl ?_
            refine wl_nil ?_
            exact wk_again ⟨((IntKind.wrap .i64 (s14 + 1))), _, ac_again ⟨rfl, rfl, rfl, rfl, rfl, rfl, rfl, trivial⟩, so, h⟩
          · intro J21 h hJ21
            refine wc_block ?_
            refine wc_seq ?_
            refine wc_join (w0 := w0) (fun (s25 : Unit) => [(2, .slice a2.a a2.n a2.c), (3, .slice a3.a a3.n a3.c), (9, .pointer x1), (10, .pointer x3), (11, .pointer x8), (12, .pointer x10), (13, .int .i64 s14)]) h ?_ ?_
            · rintro s25 w26 f1 h so; refine wk_then ?_
              refine wc_seq ?_
              refine wc_region ?_
              refine wl_val (at_move rfl) rfl ?_
              refine wl_val (at_move rfl) rfl ?_
              refine wl_val (at_lenL Try.underlying33 rfl) rfl ?_
              refine wl_val (at_lss rfl rfl) rfl ?_
              refine wl_nil ?_
              refine wk_prune [(2, .slice a2.a a2.n a2.c), (3, .slice a3.a a3.n a3.c), (9, .pointer x1), (10, .pointer x3), (11, .pointer x8), (12, .pointer x10), (13, .int .i64 s14), (58, .bool (decide (s14 < (a3.n : Int))))] ⟨rfl, rfl, rfl, rfl, rfl, rfl, rfl, rfl, trivial⟩ (fun f1 => ?_)
              refine wk_then ?_
              refine wc_cond rfl h (fun h => ?_) (fun h => ?_)
              · refine wc_seq ?_
                refine wc_region ?_
                refine wl_val (at_move rfl) rfl ?_
                refine wl_val (at_move rfl) rfl ?_
                refine wl_val (at_move rfl) rfl ?_
                refine wl_val (at_move rfl) rfl ?_
                obtain ⟨q27, q28, p29, q30, h⟩ := h
                refine wl_val (at_ixAddrL Try.underlying33 sz44 (sl_some q30) rfl q27 q28) rfl ?_
                obtain ⟨x31, x32, x33, x34, q35, h⟩ := h
                refine wl_val (at_loadA (cs := (c44 x31 x32 x33 x34)) Try.underlying44 rfl (by rw [len44]; exact sz44) rfl q35) rfl ?_
                refine wl_callF (mosaiclaw07_act.calls _ _ _ _ _ _ _ _ h) enter16 rfl trivial so ?_; intro x36 w37 h so
                refine wl_val (at_assign rfl) rfl ?_
                refine wl_nil ?_
                refine wk_prune [(2, .slice a2.a a2.n a2.c), (3, .slice a3.a a3.n a3.c), (9, .pointer x1), (10, .pointer x3), (11, .pointer x8), (12, .pointer x10), (13, .int .i64 s14), (15, .bool x36)] ⟨rfl, rfl, rfl, rfl, rfl, rfl, rfl, rfl, trivial⟩ (fun f1 => ?_)
                refine wk_then ?_
                refine wc_seq ?_
                refine wc_region ?_
                refine wl_val (at_move rfl) rfl ?_
                refine wl_val (at_not rfl) rfl ?_
                refine wl_nil ?_
                refine wk_prune [(2, .slice a2.a a2.n a2.c), (3, .slice a3.a a3.n a3.c), (9, .pointer x1), (10, .pointer x3), (11, .pointer x8), (12, .pointer x10), (13, .int .i64 s14), (67, .bool (!x36))] ⟨rfl, rfl, rfl, rfl, rfl, rfl, rfl, rfl, trivial⟩ (fun f1 => ?_)
                refine wk_then ?_
                refine wc_cond rfl h (fun h => ?_) (fun h => ?_)
                · refine wc_seq ?_
                  refine wc_region ?_
                  refine wl_val (at_assign rfl) rfl ?_
                  refine wl_nil ?_
                  refine wk_prune [(8, .bool false)] ⟨rfl, trivial⟩ (fun f1 => ?_)
                  refine wk_then ?_
                  refine wc_ret ?_
                  refine wk_blkR ?_
                  refine wk_thenR ?_
                  refine wk_thenR ?_
                  refine wk_blkR ?_
                  refine wk_thenR ?_
                  exact wk_ret1 (x := false) rfl (by decide) rfl so h
                · refine wc_skip ?_
                  refine wk_blkN ?_
                  exact wk_prune [(2, .slice a2.a a2.n a2.c), (3, .slice a3.a a3.n a3.c), (9, .pointer x1), (10, .pointer x3), (11, .pointer x8), (12, .pointer x10), (13, .int .i64 s14)] ⟨rfl, rfl, rfl, rfl, rfl, rfl, rfl, trivial⟩ (fun f1 => hJ21 () _ f1 h so)
              · refine wc_skip ?_
                refine wk_blkN ?_
                exact wk_prune [(2, .slice a2.a a2.n a2.c), (3, .slice a3.a a3.n a3.c), (9, .pointer x1), (10, .pointer x3), (11, .pointer x8), (12, .pointer x10), (13, .int .i64 s14)] ⟨rfl, rfl, rfl, rfl, rfl, rfl, rfl, trivial⟩ (fun f1 => hJ21 () _ f1 h so)
            · intro J24 h hJ24
              refine wc_seq ?_
              refine wc_region ?_
              refine wl_val (at_move rfl) rfl ?_
              refine wl_val (at_move rfl) rfl ?_
              refine wl_val (at_lenL Try.underlying33 rfl) rfl ?_
              refine wl_val (at_lss rfl rfl) rfl ?_
              refine wl_nil ?_
              refine wk_prune [(2, .slice a2.a a2.n a2.c), (3, .slice a3.a a3.n a3.c), (9, .pointer x1), (10, .pointer x3), (11, .pointer x8), (12, .pointer x10), (13, .int .i64 s14), (45, .bool (decide (s14 < (a2.n : Int))))] ⟨rfl, rfl, rfl, rfl, rfl, rfl, rfl, rfl, trivial⟩ (fun f1 => ?_)
              refine wk_then ?_
              refine wc_cond rfl h (fun h => ?_) (fun h => ?_)
              · refine wc_seq ?_
                refine wc_region ?_
                refine wl_val (at_move rfl) rfl ?_
                refine wl_val (at_move rfl) rfl ?_
                refine wl_val (at_move rfl) rfl ?_
                refine wl_val (at_move rfl) rfl ?_
                obtain ⟨q38, q39, p40, q41, h⟩ := h
                refine wl_val (at_ixAddrL Try.underlying33 sz44 (sl_some q41) rfl q38 q39) rfl ?_
                obtain ⟨x42, x43, x44, x45, q46, h⟩ := h
                refine wl_val (at_loadA (cs := (c44 x42 x43 x44 x45)) Try.underlying44 rfl (by rw [len44]; exact sz44) rfl q46) rfl ?_
                refine wl_callF (mosaiclaw07_act.calls _ _ _ _ _ _ _ _ h) enter16 rfl trivial so ?_; intro x47 w48 h so
                refine wl_val (at_assign rfl) rfl ?_
                refine wl_nil ?_
                refine wk_prune [(2, .slice a2.a a2.n a2.c), (3, .slice a3.a a3.n a3.c), (9, .pointer x1), (10, .pointer x3), (11, .pointer x8), (12, .pointer x10), (13, .int .i64 s14), (14, .bool x47)] ⟨rfl, rfl, rfl, rfl, rfl, rfl, rfl, rfl, trivial⟩ (fun f1 => ?_)
                refine wk_then ?_
                refine wc_seq ?_
                refine wc_region ?_
                refine wl_val (at_move rfl) rfl ?_
                refine wl_val (at_not rfl) rfl ?_
                refine wl_nil ?_
                refine wk_prune [(2, .slice a2.a a2.n a2.c), (3, .slice a3.a a3.n a3.c), (9, .pointer x1), (10, .pointer x3), (11, .pointer x8), (12, .pointer x10), (13, .int .i64 s14), (54, .bool (!x47))] ⟨rfl, rfl, rfl, rfl, rfl, rfl, rfl, rfl, trivial⟩ (fun f1 => ?_)
                refine wk_then ?_
                refine wc_cond rfl h (fun h => ?_) (fun h => ?_)
                · refine wc_seq ?_
                  refine wc_region ?_
                  refine wl_val (at_assign rfl) rfl ?_
                  refine wl_nil ?_
                  refine wk_prune [(8, .bool false)] ⟨rfl, trivial⟩ (fun f1 => ?_)
                  refine wk_then ?_
                  refine wc_ret ?_
                  refine wk_thenR ?_
                  refine wk_blkR ?_
                  refine wk_thenR ?_
                  refine wk_thenR ?_
                  refine wk_blkR ?_
                  refine wk_thenR ?_
                  exact wk_ret1 (x := false) rfl (by decide) rfl so h
                · refine wc_skip ?_
                  exact wk_prune [(2, .slice a2.a a2.n a2.c), (3, .slice a3.a a3.n a3.c), (9, .pointer x1), (10, .pointer x3), (11, .pointer x8), (12, .pointer x10), (13, .int .i64 s14)] ⟨rfl, rfl, rfl, rfl, rfl, rfl, rfl, trivial⟩ (fun f1 => hJ24 () _ f1 h so)
              · refine wc_skip ?_
                exact wk_prune [(2, .slice a2.a a2.n a2.c), (3, .slice a3.a a3.n a3.c), (9, .pointer x1), (10, .pointer x3), (11, .pointer x8), (12, .pointer x10), (13, .int .i64 s14)] ⟨rfl, rfl, rfl, rfl, rfl, rfl, rfl, trivial⟩ (fun f1 => hJ24 () _ f1 h so)
        · refine wc_exit ?_
          refine wk_thenE ?_
          refine wk_thenE ?_
          refine wk_blkE ?_
          refine wk_prune [(9, .pointer x1), (10, .pointer x3), (11, .pointer x8), (12, .pointer x10)] ⟨rfl, rfl, rfl, rfl, trivial⟩ (fun f1 => ?_)
          refine wk_then ?_
          refine wc_seq ?_
          refine wc_wo [0, 1, 0, 4, 12, 28, 63, 127, 255, 511, 255, 1279, 3327, 7423, 16383, 32767, 65535, 131071, 262143, 131071, 1048575, 2097151, 4194303, 8388607, 16777215, 33554431, 16777215, 134217727, 268435455, 536870911, 1073741823] mixed (by kernel_rfl) so ?_; intro w49 hw so; rw [← hw] at h; clear hw
          refine wo_pure (m' := 1) 0 rfl (by kernel_rfl) rfl rfl (fun H => at_move rfl) ?_
          refine wo_pure (m' := 5) 2 rfl (by kernel_rfl) rfl rfl (fun H => at_move rfl) ?_
          obtain ⟨p50, q51, h⟩ := h
          refine wo_pure (m' := 13) 3 rfl (by kernel_rfl) rfl rfl (fun H => at_nilCheck (congrArg Value.pointer q51)) ?_
          refine wo_pure (m' := 29) 4 rfl (by kernel_rfl) rfl rfl (fun H => at_fieldAddr Try.underlying47 rfl rfl sz24 (by decide) rfl) ?_
          obtain ⟨x52, q53, h⟩ := h
          refine wo_load (m' := 61) 5 (fun H => ldA H (p50.add 0) (c24 x52)) rfl (by kernel_rfl) rfl rfl (fun H q53 => at_loadA (cs := (c24 x52)) Try.underlying24 rfl (by rw [len24]; exact sz24) rfl q53) q53 ?_
          refine wo_take (m' := 63) 1 [false] rfl (by kernel_rfl) rfl (by kernel_rfl) ?_
          refine wl_callF (runs_Builder_Block.calls _ _ _ h) enter17 rfl trivial so ?_; intro x54 w55 h so
          refine wl_nil ?_
          obtain ⟨q56, h⟩ := h
          refine wk_tq ⟨q56, trivial⟩ ?_
          refine wo_pure (m' := 127) 6 rfl (by kernel_rfl) rfl rfl (fun H => at_eqlA (xs := (c24 x54)) (ys := (c24 x52)) rfl rfl (by kernel_rfl) (eqv_ints Try.underlying24 Try.underlying22 sz22)) ?_
          refine wo_pure (m' := 255) 7 rfl (by kernel_rfl) rfl rfl (fun H => at_move rfl) ?_
          refine bif_ h (fun hb h => ?_) (fun hb h => ?_)
          · refine wo_set (t := 75) (v := .bool true) (congrArg Value.bool hb) ?_; clear hb
            refine wo_pureG (m' := 511) 8 rfl (by kernel_rfl) rfl (t := 75) rfl (by decide) rfl (fun H => at_move rfl) ?_
            refine wo_pureG (m' := 1535) 10 rfl (by kernel_rfl) rfl (t := 75) rfl (by decide) rfl (fun H => at_move rfl) ?_
            obtain ⟨p57, q58, h⟩ := h
            refine wo_pureG (m' := 3583) 11 rfl (by kernel_rfl) rfl (t := 75) rfl (by decide) rfl (fun H => at_nilCheck (congrArg Value.pointer q58)) ?_
            refine wo_pureG (m' := 7679) 12 rfl (by kernel_rfl) rfl (t := 75) rfl (by decide) rfl (fun H => at_fieldAddr Try.underlying47 rfl rfl sz24 (by decide) rfl) ?_
            obtain ⟨x59, q60, h⟩ := h
            refine wo_loadG (m' := 15871) 13 (fun H => ldA H (p57.add 0) (c24 x59)) rfl (by kernel_rfl) rfl (t := 75) rfl (by decide) rfl (fun H q60 => at_loadA (cs := (c24 x59)) Try.underlying24 rfl (by rw [len24]; exact sz24) rfl q60) q60 ?_
            refine wo_take (m' := 16383) 9 [false, true] rfl (by kernel_rfl) rfl (by kernel_rfl) ?_
            refine wl_on (t := 75) rfl (by decide) rfl ?_
            refine wl_callF (runs_Builder_Block.calls _ _ _ h) enter17 rfl trivial so ?_; intro x61 w62 h so
            refine wl_nil ?_
            obtain ⟨q63, h⟩ := h
            refine wk_tq ⟨q63, trivial⟩ ?_
            refine wo_pureG (m' := 32767) 14 rfl (by kernel_rfl) rfl (t := 75) rfl (by decide) rfl (fun H => at_eqlA (xs := (c24 x61)) (ys := (c24 x59)) rfl rfl (by kernel_rfl) (eqv_ints Try.underlying24 Try.underlying22 sz22)) ?_
            refine wo_pure (m' := 65535) 15 rfl (by kernel_rfl) rfl rfl (fun H => at_pick_t rfl rfl) ?_
            refine wo_pure (m' := 131071) 16 rfl (by kernel_rfl) rfl rfl (fun H => at_move rfl) ?_
            refine bif_ h (fun hb h => ?_) (fun hb h => ?_)
            · refine wo_set (t := 84) (v := .bool true) (congrArg Value.bool hb) ?_; clear hb
              refine wo_pureG (m' := 262143) 17 rfl (by kernel_rfl) rfl (t := 84) rfl (by decide) rfl (fun H => at_move rfl) ?_
              refine wo_pureG (m' := 786431) 19 rfl (by kernel_rfl) rfl (t := 84) rfl (by decide) rfl (fun H => at_move rfl) ?_
              refine wo_take (m' := 1048575) 18 [true] rfl (by kernel_rfl) rfl (by kernel_rfl) ?_
              refine wl_on (t := 84) rfl (by decide) rfl ?_
              refine wl_callF (runs_Builder_Done.calls _ _ _ h) enter18 rfl trivial so ?_; intro x64 w65 h so
              refine wl_nil ?_
              refine wk_tq trivial ?_
              refine wo_take (m' := 2097151) 20 [] rfl (by kernel_rfl) rfl (by kernel_rfl) ?_
              refine wl_on (t := 84) rfl (by decide) rfl ?_
              refine wl_callF (mosaicref07_Builder_Done.calls _ _ _ h) enter19 rfl trivial so ?_; intro x66 w67 h so
              refine wl_nil ?_
              refine wk_tq trivial ?_
              refine wo_pureG (m' := 4194303) 21 rfl (by kernel_rfl) rfl (t := 84) rfl (by decide) rfl (fun H => at_eqlB Try.underlying4 rfl rfl) ?_
              refine wo_pure (m' := 8388607) 22 rfl (by kernel_rfl) rfl rfl (fun H => at_pick_t rfl rfl) ?_
              refine wo_pure (m' := 16777215) 23 rfl (by kernel_rfl) rfl rfl (fun H => at_move rfl) ?_
              refine bif_ h (fun hb h => ?_) (fun hb h => ?_)
              · refine wo_set (t := 91) (v := .bool true) (congrArg Value.bool hb) ?_; clear hb
                refine wo_pureG (m' := 33554431) 24 rfl (by kernel_rfl) rfl (t := 91) rfl (by decide) rfl (fun H => at_move rfl) ?_
                refine wo_pureG (m' := 100663295) 26 rfl (by kernel_rfl) rfl (t := 91) rfl (by decide) rfl (fun H => at_move rfl) ?_
                refine wo_take (m' := 134217727) 25 [] rfl (by kernel_rfl) rfl (by kernel_rfl) ?_
                refine wl_on (t := 91) rfl (by decide) rfl ?_
                refine wl_callF (runs_Builder_Done.calls _ _ _ h) enter18 rfl trivial so ?_; intro x68 w69 h so
                refine wl_nil ?_
                refine wk_tq trivial ?_
                refine wo_take (m' := 268435455) 27 [] rfl (by kernel_rfl) rfl (by kernel_rfl) ?_
                refine wl_on (t := 91) rfl (by decide) rfl ?_
                refine wl_callF (mosaicref07_Builder_Done.calls _ _ _ h) enter19 rfl trivial so ?_; intro x70 w71 h so
                refine wl_nil ?_
                refine wk_tq trivial ?_
                refine wo_pureG (m' := 536870911) 28 rfl (by kernel_rfl) rfl (t := 91) rfl (by decide) rfl (fun H => at_eqlB Try.underlying4 rfl rfl) ?_
                refine wo_pure (m' := 1073741823) 29 rfl (by kernel_rfl) rfl rfl (fun H => at_pick_t rfl rfl) ?_
                refine wo_pure (m' := 2147483647) 30 rfl (by kernel_rfl) rfl rfl (fun H => at_assign rfl) ?_
                refine wo_done (by kernel_rfl) ?_
                refine wk_prune [(8, .bool (x68 == x70))] ⟨rfl, trivial⟩ (fun f1 => ?_)
                refine wk_then ?_
                refine wc_ret ?_
                exact wk_ret1 (x := (x68 == x70)) rfl (by decide) rfl so h
              · refine wo_set (t := 91) (v := .bool false) (congrArg Value.bool hb) ?_; clear hb
                refine wo_off (m' := 33554431) 24 rfl (by kernel_rfl) rfl (t := 91) rfl (by decide) rfl ?_
                refine wo_off (m' := 67108863) 25 rfl (by kernel_rfl) rfl (t := 91) rfl (by decide) rfl ?_
                refine wo_off (m' := 134217727) 26 rfl (by kernel_rfl) rfl (t := 91) rfl (by decide) rfl ?_
                refine wo_off (m' := 268435455) 27 rfl (by kernel_rfl) rfl (t := 91) rfl (by decide) rfl ?_
                refine wo_off (m' := 536870911) 28 rfl (by kernel_rfl) rfl (t := 91) rfl (by decide) rfl ?_
                refine wo_pure (m' := 1073741823) 29 rfl (by kernel_rfl) rfl rfl (fun H => at_pick_f rfl rfl) ?_
                refine wo_pure (m' := 2147483647) 30 rfl (by kernel_rfl) rfl rfl (fun H => at_assign rfl) ?_
                refine wo_done (by kernel_rfl) ?_
                refine wk_prune [(8, .bool false)] ⟨rfl, trivial⟩ (fun f1 => ?_)
                refine wk_then ?_
                refine wc_ret ?_
                exact wk_ret1 (x := false) rfl (by decide) rfl so h
            · refine wo_set (t := 84) (v := .bool false) (congrArg Value.bool hb) ?_; clear hb
              refine wo_off (m' := 262143) 17 rfl (by kernel_rfl) rfl (t := 84) rfl (by decide) rfl ?_
              refine wo_off (m' := 524287) 18 rfl (by kernel_rfl) rfl (t := 84) rfl (by decide) rfl ?_
              refine wo_off (m' := 1048575) 19 rfl (by kernel_rfl) rfl (t := 84) rfl (by decide) rfl ?_
              refine wo_off (m' := 2097151) 20 rfl (by kernel_rfl) rfl (t := 84) rfl (by decide) rfl ?_
              refine wo_off (m' := 4194303) 21 rfl (by kernel_rfl) rfl (t := 84) rfl (by decide) rfl ?_
              refine wo_pure (m' := 8388607) 22 rfl (by kernel_rfl) rfl rfl (fun H => at_pick_f rfl rfl) ?_
              refine wo_pure (m' := 16777215) 23 rfl (by kernel_rfl) rfl rfl (fun H => at_move rfl) ?_
              refine wo_off (m' := 33554431) 24 rfl (by kernel_rfl) rfl (t := 91) rfl (by decide) rfl ?_
              refine wo_off (m' := 67108863) 25 rfl (by kernel_rfl) rfl (t := 91) rfl (by decide) rfl ?_
              refine wo_off (m' := 134217727) 26 rfl (by kernel_rfl) rfl (t := 91) rfl (by decide) rfl ?_
              refine wo_off (m' := 268435455) 27 rfl (by kernel_rfl) rfl (t := 91) rfl (by decide) rfl ?_
              refine wo_off (m' := 536870911) 28 rfl (by kernel_rfl) rfl (t := 91) rfl (by decide) rfl ?_
              refine wo_pure (m' := 1073741823) 29 rfl (by kernel_rfl) rfl rfl (fun H => at_pick_f rfl rfl) ?_
              refine wo_pure (m' := 2147483647) 30 rfl (by kernel_rfl) rfl rfl (fun H => at_assign rfl) ?_
              refine wo_done (by kernel_rfl) ?_
              refine wk_prune [(8, .bool false)] ⟨rfl, trivial⟩ (fun f1 => ?_)
              refine wk_then ?_
              refine wc_ret ?_
              exact wk_ret1 (x := false) rfl (by decide) rfl so h
          · refine wo_set (t := 75) (v := .bool false) (congrArg Value.bool hb) ?_; clear hb
            refine wo_off (m' := 511) 8 rfl (by kernel_rfl) rfl (t := 75) rfl (by decide) rfl ?_
            refine wo_off (m' := 1023) 9 rfl (by kernel_rfl) rfl (t := 75) rfl (by decide) rfl ?_
            refine wo_off (m' := 2047) 10 rfl (by kernel_rfl) rfl (t := 75) rfl (by decide) rfl ?_
            refine wo_off (m' := 4095) 11 rfl (by kernel_rfl) rfl (t := 75) rfl (by decide) rfl ?_
            refine wo_off (m' := 8191) 12 rfl (by kernel_rfl) rfl (t := 75) rfl (by decide) rfl ?_
            refine wo_off (m' := 16383) 13 rfl (by kernel_rfl) rfl (t := 75) rfl (by decide) rfl ?_
            refine wo_off (m' := 32767) 14 rfl (by kernel_rfl) rfl (t := 75) rfl (by decide) rfl ?_
            refine wo_pure (m' := 65535) 15 rfl (by kernel_rfl) rfl rfl (fun H => at_pick_f rfl rfl) ?_
            refine wo_pure (m' := 131071) 16 rfl (by kernel_rfl) rfl rfl (fun H => at_move rfl) ?_
            refine wo_off (m' := 262143) 17 rfl (by kernel_rfl) rfl (t := 84) rfl (by decide) rfl ?_
            refine wo_off (m' := 524287) 18 rfl (by kernel_rfl) rfl (t := 84) rfl (by decide) rfl ?_
            refine wo_off (m' := 1048575) 19 rfl (by kernel_rfl) rfl (t := 84) rfl (by decide) rfl ?_
            refine wo_off (m' := 2097151) 20 rfl (by kernel_rfl) rfl (t := 84) rfl (by decide) rfl ?_
            refine wo_off (m' := 4194303) 21 rfl (by kernel_rfl) rfl (t := 84) rfl (by decide) rfl ?_
            refine wo_pure (m' := 8388607) 22 rfl (by kernel_rfl) rfl rfl (fun H => at_pick_f rfl rfl) ?_
            refine wo_pure (m' := 16777215) 23 rfl (by kernel_rfl) rfl rfl (fun H => at_move rfl) ?_
            refine wo_off (m' := 33554431) 24 rfl (by kernel_rfl) rfl (t := 91) rfl (by decide) rfl ?_
            refine wo_off (m' := 67108863) 25 rfl (by kernel_rfl) rfl (t := 91) rfl (by decide) rfl ?_
            refine wo_off (m' := 134217727) 26 rfl (by kernel_rfl) rfl (t := 91) rfl (by decide) rfl ?_
            refine wo_off (m' := 268435455) 27 rfl (by kernel_rfl) rfl (t := 91) rfl (by decide) rfl ?_
            refine wo_off (m' := 536870911) 28 rfl (by kernel_rfl) rfl (t := 91) rfl (by decide) rfl ?_
            refine wo_pure (m' := 1073741823) 29 rfl (by kernel_rfl) rfl rfl (fun H => at_pick_f rfl rfl) ?_
            refine wo_pure (m' := 2147483647) 30 rfl (by kernel_rfl) rfl rfl (fun H => at_assign rfl) ?_
            refine wo_done (by kernel_rfl) ?_
            refine wk_prune [(8, .bool false)] ⟨rfl, trivial⟩ (fun f1 => ?_)
            refine wk_then ?_
            refine wc_ret ?_
            exact wk_ret1 (x := false) rfl (by decide) rfl so h
      · intro J18 h hJ18
        refine wc_region ?_
        refine wl_val (at_move rfl) rfl ?_
        refine wl_val (at_move rfl) rfl ?_
        refine wl_val (at_lenL Try.underlying33 rfl) rfl ?_
        refine wl_val (at_lss rfl rfl) rfl ?_
        refine wl_val (at_move rfl) rfl ?_
        refine bif_ h (fun hb h => ?_) (fun hb h => ?_)
        · refine wl_set (t := 34) (v := .bool true) (congrArg Value.bool hb) ?_; clear hb
          refine wl_off (t := 34) rfl (by decide) rfl ?_
          refine wl_off (t := 34) rfl (by decide) rfl ?_
          refine wl_off (t := 34) rfl (by decide) rfl ?_
          refine wl_off (t := 34) rfl (by decide) rfl ?_
          refine wl_val (at_pick_t rfl rfl) rfl ?_
          refine wl_nil ?_
          exact wk_prune [(2, .slice a2.a a2.n a2.c), (3, .slice a3.a a3.n a3.c), (9, .pointer x1), (10, .pointer x3), (11, .pointer x8), (12, .pointer x10), (13, .int .i64 s14), (39, .bool true)] ⟨rfl, rfl, rfl, rfl, rfl, rfl, rfl, rfl, trivial⟩ (fun f1 => hJ18 (true) _ f1 h so)
        · refine wl_set (t := 34) (v := .bool false) (congrArg Value.bool hb) ?_; clear hb
          refine wl_on (t := 34) rfl (by decide) rfl ?_
          refine wl_val (at_move rfl) rfl ?_
          refine wl_on (t := 34) rfl (by decide) rfl ?_
          refine wl_val (at_move rfl) rfl ?_
          refine wl_on (t := 34) rfl (by decide) rfl ?_
          refine wl_val (at_lenL Try.underlying33 rfl) rfl ?_
          refine wl_on (t := 34) rfl (by decide) rfl ?_
          refine wl_val (at_lss rfl rfl) rfl ?_
          refine wl_val (at_pick_f rfl rfl) rfl ?_
          refine wl_nil ?_
          exact wk_prune [(2, .slice a2.a a2.n a2.c), (3, .slice a3.a a3.n a3.c), (9, .pointer x1), (10, .pointer x3), (11, .pointer x8), (12, .pointer x10), (13, .int .i64 s14), (39, .bool (decide (s14 < (a3.n : Int))))] ⟨rfl, rfl, rfl, rfl, rfl, rfl, rfl, rfl, trivial⟩ (fun f1 => hJ18 ((decide (s14 < (a3.n : Int)))) _ f1 h so)
  · intro J5 h hJ5
    refine wc_region ?_
    refine wl_val (at_move rfl) rfl ?_
    refine wl_val (at_eqlP Try.underlying34 rfl rfl) rfl ?_
    refine wl_val (at_move rfl) rfl ?_
    refine bif_ h (fun hb h => ?_) (fun hb h => ?_)
    · refine wl_set (t := 22) (v := .bool true) (congrArg Value.bool hb) ?_; clear hb
      refine wl_off (t := 22) rfl (by decide) rfl ?_
      refine wl_off (t := 22) rfl (by decide) rfl ?_
      refine wl_val (at_pick_t rfl rfl) rfl ?_
      refine wl_nil ?_
      exact wk_prune [(0, .int .i16 a0), (1, .int .i16 a1), (2, .slice a2.a a2.n a2.c), (3, .slice a3.a a3.n a3.c), (9, .pointer x1), (10, .pointer x3), (25, .bool true)] ⟨rfl, rfl, rfl, rfl, rfl, rfl, rfl, trivial⟩ (fun f1 => hJ5 (true) _ f1 h so)
    · refine wl_set (t := 22) (v := .bool false) (congrArg Value.bool hb) ?_; clear hb
      refine wl_on (t := 22) rfl (by decide) rfl ?_
      refine wl_val (at_move rfl) rfl ?_
      refine wl_on (t := 22) rfl (by decide) rfl ?_
      refine wl_val (at_eqlP Try.underlying34 rfl rfl) rfl ?_
      refine wl_val (at_pick_f rfl rfl) rfl ?_
      refine wl_nil ?_
      exact wk_prune [(0, .int .i16 a0), (1, .int .i16 a1), (2, .slice a2.a a2.n a2.c), (3, .slice a3.a a3.n a3.c), (9, .pointer x1), (10, .pointer x3), (25, .bool x3.isNone)] ⟨rfl, rfl, rfl, rfl, rfl, rfl, rfl, trivial⟩ (fun f1 => hJ5 (x3.isNone) _ f1 h so)
end Go.Proofs.Ythblohaffipkhaa.G
