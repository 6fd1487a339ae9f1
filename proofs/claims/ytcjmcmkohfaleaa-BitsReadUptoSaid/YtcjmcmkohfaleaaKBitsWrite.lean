import Derived.Test.YtcjmcmkohfaleaaGF
import Derived.Test.YtcjmcmkohfaleaaKbits
import Derived.Test.YtcjmcmkohfaleaaKmosaiclaw01
import Derived.Test.YtcjmcmkohfaleaaKmosaicref01
namespace Go.Proofs.Ytcjmcmkohfaleaa.G
open Go.RowKit
set_option linter.unusedVariables false
set_option linter.unusedSimpArgs false
/-- mosaic/mosaiclaw01.BitsWrite -/
def mosaiclaw01_BitsWrite.enc : Bool → Value := fun r => .bool r
def mosaiclaw01_BitsWrite.s (a0 : Sl) (a1 : Sl) (H0 : Hp) (Q : Bool → Hp → Prop) : Prop :=
  bits_New.s H0 (fun x1 H2 => bits_New.s H2 (fun x3 H4 => Join (fun (s6 : Bool) (H7 : Hp) => if s6 = true then (Q false H7) else (mosaicref01_New.s H7 (fun x8 H9 => mosaicref01_New.s H9 (fun x10 H11 => ∃ k12, Fix (fun (rec17 : Int → Hp → Prop) (s14 : Int) (H15 : Hp) => Join (fun (s19 : Bool) (H20 : Hp) => if s19 = true then (Join (fun (s22 : Unit) (H23 : Hp) => rec17 ((IntKind.wrap .i64 (s14 + 1))) H23) (fun (J21 : Unit → Hp → Prop) => Join (fun (s25 : Unit) (H26 : Hp) => if decide (s14 < (a1.n : Int)) = true then (0 ≤ s14 ∧ s14 < (a1.n : Int) ∧ someA a1.a (fun p29 => ∃ x31 : Int, ∃ x32 : Int, ∃ x33 : Int, ldA H26 (p29.add (Int.toNat s14 * 3)) (c29 x31 x32 x33) ∧ (mosaiclaw01_write.s x3 x10 x31 x32 x33 H26 (fun x35 H36 => if (!x35) = true then (Q false H36) else (J21 () H36))))) else (J21 () H26)) (fun (J24 : Unit → Hp → Prop) => if decide (s14 < (a0.n : Int)) = true then (0 ≤ s14 ∧ s14 < (a0.n : Int) ∧ someA a0.a (fun p39 => ∃ x41 : Int, ∃ x42 : Int, ∃ x43 : Int, ldA H20 (p39.add (Int.toNat s14 * 3)) (c29 x41 x42 x43) ∧ (mosaiclaw01_write.s x1 x8 x41 x42 x43 H20 (fun x45 H46 => if (!x45) = true then (Q false H46) else (J24 () H46))))) else (J24 () H20)))) else (bits_Sink_Len.s x1 H20 (fun x47 H48 => mosaicref01_Sink_Len.s x8 H48 (fun x49 H50 => if (x47 == x49) = true then (bits_Sink_Len.s x3 H50 (fun x51 H52 => mosaicref01_Sink_Len.s x10 H52 (fun x53 H54 => if (x51 == x53) = true then (bits_Sink_Text.s x1 H54 (fun x55 H56 => mosaicref01_Sink_Text.s x8 H56 (fun x57 H58 => if (x55.toList == x57.toList) = true then (bits_Sink_Text.s x3 H58 (fun x59 H60 => mosaicref01_Sink_Text.s x10 H60 (fun x61 H62 => Q (x59.toList == x61.toList) H62))) else (Q false H58)))) else (Q false H54)))) else (Q false H50))))) (fun (J18 : Bool → Hp → Prop) => if decide (s14 < (a0.n : Int)) = true then (J18 (true) H15) else (J18 ((decide (s14 < (a1.n : Int)))) H15))) k12 (0) H11)))) (fun (J5 : Bool → Hp → Prop) => if x1.isNone = true then (J5 (true) H4) else (J5 (x3.isNone) H4))))
set_option maxRecDepth 20000 in
set_option maxHeartbeats 4000000 in
theorem mosaiclaw01_BitsWrite.calls (a0 : Sl) (a1 : Sl) (w0 : World) (Q : Bool → Hp → Prop) (h : mosaiclaw01_BitsWrite.s a0 a1 w0.heap Q) :
    Ca Try.prog 3 #[.slice a0.a a0.n a0.c, .slice a1.a a1.n a1.c] w0 (Rt mosaiclaw01_BitsWrite.enc Q w0) := by
  refine ca_start (c := _) Try.func3 rfl Try.ntmps3 rfl ?_
  have so : Sm w0 w0 := Sm.refl w0
  unfold mosaiclaw01_BitsWrite.s at h
  refine wc_prune [(0, .slice a0.a a0.n a0.c), (1, .slice a1.a a1.n a1.c)] ⟨rfl, rfl, trivial⟩ (fun f1 => ?_)
  refine wc_seq ?_
  refine wc_region ?_
  refine wl_val (at_assign rfl) rfl ?_
  refine wl_nil ?_
  refine wk_prune [(0, .slice a0.a a0.n a0.c), (1, .slice a1.a a1.n a1.c)] ⟨rfl, rfl, trivial⟩ (fun f1 => ?_)
  refine wk_then ?_
  refine wc_seq ?_
  refine wc_region ?_
  refine wl_callF (bits_New.calls _ _ h) enter8 rfl trivial so ?_; intro x1 w2 h so
  refine wl_val (at_assign rfl) rfl ?_
  refine wl_nil ?_
  refine wk_prune [(0, .slice a0.a a0.n a0.c), (1, .slice a1.a a1.n a1.c), (5, .pointer x1)] ⟨rfl, rfl, rfl, trivial⟩ (fun f1 => ?_)
  refine wk_then ?_
  refine wc_seq ?_
  refine wc_region ?_
  refine wl_callF (bits_New.calls _ _ h) enter8 rfl trivial so ?_; intro x3 w4 h so
  refine wl_val (at_assign rfl) rfl ?_
  refine wl_nil ?_
  refine wk_prune [(0, .slice a0.a a0.n a0.c), (1, .slice a1.a a1.n a1.c), (5, .pointer x1), (6, .pointer x3)] ⟨rfl, rfl, rfl, rfl, trivial⟩ (fun f1 => ?_)
  refine wk_then ?_
  refine wc_seq ?_
  refine wc_seq ?_
  refine wc_join (w0 := w0) (fun (s6 : Bool) => [(0, .slice a0.a a0.n a0.c), (1, .slice a1.a a1.n a1.c), (5, .pointer x1), (6, .pointer x3), (19, .bool s6)]) h ?_ ?_
  · rintro s6 w7 f1 h so; refine wk_then ?_
    refine wc_cond rfl h (fun h => ?_) (fun h => ?_)
    · refine wc_seq ?_
      refine wc_region ?_
      refine wl_val (at_assign rfl) rfl ?_
      refine wl_nil ?_
      refine wk_prune [(4, .bool false)] ⟨rfl, trivial⟩ (fun f1 => ?_)
      refine wk_then ?_
      refine wc_ret ?_
      refine wk_thenR ?_
      exact wk_ret1 (x := false) rfl (by decide) rfl so h
    · refine wc_skip ?_
      refine wk_prune [(0, .slice a0.a a0.n a0.c), (1, .slice a1.a a1.n a1.c), (5, .pointer x1), (6, .pointer x3)] ⟨rfl, rfl, rfl, rfl, trivial⟩ (fun f1 => ?_)
      refine wk_then ?_
      refine wc_seq ?_
      refine wc_region ?_
      refine wl_callF (mosaicref01_New.calls _ _ h) enter9 rfl trivial so ?_; intro x8 w9 h so
      refine wl_val (at_assign rfl) rfl ?_
      refine wl_nil ?_
      refine wk_prune [(0, .slice a0.a a0.n a0.c), (1, .slice a1.a a1.n a1.c), (5, .pointer x1), (6, .pointer x3), (7, .pointer x8)] ⟨rfl, rfl, rfl, rfl, rfl, trivial⟩ (fun f1 => ?_)
      refine wk_then ?_
      refine wc_seq ?_
      refine wc_region ?_
      refine wl_callF (mosaicref01_New.calls _ _ h) enter9 rfl trivial so ?_; intro x10 w11 h so
      refine wl_val (at_assign rfl) rfl ?_
      refine wl_nil ?_
      refine wk_prune [(0, .slice a0.a a0.n a0.c), (1, .slice a1.a a1.n a1.c), (5, .pointer x1), (6, .pointer x3), (7, .pointer x8), (8, .pointer x10)] ⟨rfl, rfl, rfl, rfl, rfl, rfl, trivial⟩ (fun f1 => ?_)
      refine wk_then ?_
      refine wc_seq ?_
      refine wc_seq ?_
      refine wc_region ?_
      refine wl_val (at_assign rfl) rfl ?_
      refine wl_nil ?_
      refine wk_prune [(0, .slice a0.a a0.n a0.c), (1, .slice a1.a a1.n a1.c), (5, .pointer x1), (6, .pointer x3), (7, .pointer x8), (8, .pointer x10), (9, .int .i64 0)] ⟨rfl, rfl, rfl, rfl, rfl, rfl, rfl, trivial⟩ (fun f1 => ?_)
      refine wk_then ?_
      refine wc_block ?_
      obtain ⟨k12, h⟩ := h
      refine wc_loop (fun k a w => ∃ (s14 : Int) (f1 : Nat → Value), a = ac 86 (en f1 [(0, .slice a0.a a0.n a0.c), (1, .slice a1.a a1.n a1.c), (5, .pointer x1), (6, .pointer x3), (7, .pointer x8), (8, .pointer x10), (9, .int .i64 s14)]) [] ∧ Sm w0 w ∧ Fix _ k s14 w.heap) k12 ⟨(0), _, ac_again ⟨rfl, rfl, rfl, rfl, rfl, rfl, rfl, trivial⟩, so, h⟩ ?_
      rintro k13 a16 w15 ⟨s14, f1, rfl, so, h⟩
      rcases k13 with _ | k13
      · exact h.elim
      replace h := Fix.un h; refine wc_in ?_
      refine wc_seq ?_
      refine wc_seq ?_
      refine wc_join (w0 := w0) (fun (s19 : Bool) => [(0, .slice a0.a a0.n a0.c), (1, .slice a1.a a1.n a1.c), (5, .pointer x1), (6, .pointer x3), (7, .pointer x8), (8, .pointer x10), (9, .int .i64 s14), (31, .bool s19)]) h ?_ ?_
      · rintro s19 w20 f1 h so; refine wk_then ?_
        refine wc_cond rfl h (fun h => ?_) (fun h => ?_)
        · refine wc_skip ?_
          refine wk_prune [(0, .slice a0.a a0.n a0.c), (1, .slice a1.a a1.n a1.c), (5, .pointer x1), (6, .pointer x3), (7, .pointer x8), (8, .pointer x10), (9, .int .i64 s14)] ⟨rfl, rfl, rfl, rfl, rfl, rfl, rfl, trivial⟩ (fun f1 => ?_)
          refine wk_then ?_
          refine wc_seq ?_
          refine wc_join (w0 := w0) (fun (s22 : Unit) => [(0, .slice a0.a a0.n a0.c), (1, .slice a1.a a1.n a1.c), (5, .pointer x1), (6, .pointer x3), (7, .pointer x8), (8, .pointer x10), (9, .int .i64 s14)]) h ?_ ?_
          · rintro s22 w23 f1 h so; refine wk_then ?_
            refine wc_region ?_
            refine wl_val (at_move rfl) rfl ?_
            refine wl_val (at_add rfl rfl) rfl ?_
            refine wl_val (at_assign rfl) rfl ?_
            refine wl_nil ?_
            exact wk_again ⟨((IntKind.wrap .i64 (s14 + 1))), _, ac_again ⟨rfl, rfl, rfl, rfl, rfl, rfl, rfl, trivial⟩, so, h⟩
          · intro J21 h hJ21
            refine wc_block ?_
            refine wc_seq ?_
            refine wc_join (w0 := w0) (fun (s25 : Unit) => [(0, .slice a0.a a0.n a0.c), (1, .slice a1.a a1.n a1.c), (5, .pointer x1), (6, .pointer x3), (7, .pointer x8), (8, .pointer x10), (9, .int .i64 s14)]) h ?_ ?_
            · rintro s25 w26 f1 h so; refine wk_then ?_
              refine wc_seq ?_
              refine wc_region ?_
              refine wl_val (at_move rfl) rfl ?_
              refine wl_val (at_move rfl) rfl ?_
              refine wl_val (at_lenL Try.underlying22 rfl) rfl ?_
              refine wl_val (at_lss rfl rfl) rfl ?_
              refine wl_nil ?_
              refine wk_prune [(0, .slice a0.a a0.n a0.c), (1, .slice a1.a a1.n a1.c), (5, .pointer x1), (6, .pointer x3), (7, .pointer x8), (8, .pointer x10), (9, .int .i64 s14), (50, .bool (decide (s14 < (a1.n : Int))))] ⟨rfl, rfl, rfl, rfl, rfl, rfl, rfl, rfl, trivial⟩ (fun f1 => ?_)
              refine wk_then ?_
              refine wc_cond rfl h (fun h => ?_) (fun h => ?_)
              · refine wc_seq ?_
                refine wc_region ?_
                refine wl_val (at_move rfl) rfl ?_
                refine wl_val (at_move rfl) rfl ?_
                refine wl_val (at_move rfl) rfl ?_
                refine wl_val (at_move rfl) rfl ?_
                obtain ⟨q27, q28, p29, q30, h⟩ := h
                refine wl_val (at_ixAddrL Try.underlying22 sz29 (sl_some q30) rfl q27 q28) rfl ?_
                obtain ⟨x31, x32, x33, q34, h⟩ := h
                refine wl_val (at_loadA (cs := (c29 x31 x32 x33)) Try.underlying29 rfl (by rw [len29]; exact sz29) rfl q34) rfl ?_
                refine wl_callF (mosaiclaw01_write.calls _ _ _ _ _ _ _ h) enter10 rfl trivial so ?_; intro x35 w36 h so
                refine wl_val (at_assign rfl) rfl ?_
                refine wl_nil ?_
                refine wk_prune [(0, .slice a0.a a0.n a0.c), (1, .slice a1.a a1.n a1.c), (5, .pointer x1), (6, .pointer x3), (7, .pointer x8), (8, .pointer x10), (9, .int .i64 s14), (11, .bool x35)] ⟨rfl, rfl, rfl, rfl, rfl, rfl, rfl, rfl, trivial⟩ (fun f1 => ?_)
                refine wk_then ?_
                refine wc_seq ?_
                refine wc_region ?_
                refine wl_val (at_move rfl) rfl ?_
                refine wl_val (at_not rfl) rfl ?_
                refine wl_nil ?_
                refine wk_prune [(0, .slice a0.a a0.n a0.c), (1, .slice a1.a a1.n a1.c), (5, .pointer x1), (6, .pointer x3), (7, .pointer x8), (8, .pointer x10), (9, .int .i64 s14), (59, .bool (!x35))] ⟨rfl, rfl, rfl, rfl, rfl, rfl, rfl, rfl, trivial⟩ (fun f1 => ?_)
                refine wk_then ?_
                refine wc_cond rfl h (fun h => ?_) (fun h => ?_)
                · refine wc_seq ?_
                  refine wc_region ?_
                  refine wl_val (at_assign rfl) rfl ?_
                  refine wl_nil ?_
                  refine wk_prune [(4, .bool false)] ⟨rfl, trivial⟩ (fun f1 => ?_)
                  refine wk_then ?_
                  refine wc_ret ?_
                  refine wk_blkR ?_
                  refine wk_thenR ?_
                  refine wk_thenR ?_
                  refine wk_blkR ?_
                  refine wk_thenR ?_
                  exact wk_ret1 (x := false) rfl (by decide) rfl so h
                · refine wc_skip ?_
                  refine wk_blkN ?_
                  exact wk_prune [(0, .slice a0.a a0.n a0.c), (1, .slice a1.a a1.n a1.c), (5, .pointer x1), (6, .pointer x3), (7, .pointer x8), (8, .pointer x10), (9, .int .i64 s14)] ⟨rfl, rfl, rfl, rfl, rfl, rfl, rfl, trivial⟩ (fun f1 => hJ21 () _ f1 h so)
              · refine wc_skip ?_
                refine wk_blkN ?_
                exact wk_prune [(0, .slice a0.a a0.n a0.c), (1, .slice a1.a a1.n a1.c), (5, .pointer x1), (6, .pointer x3), (7, .pointer x8), (8, .pointer x10), (9, .int .i64 s14)] ⟨rfl, rfl, rfl, rfl, rfl, rfl, rfl, trivial⟩ (fun f1 => hJ21 () _ f1 h so)
            · intro J24 h hJ24
              refine wc_seq ?_
              refine wc_region ?_
              refine wl_val (at_move rfl) rfl ?_
              refine wl_val (at_move rfl) rfl ?_
              refine wl_val (at_lenL Try.underlying22 rfl) rfl ?_
              refine wl_val (at_lss rfl rfl) rfl ?_
              refine wl_nil ?_
              refine wk_prune [(0, .slice a0.a a0.n a0.c), (1, .slice a1.a a1.n a1.c), (5, .pointer x1), (6, .pointer x3), (7, .pointer x8), (8, .pointer x10), (9, .int .i64 s14), (37, .bool (decide (s14 < (a0.n : Int))))] ⟨rfl, rfl, rfl, rfl, rfl, rfl, rfl, rfl, trivial⟩ (fun f1 => ?_)
              refine wk_then ?_
              refine wc_cond rfl h (fun h => ?_) (fun h => ?_)
              · refine wc_seq ?_
                refine wc_region ?_
                refine wl_val (at_move rfl) rfl ?_
                refine wl_val (at_move rfl) rfl ?_
                refine wl_val (at_move rfl) rfl ?_
                refine wl_val (at_move rfl) rfl ?_
                obtain ⟨q37, q38, p39, q40, h⟩ := h
                refine wl_val (at_ixAddrL Try.underlying22 sz29 (sl_some q40) rfl q37 q38) rfl ?_
                obtain ⟨x41, x42, x43, q44, h⟩ := h
                refine wl_val (at_loadA (cs := (c29 x41 x42 x43)) Try.underlying29 rfl (by rw [len29]; exact sz29) rfl q44) rfl ?_
                refine wl_callF (mosaiclaw01_write.calls _ _ _ _ _ _ _ h) enter10 rfl trivial so ?_; intro x45 w46 h so
                refine wl_val (at_assign rfl) rfl ?_
                refine wl_nil ?_
                refine wk_prune [(0, .slice a0.a a0.n a0.c), (1, .slice a1.a a1.n a1.c), (5, .pointer x1), (6, .pointer x3), (7, .pointer x8), (8, .pointer x10), (9, .int .i64 s14), (10, .bool x45)] ⟨rfl, rfl, rfl, rfl, rfl, rfl, rfl, rfl, trivial⟩ (fun f1 => ?_)
                refine wk_then ?_
                refine wc_seq ?_
                refine wc_region ?_
                refine wl_val (at_move rfl) rfl ?_
                refine wl_val (at_not rfl) rfl ?_
                refine wl_nil ?_
                refine wk_prune [(0, .slice a0.a a0.n a0.c), (1, .slice a1.a a1.n a1.c), (5, .pointer x1), (6, .pointer x3), (7, .pointer x8), (8, .pointer x10), (9, .int .i64 s14), (46, .bool (!x45))] ⟨rfl, rfl, rfl, rfl, rfl, rfl, rfl, rfl, trivial⟩ (fun f1 => ?_)
                refine wk_then ?_
                refine wc_cond rfl h (fun h => ?_) (fun h => ?_)
                · refine wc_seq ?_
                  refine wc_region ?_
                  refine wl_val (at_assign rfl) rfl ?_
                  refine wl_nil ?_
                  refine wk_prune [(4, .bool false)] ⟨rfl, trivial⟩ (fun f1 => ?_)
                  refine wk_then ?_
                  refine wc_ret ?_
                  refine wk_thenR ?_
                  refine wk_blkR ?_
                  refine wk_thenR ?_
                  refine wk_thenR ?_
                  refine wk_blkR ?_
                  refine wk_thenR ?_
                  exact wk_ret1 (x := false) rfl (by decide) rfl so h
                · refine wc_skip ?_
                  exact wk_prune [(0, .slice a0.a a0.n a0.c), (1, .slice a1.a a1.n a1.c), (5, .pointer x1), (6, .pointer x3), (7, .pointer x8), (8, .pointer x10), (9, .int .i64 s14)] ⟨rfl, rfl, rfl, rfl, rfl, rfl, rfl, trivial⟩ (fun f1 => hJ24 () _ f1 h so)
              · refine wc_skip ?_
                exact wk_prune [(0, .slice a0.a a0.n a0.c), (1, .slice a1.a a1.n a1.c), (5, .pointer x1), (6, .pointer x3), (7, .pointer x8), (8, .pointer x10), (9, .int .i64 s14)] ⟨rfl, rfl, rfl, rfl, rfl, rfl, rfl, trivial⟩ (fun f1 => hJ24 () _ f1 h so)
        · refine wc_exit ?_
          refine wk_thenE ?_
          refine wk_thenE ?_
          refine wk_blkE ?_
          refine wk_prune [(5, .pointer x1), (6, .pointer x3), (7, .pointer x8), (8, .pointer x10)] ⟨rfl, rfl, rfl, rfl, trivial⟩ (fun f1 => ?_)
          refine wk_then ?_
          refine wc_seq ?_
          refine wc_region ?_
          refine wl_val (at_move rfl) rfl ?_
          refine wl_callF (bits_Sink_Len.calls _ _ _ h) enter11 rfl trivial so ?_; intro x47 w48 h so
          refine wl_val (at_move rfl) rfl ?_
          refine wl_callF (mosaicref01_Sink_Len.calls _ _ _ h) enter12 rfl trivial so ?_; intro x49 w50 h so
          refine wl_val (at_eql rfl rfl) rfl ?_
          refine wl_val (at_move rfl) rfl ?_
          refine bif_ h (fun hb h => ?_) (fun hb h => ?_)
          · refine wl_set (t := 65) (v := .bool true) (congrArg Value.bool hb) ?_; clear hb
            refine wl_on (t := 65) rfl (by decide) rfl ?_
            refine wl_val (at_move rfl) rfl ?_
            refine wl_on (t := 65) rfl (by decide) rfl ?_
            refine wl_callF (bits_Sink_Len.calls _ _ _ h) enter11 rfl trivial so ?_; intro x51 w52 h so
            refine wl_on (t := 65) rfl (by decide) rfl ?_
            refine wl_val (at_move rfl) rfl ?_
            refine wl_on (t := 65) rfl (by decide) rfl ?_
            refine wl_callF (mosaicref01_Sink_Len.calls _ _ _ h) enter12 rfl trivial so ?_; intro x53 w54 h so
            refine wl_on (t := 65) rfl (by decide) rfl ?_
            refine wl_val (at_eql rfl rfl) rfl ?_
            refine wl_val (at_pick_t rfl rfl) rfl ?_
            refine wl_val (at_move rfl) rfl ?_
            refine bif_ h (fun hb h => ?_) (fun hb h => ?_)
            · refine wl_set (t := 72) (v := .bool true) (congrArg Value.bool hb) ?_; clear hb
              refine wl_on (t := 72) rfl (by decide) rfl ?_
              refine wl_val (at_move rfl) rfl ?_
              refine wl_on (t := 72) rfl (by decide) rfl ?_
              refine wl_callF (bits_Sink_Text.calls _ _ _ h) enter13 rfl trivial so ?_; intro x55 w56 h so
              refine wl_on (t := 72) rfl (by decide) rfl ?_
              refine wl_val (at_move rfl) rfl ?_
              refine wl_on (t := 72) rfl (by decide) rfl ?_
              refine wl_callF (mosaicref01_Sink_Text.calls _ _ _ h) enter14 rfl trivial so ?_; intro x57 w58 h so
              refine wl_on (t := 72) rfl (by decide) rfl ?_
              refine wl_val (at_eqlS rfl rfl) rfl ?_
              refine wl_val (at_pick_t rfl rfl) rfl ?_
              refine wl_val (at_move rfl) rfl ?_
              refine bif_ h (fun hb h => ?_) (fun hb h => ?_)
              · refine wl_set (t := 79) (v := .bool true) (congrArg Value.bool hb) ?_; clear hb
                refine wl_on (t := 79) rfl (by decide) rfl ?_
                refine wl_val (at_move rfl) rfl ?_
                refine wl_on (t := 79) rfl (by decide) rfl ?_
                refine wl_callF (bits_Sink_Text.calls _ _ _ h) enter13 rfl trivial so ?_; intro x59 w60 h so
                refine wl_on (t := 79) rfl (by decide) rfl ?_
                refine wl_val (at_move rfl) rfl ?_
                refine wl_on (t := 79) rfl (by decide) rfl ?_
                refine wl_callF (mosaicref01_Sink_Text.calls _ _ _ h) enter14 rfl trivial so ?_; intro x61 w62 h so
                refine wl_on (t := 79) rfl (by decide) rfl ?_
                refine wl_val (at_eqlS rfl rfl) rfl ?_
                refine wl_val (at_pick_t rfl rfl) rfl ?_
                refine wl_val (at_assign rfl) rfl ?_
                refine wl_nil ?_
                refine wk_prune [(4, .bool (x59.toList == x61.toList))] ⟨rfl, trivial⟩ (fun f1 => ?_)
                refine wk_then ?_
                refine wc_ret ?_
                exact wk_ret1 (x := (x59.toList == x61.toList)) rfl (by decide) rfl so h
              · refine wl_set (t := 79) (v := .bool false) (congrArg Value.bool hb) ?_; clear hb
                refine wl_off (t := 79) rfl (by decide) rfl ?_
                refine wl_off (t := 79) rfl (by decide) rfl ?_
                refine wl_off (t := 79) rfl (by decide) rfl ?_
                refine wl_off (t := 79) rfl (by decide) rfl ?_
                refine wl_off (t := 79) rfl (by decide) rfl ?_
                refine wl_val (at_pick_f rfl rfl) rfl ?_
                refine wl_val (at_assign rfl) rfl ?_
                refine wl_nil ?_
                refine wk_prune [(4, .bool false)] ⟨rfl, trivial⟩ (fun f1 => ?_)
                refine wk_then ?_
                refine wc_ret ?_
                exact wk_ret1 (x := false) rfl (by decide) rfl so h
            · refine wl_set (t := 72) (v := .bool false) (congrArg Value.bool hb) ?_; clear hb
              refine wl_off (t := 72) rfl (by decide) rfl ?_
              refine wl_off (t := 72) rfl (by decide) rfl ?_
              refine wl_off (t := 72) rfl (by decide) rfl ?_
              refine wl_off (t := 72) rfl (by decide) rfl ?_
              refine wl_off (t := 72) rfl (by decide) rfl ?_
              refine wl_val (at_pick_f rfl rfl) rfl ?_
              refine wl_val (at_move rfl) rfl ?_
              refine wl_off (t := 79) rfl (by decide) rfl ?_
              refine wl_off (t := 79) rfl (by decide) rfl ?_
              refine wl_off (t := 79) rfl (by decide) rfl ?_
              refine wl_off (t := 79) rfl (by decide) rfl ?_
              refine wl_off (t := 79) rfl (by decide) rfl ?_
              refine wl_val (at_pick_f rfl rfl) rfl ?_
              refine wl_val (at_assign rfl) rfl ?_
              refine wl_nil ?_
              refine wk_prune [(4, .bool false)] ⟨rfl, trivial⟩ (fun f1 => ?_)
              refine wk_then ?_
              refine wc_ret ?_
              exact wk_ret1 (x := false) rfl (by decide) rfl so h
          · refine wl_set (t := 65) (v := .bool false) (congrArg Value.bool hb) ?_; clear hb
            refine wl_off (t := 65) rfl (by decide) rfl ?_
            refine wl_off (t := 65) rfl (by decide) rfl ?_
            refine wl_off (t := 65) rfl (by decide) rfl ?_
            refine wl_off (t := 65) rfl (by decide) rfl ?_
            refine wl_off (t := 65) rfl (by decide) rfl ?_
            refine wl_val (at_pick_f rfl rfl) rfl ?_
            refine wl_val (at_move rfl) rfl ?_
            refine wl_off (t := 72) rfl (by decide) rfl ?_
            refine wl_off (t := 72) rfl (by decide) rfl ?_
            refine wl_off (t := 72) rfl (by decide) rfl ?_
            refine wl_off (t := 72) rfl (by decide) rfl ?_
            refine wl_off (t := 72) rfl (by decide) rfl ?_
            refine wl_val (at_pick_f rfl rfl) rfl ?_
            refine wl_val (at_move rfl) rfl ?_
            refine wl_off (t := 79) rfl (by decide) rfl ?_
            refine wl_off (t := 79) rfl (by decide) rfl ?_
            refine wl_off (t := 79) rfl (by decide) rfl ?_
            refine wl_off (t := 79) rfl (by decide) rfl ?_
            refine wl_off (t := 79) rfl (by decide) rfl ?_
            refine wl_val (at_pick_f rfl rfl) rfl ?_
            refine wl_val (at_assign rfl) rfl ?_
            refine wl_nil ?_
            refine wk_prune [(4, .bool false)] ⟨rfl, trivial⟩ (fun f1 => ?_)
            refine wk_then ?_
            refine wc_ret ?_
            exact wk_ret1 (x := false) rfl (by decide) rfl so h
      · intro J18 h hJ18
        refine wc_region ?_
        refine wl_val (at_move rfl) rfl ?_
        refine wl_val (at_move rfl) rfl ?_
        refine wl_val (at_lenL Try.underlying22 rfl) rfl ?_
        refine wl_val (at_lss rfl rfl) rfl ?_
        refine wl_val (at_move rfl) rfl ?_
        refine bif_ h (fun hb h => ?_) (fun hb h => ?_)
        · refine wl_set (t := 26) (v := .bool true) (congrArg Value.bool hb) ?_; clear hb
          refine wl_off (t := 26) rfl (by decide) rfl ?_
          refine wl_off (t := 26) rfl (by decide) rfl ?_
          refine wl_off (t := 26) rfl (by decide) rfl ?_
          refine wl_off (t := 26) rfl (by decide) rfl ?_
          refine wl_val (at_pick_t rfl rfl) rfl ?_
          refine wl_nil ?_
          exact wk_prune [(0, .slice a0.a a0.n a0.c), (1, .slice a1.a a1.n a1.c), (5, .pointer x1), (6, .pointer x3), (7, .pointer x8), (8, .pointer x10), (9, .int .i64 s14), (31, .bool true)] ⟨rfl, rfl, rfl, rfl, rfl, rfl, rfl, rfl, trivial⟩ (fun f1 => hJ18 (true) _ f1 h so)
        · refine wl_set (t := 26) (v := .bool false) (congrArg Value.bool hb) ?_; clear hb
          refine wl_on (t := 26) rfl (by decide) rfl ?_
          refine wl_val (at_move rfl) rfl ?_
          refine wl_on (t := 26) rfl (by decide) rfl ?_
          refine wl_val (at_move rfl) rfl ?_
          refine wl_on (t := 26) rfl (by decide) rfl ?_
          refine wl_val (at_lenL Try.underlying22 rfl) rfl ?_
          refine wl_on (t := 26) rfl (by decide) rfl ?_
          refine wl_val (at_lss rfl rfl) rfl ?_
          refine wl_val (at_pick_f rfl rfl) rfl ?_
          refine wl_nil ?_
          exact wk_prune [(0, .slice a0.a a0.n a0.c), (1, .slice a1.a a1.n a1.c), (5, .pointer x1), (6, .pointer x3), (7, .pointer x8), (8, .pointer x10), (9, .int .i64 s14), (31, .bool (decide (s14 < (a1.n : Int))))] ⟨rfl, rfl, rfl, rfl, rfl, rfl, rfl, rfl, trivial⟩ (fun f1 => hJ18 ((decide (s14 < (a1.n : Int)))) _ f1 h so)
  · intro J5 h hJ5
    refine wc_region ?_
    refine wl_val (at_move rfl) rfl ?_
    refine wl_val (at_eqlP Try.underlying23 rfl rfl) rfl ?_
    refine wl_val (at_move rfl) rfl ?_
    refine bif_ h (fun hb h => ?_) (fun hb h => ?_)
    · refine wl_set (t := 16) (v := .bool true) (congrArg Value.bool hb) ?_; clear hb
      refine wl_off (t := 16) rfl (by decide) rfl ?_
      refine wl_off (t := 16) rfl (by decide) rfl ?_
      refine wl_val (at_pick_t rfl rfl) rfl ?_
      refine wl_nil ?_
      exact wk_prune [(0, .slice a0.a a0.n a0.c), (1, .slice a1.a a1.n a1.c), (5, .pointer x1), (6, .pointer x3), (19, .bool true)] ⟨rfl, rfl, rfl, rfl, rfl, trivial⟩ (fun f1 => hJ5 (true) _ f1 h so)
    · refine wl_set (t := 16) (v := .bool false) (congrArg Value.bool hb) ?_; clear hb
      refine wl_on (t := 16) rfl (by decide) rfl ?_
      refine wl_val (at_move rfl) rfl ?_
      refine wl_on (t := 16) rfl (by decide) rfl ?_
      refine wl_val (at_eqlP Try.underlying23 rfl rfl) rfl ?_
      refine wl_val (at_pick_f rfl rfl) rfl ?_
      refine wl_nil ?_
      exact wk_prune [(0, .slice a0.a a0.n a0.c), (1, .slice a1.a a1.n a1.c), (5, .pointer x1), (6, .pointer x3), (19, .bool x3.isNone)] ⟨rfl, rfl, rfl, rfl, rfl, trivial⟩ (fun f1 => hJ5 (x3.isNone) _ f1 h so)
end Go.Proofs.Ytcjmcmkohfaleaa.G
