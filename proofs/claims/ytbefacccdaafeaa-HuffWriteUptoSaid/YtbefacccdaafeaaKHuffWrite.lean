import Derived.Test.YtbefacccdaafeaaGF
import Derived.Test.YtbefacccdaafeaaKbits
import Derived.Test.YtbefacccdaafeaaKhuff
import Derived.Test.YtbefacccdaafeaaKmosaiclaw04
import Derived.Test.YtbefacccdaafeaaKmosaicref01
import Derived.Test.YtbefacccdaafeaaKmosaicref04
namespace Go.Proofs.Ytbefacccdaafeaa.G
open Go.RowKit
set_option linter.unusedVariables false
set_option linter.unusedSimpArgs false
/-- mosaic/mosaiclaw04.HuffWrite -/
def mosaiclaw04_HuffWrite.enc : Bool → Value := fun r => .bool r
def mosaiclaw04_HuffWrite.s (a0_0 : Ints 16) (a0_1 : Sl) (a1 : Sl) (H0 : Hp) (Q : Bool → Hp → Prop) : Prop :=
  Gn [] H0 (fun (b1 : Nat) (H2 : Hp) => mosaiclaw04_twin.s a0_0 a0_1 H2 (fun x3 H4 => Pv [b1] H2 H4 ∧ (huff_New.s x3.1 x3.2 H4 (fun x6 H7 => Pv [b1] H4 H7 ∧ (mosaicref04_New.s a0_0 a0_1 H7 (fun x9 H10 => Pv [b1] H7 H10 ∧ (Join (fun (s13 : Bool) (H14 : Hp) => if s13 = true then (Q false H14) else (if x6.1.isNone = true then (Q true H14) else (bits_New.s H14 (fun x15 H16 => Pv [b1] H14 H16 ∧ (mosaicref01_New.s H16 (fun x18 H19 => Pv [b1] H16 H19 ∧ (Join (fun (s22 : Bool) (H23 : Hp) => if s22 = true then (Q false H23) else (∃ k24, Fix (fun (rec29 : Int → Hp → Prop) (s26 : Int) (H27 : Hp) => if decide (s26 < (a1.n : Int)) = true then (0 ≤ s26 ∧ s26 < (a1.n : Int) ∧ someA a1.a (fun p32 => ldI .u8 H27 (p32.add (Int.toNat s26 * 1)) (fun x34 => huff_Table_Write.s x6.1 x15 x34 H27 (fun x36 H37 => Join (fun (s39 : Bool) (H40 : Hp) => if s39 = true then (Q false H40) else (rec29 ((IntKind.wrap .i64 (s26 + 1))) H40)) (fun (J38 : Bool → Hp → Prop) => 0 ≤ s26 ∧ s26 < (a1.n : Int) ∧ (ldI .u8 H37 (p32.add (Int.toNat s26 * 1)) (fun x43 => mosaicref04_Table_Write.s x9.1 x18 x43 H37 (fun x45 H46 => if (!(x36 == x45)) = true then (J38 (true) H46) else (bits_Sink_Len.s x15 H46 (fun x47 H48 => mosaicref01_Sink_Len.s x18 H48 (fun x49 H50 => J38 ((x47 != x49)) H50))))))))))) else (bits_Sink_Pad.s x15 H27 (fun _ H52 => mosaicref01_Sink_Pad.s x18 H52 (fun _ H54 => bits_Sink_Text.s x15 H54 (fun x55 H56 => mosaicref01_Sink_Text.s x18 H56 (fun x57 H58 => Q (x55.toList == x57.toList) H58)))))) k24 (0) H23)) (fun (J21 : Bool → Hp → Prop) => if x15.isNone = true then (J21 (true) H19) else (0 ≤ (0 : Int) ∧ (0 : Int) < (a0_1.n : Int) ∧ someA a0_1.a (fun p61 => ldI .u8 H19 (p61.add (Int.toNat 0 * 1)) (fun x63 => huff_Table_Write.s x6.1 none x63 H19 (fun x65 H66 => J21 (x65) H66)))))))))))) (fun (J12 : Bool → Hp → Prop) => if (x6.2 != x9.2) = true then (J12 (true) H10) else (J12 ((!((!x6.1.isNone) == (x9.2 == 0)))) H10)))))))))
set_option maxRecDepth 20000 in
set_option maxHeartbeats 4000000 in
theorem mosaiclaw04_HuffWrite.calls (a0_0 : Ints 16) (a0_1 : Sl) (a1 : Sl) (w0 : World) (Q : Bool → Hp → Prop) (h : mosaiclaw04_HuffWrite.s a0_0 a0_1 a1 w0.heap Q) :
    Ca Try.prog 5 #[.agg (c25 a0_0 a0_1).toArray, .slice a1.a a1.n a1.c] w0 (Rt mosaiclaw04_HuffWrite.enc Q w0) := by
  refine ca_start (c := _) Try.func5 rfl Try.ntmps5 rfl ?_
  have so : Sm w0 w0 := Sm.refl w0
  unfold mosaiclaw04_HuffWrite.s at h
  refine wc_prune [(0, .agg (c25 a0_0 a0_1).toArray), (1, .slice a1.a a1.n a1.c)] ⟨rfl, rfl, trivial⟩ (fun f1 => ?_)
  refine wc_seq ?_
  refine wc_region ?_
  refine wl_newT (T := 25) (cs := (c25 a0_0 a0_1)) (ef_box rfl rfl) rfl so ?_; intro b1 w2 hb_b1 t_b1 k_b1 so
  have g_b1 := Nat.le_of_eq hb_b1.symm
  have hc := k_b1.ch (F := [])
  refine wl_val (at_assign rfl) rfl ?_
  refine wl_nil ?_
  refine wk_prune [(1, .slice a1.a a1.n a1.c), (2, .pointer (some (⟨b1, 0, none⟩ : Addr)))] ⟨rfl, rfl, trivial⟩ (fun f1 => ?_)
  refine wk_then ?_
  refine wc_seq ?_
  refine wc_region ?_
  refine wl_val (at_loadA (cs := (c25 a0_0 a0_1)) Try.underlying25 rfl (by rw [len25]; exact sz25) rfl (ldA_full t_b1)) rfl ?_
  replace h := h b1 _ hc g_b1 t_b1.lt; clear hc
  refine wl_callF (mosaiclaw04_twin.calls _ _ _ _ h) enter11 rfl trivial so ?_; intro x3 w4 h so
  obtain ⟨q5, h⟩ := h
  replace t_b1 := pv_bk q5 t_b1 (by simp)
  refine wl_callF (huff_New.calls _ _ _ _ h) enter17 rfl trivial so ?_; intro x6 w7 h so
  obtain ⟨q8, h⟩ := h
  replace t_b1 := pv_bk q8 t_b1 (by simp)
  refine wl_val (at_move rfl) rfl ?_
  refine wl_val (at_extract rfl rfl) rfl ?_
  refine wl_val (at_extract rfl rfl) rfl ?_
  refine wl_val (at_assign rfl) rfl ?_
  refine wl_val (at_assign rfl) rfl ?_
  refine wl_nil ?_
  refine wk_prune [(1, .slice a1.a a1.n a1.c), (2, .pointer (some (⟨b1, 0, none⟩ : Addr))), (5, .pointer x6.1), (6, .int .i64 x6.2)] ⟨rfl, rfl, rfl, rfl, trivial⟩ (fun f1 => ?_)
  refine wk_then ?_
  refine wc_seq ?_
  refine wc_region ?_
  refine wl_val (at_loadA (cs := (c25 a0_0 a0_1)) Try.underlying25 rfl (by rw [len25]; exact sz25) rfl (ldA_full t_b1)) rfl ?_
  refine wl_callF (mosaicref04_New.calls _ _ _ _ h) enter18 rfl trivial so ?_; intro x9 w10 h so
  obtain ⟨q11, h⟩ := h
  replace t_b1 := pv_bk q11 t_b1 (by simp)
  refine wl_val (at_move rfl) rfl ?_
  refine wl_val (at_extract rfl rfl) rfl ?_
  refine wl_val (at_extract rfl rfl) rfl ?_
  refine wl_val (at_assign rfl) rfl ?_
  refine wl_val (at_assign rfl) rfl ?_
  refine wl_nil ?_
  refine wk_prune [(1, .slice a1.a a1.n a1.c), (2, .pointer (some (⟨b1, 0, none⟩ : Addr))), (5, .pointer x6.1), (6, .int .i64 x6.2), (7, .pointer x9.1), (8, .int .i64 x9.2)] ⟨rfl, rfl, rfl, rfl, rfl, rfl, trivial⟩ (fun f1 => ?_)
  refine wk_then ?_
  refine wc_seq ?_
  refine wc_seq ?_
  refine wc_joinG (w0 := w0) (fun (H : Hp) => Bk H b1 25 (c25 a0_0 a0_1) ∧ True) (fun (s13 : Bool) => [(1, .slice a1.a a1.n a1.c), (2, .pointer (some (⟨b1, 0, none⟩ : Addr))), (5, .pointer x6.1), (7, .pointer x9.1), (33, .bool s13)]) (fun (s13 : Bool) => []) h ?_ ?_
  · rintro s13 w14 f1 h ⟨t_b1, _⟩ so; refine wk_then ?_
    refine wc_cond rfl h (fun h => ?_) (fun h => ?_)
    · refine wc_seq ?_
      refine wc_region ?_
      refine wl_val (at_assign rfl) rfl ?_
      refine wl_nil ?_
      refine wk_prune [(4, .bool false)] ⟨rfl, trivial⟩ (fun f1 => ?_)
      refine wk_then ?_
      refine wc_ret ?_
      refine wk_thenR ?_
      exact wk_ret1 (x := false) rfl (by decide) rfl so h
    · refine wc_skip ?_
      refine wk_prune [(1, .slice a1.a a1.n a1.c), (2, .pointer (some (⟨b1, 0, none⟩ : Addr))), (5, .pointer x6.1), (7, .pointer x9.1)] ⟨rfl, rfl, rfl, rfl, trivial⟩ (fun f1 => ?_)
      refine wk_then ?_
      refine wc_seq ?_
      refine wc_seq ?_
      refine wc_region ?_
      refine wl_val (at_move rfl) rfl ?_
      refine wl_val (at_eqlP Try.underlying32 rfl rfl) rfl ?_
      refine wl_nil ?_
      refine wk_prune [(1, .slice a1.a a1.n a1.c), (2, .pointer (some (⟨b1, 0, none⟩ : Addr))), (5, .pointer x6.1), (7, .pointer x9.1), (35, .bool x6.1.isNone)] ⟨rfl, rfl, rfl, rfl, rfl, trivial⟩ (fun f1 => ?_)
      refine wk_then ?_
      refine wc_cond rfl h (fun h => ?_) (fun h => ?_)
      · refine wc_seq ?_
        refine wc_region ?_
        refine wl_val (at_assign rfl) rfl ?_
        refine wl_nil ?_
        refine wk_prune [(4, .bool true)] ⟨rfl, trivial⟩ (fun f1 => ?_)
        refine wk_then ?_
        refine wc_ret ?_
        refine wk_thenR ?_
        exact wk_ret1 (x := true) rfl (by decide) rfl so h
      · refine wc_skip ?_
        refine wk_prune [(1, .slice a1.a a1.n a1.c), (2, .pointer (some (⟨b1, 0, none⟩ : Addr))), (5, .pointer x6.1), (7, .pointer x9.1)] ⟨rfl, rfl, rfl, rfl, trivial⟩ (fun f1 => ?_)
        refine wk_then ?_
        refine wc_seq ?_
        refine wc_region ?_
        refine wl_callF (bits_New.calls _ _ h) enter20 rfl trivial so ?_; intro x15 w16 h so
        obtain ⟨q17, h⟩ := h
        replace t_b1 := pv_bk q17 t_b1 (by simp)
        refine wl_val (at_assign rfl) rfl ?_
        refine wl_nil ?_
        refine wk_prune [(1, .slice a1.a a1.n a1.c), (2, .pointer (some (⟨b1, 0, none⟩ : Addr))), (5, .pointer x6.1), (7, .pointer x9.1), (9, .pointer x15)] ⟨rfl, rfl, rfl, rfl, rfl, trivial⟩ (fun f1 => ?_)
        refine wk_then ?_
        refine wc_seq ?_
        refine wc_region ?_
        refine wl_callF (mosaicref01_New.calls _ _ h) enter21 rfl trivial so ?_; intro x18 w19 h so
        obtain ⟨q20, h⟩ := h
        replace t_b1 := pv_bk q20 t_b1 (by simp)
        refine wl_val (at_assign rfl) rfl ?_
        refine wl_nil ?_
        refine wk_prune [(1, .slice a1.a a1.n a1.c), (2, .pointer (some (⟨b1, 0, none⟩ : Addr))), (5, .pointer x6.1), (7, .pointer x9.1), (9, .pointer x15), (10, .pointer x18)] ⟨rfl, rfl, rfl, rfl, rfl, rfl, trivial⟩ (fun f1 => ?_)
        refine wk_then ?_
        refine wc_seq ?_
        refine wc_seq ?_
        refine wc_join (w0 := w0) (fun (s22 : Bool) => [(1, .slice a1.a a1.n a1.c), (5, .pointer x6.1), (7, .pointer x9.1), (9, .pointer x15), (10, .pointer x18), (47, .bool s22)]) h ?_ ?_
        · rintro s22 w23 f1 h so; refine wk_then ?_
          refine wc_cond rfl h (fun h => ?_) (fun h => ?_)
          · refine wc_seq ?_
            refine wc_region ?_
            refine wl_val (at_assign rfl) rfl ?_
            refine wl_nil ?_
            refine wk_prune [(4, .bool false)] ⟨rfl, trivial⟩ (fun f1 => ?_)
            refine wk_then ?_
            refine wc_ret ?_
            refine wk_thenR ?_
            exact wk_ret1 (x := false) rfl (by decide) rfl so h
          · refine wc_skip ?_
            refine wk_prune [(1, .slice a1.a a1.n a1.c), (5, .pointer x6.1), (7, .pointer x9.1), (9, .pointer x15), (10, .pointer x18)] ⟨rfl, rfl, rfl, rfl, rfl, trivial⟩ (fun f1 => ?_)
            refine wk_then ?_
            refine wc_seq ?_
            refine wc_seq ?_
            refine wc_region ?_
            refine wl_val (at_assign rfl) rfl ?_
            refine wl_nil ?_
            refine wk_prune [(1, .slice a1.a a1.n a1.c), (5, .pointer x6.1), (7, .pointer x9.1), (9, .pointer x15), (10, .pointer x18), (11, .int .i64 0)] ⟨rfl, rfl, rfl, rfl, rfl, rfl, trivial⟩ (fun f1 => ?_)
            refine wk_then ?_
            refine wc_block ?_
            obtain ⟨k24, h⟩ := h
            refine wc_loop (fun k a w => ∃ (s26 : Int) (f1 : Nat → Value), a = ac 86 (en f1 [(1, .slice a1.a a1.n a1.c), (5, .pointer x6.1), (7, .pointer x9.1), (9, .pointer x15), (10, .pointer x18), (11, .int .i64 s26)]) [] ∧ Sm w0 w ∧ Fix _ k s26 w.heap) k24 ⟨(0), _, ac_again ⟨rfl, rfl, rfl, rfl, rfl, rfl, trivial⟩, so, h⟩ ?_
            rintro k25 a28 w27 ⟨s26, f1, rfl, so, h⟩
            rcases k25 with _ | k25
            · exact h.elim
            replace h := Fix.un h; refine wc_in ?_
            refine wc_seq ?_
            refine wc_seq ?_
            refine wc_region ?_
            refine wl_val (at_move rfl) rfl ?_
            refine wl_val (at_move rfl) rfl ?_
            refine wl_val (at_lenL Try.underlying23 rfl) rfl ?_
            refine wl_val (at_lss rfl rfl) rfl ?_
            refine wl_nil ?_
            refine wk_prune [(1, .slice a1.a a1.n a1.c), (5, .pointer x6.1), (7, .pointer x9.1), (9, .pointer x15), (10, .pointer x18), (11, .int .i64 s26), (51, .bool (decide (s26 < (a1.n : Int))))] ⟨rfl, rfl, rfl, rfl, rfl, rfl, rfl, trivial⟩ (fun f1 => ?_)
            refine wk_then ?_
            refine wc_cond rfl h (fun h => ?_) (fun h => ?_)
            · refine wc_skip ?_
              refine wk_prune [(1, .slice a1.a a1.n a1.c), (5, .pointer x6.1), (7, .pointer x9.1), (9, .pointer x15), (10, .pointer x18), (11, .int .i64 s26)] ⟨rfl, rfl, rfl, rfl, rfl, rfl, trivial⟩ (fun f1 => ?_)
              refine wk_then ?_
              refine wc_seq ?_
              refine wc_block ?_
              refine wc_seq ?_
              refine wc_region ?_
              refine wl_val (at_move rfl) rfl ?_
              refine wl_val (at_move rfl) rfl ?_
              refine wl_val (at_move rfl) rfl ?_
              refine wl_val (at_move rfl) rfl ?_
              obtain ⟨q30, q31, p32, q33, h⟩ := h
              refine wl_val (at_ixAddrL Try.underlying23 sz5 (sl_some q33) rfl q30 q31) rfl ?_
              obtain ⟨x34, q35, h⟩ := h
              refine wl_val (at_load Try.underlying5 rfl rfl q35) rfl ?_
              refine wl_callF (huff_Table_Write.calls _ _ _ _ _ h) enter22 rfl trivial so ?_; intro x36 w37 h so
              refine wl_val (at_assign rfl) rfl ?_
              refine wl_nil ?_
              refine wk_prune [(1, .slice a1.a a1.n a1.c), (5, .pointer x6.1), (7, .pointer x9.1), (9, .pointer x15), (10, .pointer x18), (11, .int .i64 s26), (12, .bool x36)] ⟨rfl, rfl, rfl, rfl, rfl, rfl, rfl, trivial⟩ (fun f1 => ?_)
              refine wk_then ?_
              refine wc_seq ?_
              refine wc_join (w0 := w0) (fun (s39 : Bool) => [(1, .slice a1.a a1.n a1.c), (5, .pointer x6.1), (7, .pointer x9.1), (9, .pointer x15), (10, .pointer x18), (11, .int .i64 s26), (76, .bool s39)]) h ?_ ?_
              · rintro s39 w40 f1 h so; refine wk_then ?_
                refine wc_cond rfl h (fun h => ?_) (fun h => ?_)
                · refine wc_seq ?_
                  refine wc_region ?_
                  refine wl_val (at_assign rfl) rfl ?_
                  refine wl_nil ?_
                  refine wk_prune [(4, .bool false)] ⟨rfl, trivial⟩ (fun f1 => ?_)
                  refine wk_then ?_
                  refine wc_ret ?_
                  refine wk_blkR ?_
                  refine wk_thenR ?_
                  refine wk_thenR ?_
                  refine wk_blkR ?_
                  refine wk_thenR ?_
                  exact wk_ret1 (x := false) rfl (by decide) rfl so h
                · refine wc_skip ?_
                  refine wk_blkN ?_
                  refine wk_prune [(1, .slice a1.a a1.n a1.c), (5, .pointer x6.1), (7, .pointer x9.1), (9, .pointer x15), (10, .pointer x18), (11, .int .i64 s26)] ⟨rfl, rfl, rfl, rfl, rfl, rfl, trivial⟩ (fun f1 => ?_)
                  refine wk_then ?_
                  refine wc_region ?_
                  refine wl_val (at_move rfl) rfl ?_
                  refine wl_val (at_add rfl rfl) rfl ?_
                  refine wl_val (at_assign rfl) rfl ?_
                  refine wl_nil ?_
                  exact wk_again ⟨((IntKind.wrap .i64 (s26 + 1))), _, ac_again ⟨rfl, rfl, rfl, rfl, rfl, rfl, trivial⟩, so, h⟩
              · intro J38 h hJ38
                refine wc_region ?_
                refine wl_val (at_move rfl) rfl ?_
                refine wl_val (at_move rfl) rfl ?_
                refine wl_val (at_move rfl) rfl ?_
                refine wl_val (at_move rfl) rfl ?_
                refine wl_val (at_move rfl) rfl ?_
                obtain ⟨q41, q42, h⟩ := h
                refine wl_val (at_ixAddrL Try.underlying23 sz5 (sl_some q33) rfl q41 q42) rfl ?_
                obtain ⟨x43, q44, h⟩ := h
                refine wl_val (at_load Try.underlying5 rfl rfl q44) rfl ?_
                refine wl_callF (mosaicref04_Table_Write.calls _ _ _ _ _ h) enter23 rfl trivial so ?_; intro x45 w46 h so
                refine wl_val (at_neqB Try.underlying4 rfl rfl) rfl ?_
                refine wl_val (at_move rfl) rfl ?_
                refine bif_ h (fun hb h => ?_) (fun hb h => ?_)
                · refine wl_set (t := 70) (v := .bool true) (congrArg Value.bool hb) ?_; clear hb
                  refine wl_off (t := 70) rfl (by decide) rfl ?_
                  refine wl_off (t := 70) rfl (by decide) rfl ?_
                  refine wl_off (t := 70) rfl (by decide) rfl ?_
                  refine wl_off (t := 70) rfl (by decide) rfl ?_
                  refine wl_off (t := 70) rfl (by decide) rfl ?_
                  refine wl_val (at_pick_t rfl rfl) rfl ?_
                  refine wl_nil ?_
                  exact wk_prune [(1, .slice a1.a a1.n a1.c), (5, .pointer x6.1), (7, .pointer x9.1), (9, .pointer x15), (10, .pointer x18), (11, .int .i64 s26), (76, .bool true)] ⟨rfl, rfl, rfl, rfl, rfl, rfl, rfl, trivial⟩ (fun f1 => hJ38 (true) _ f1 h so)
                · refine wl_set (t := 70) (v := .bool false) (congrArg Value.bool hb) ?_; clear hb
                  refine wl_on (t := 70) rfl (by decide) rfl ?_
                  refine wl_val (at_move rfl) rfl ?_
                  refine wl_on (t := 70) rfl (by decide) rfl ?_
                  refine wl_callF (bits_Sink_Len.calls _ _ _ h) enter24 rfl trivial so ?_; intro x47 w48 h so
                  refine wl_on (t := 70) rfl (by decide) rfl ?_
                  refine wl_val (at_move rfl) rfl ?_
                  refine wl_on (t := 70) rfl (by decide) rfl ?_
                  refine wl_callF (mosaicref01_Sink_Len.calls _ _ _ h) enter25 rfl trivial so ?_; intro x49 w50 h so
                  refine wl_on (t := 70) rfl (by decide) rfl ?_
                  refine wl_val (at_neq rfl rfl) rfl ?_
                  refine wl_val (at_pick_f rfl rfl) rfl ?_
                  refine wl_nil ?_
                  exact wk_prune [(1, .slice a1.a a1.n a1.c), (5, .pointer x6.1), (7, .pointer x9.1), (9, .pointer x15), (10, .pointer x18), (11, .int .i64 s26), (76, .bool (x47 != x49))] ⟨rfl, rfl, rfl, rfl, rfl, rfl, rfl, trivial⟩ (fun f1 => hJ38 ((x47 != x49)) _ f1 h so)
            · refine wc_exit ?_
              refine wk_thenE ?_
              refine wk_thenE ?_
              refine wk_blkE ?_
              refine wk_prune [(9, .pointer x15), (10, .pointer x18)] ⟨rfl, rfl, trivial⟩ (fun f1 => ?_)
              refine wk_then ?_
              refine wc_seq ?_
              refine wc_region ?_
              refine wl_val (at_move rfl) rfl ?_
              refine wl_callF (bits_Sink_Pad.calls _ _ _ h) enter26 rfl trivial so ?_; intro x51 w52 h so
              refine wl_nil ?_
              refine wk_prune [(9, .pointer x15), (10, .pointer x18)] ⟨rfl, rfl, trivial⟩ (fun f1 => ?_)
              refine wk_then ?_
              refine wc_seq ?_
              refine wc_region ?_
              refine wl_val (at_move rfl) rfl ?_
              refine wl_callF (mosaicref01_Sink_Pad.calls _ _ _ h) enter27 rfl trivial so ?_; intro x53 w54 h so
              refine wl_nil ?_
              refine wk_prune [(9, .pointer x15), (10, .pointer x18)] ⟨rfl, rfl, trivial⟩ (fun f1 => ?_)
              refine wk_then ?_
              refine wc_seq ?_
              refine wc_region ?_
              refine wl_val (at_move rfl) rfl ?_
              refine wl_callF (bits_Sink_Text.calls _ _ _ h) enter28 rfl trivial so ?_; intro x55 w56 h so
              refine wl_val (at_move rfl) rfl ?_
              refine wl_callF (mosaicref01_Sink_Text.calls _ _ _ h) enter29 rfl trivial so ?_; intro x57 w58 h so
              refine wl_val (at_eqlS rfl rfl) rfl ?_
              refine wl_val (at_assign rfl) rfl ?_
              refine wl_nil ?_
              refine wk_prune [(4, .bool (x55.toList == x57.toList))] ⟨rfl, trivial⟩ (fun f1 => ?_)
              refine wk_then ?_
              refine wc_ret ?_
              exact wk_ret1 (x := (x55.toList == x57.toList)) rfl (by decide) rfl so h
        · intro J21 h hJ21
          refine wc_region ?_
          refine wl_val (at_move rfl) rfl ?_
          refine wl_val (at_eqlP Try.underlying40 rfl rfl) rfl ?_
          refine wl_val (at_move rfl) rfl ?_
          refine bif_ h (fun hb h => ?_) (fun hb h => ?_)
          · refine wl_set (t := 40) (v := .bool true) (congrArg Value.bool hb) ?_; clear hb
            refine wl_off (t := 40) rfl (by decide) rfl ?_
            refine wl_off (t := 40) rfl (by decide) rfl ?_
            refine wl_off (t := 40) rfl (by decide) rfl ?_
            refine wl_off (t := 40) rfl (by decide) rfl ?_
            refine wl_off (t := 40) rfl (by decide) rfl ?_
            refine wl_off (t := 40) rfl (by decide) rfl ?_
            refine wl_val (at_pick_t rfl rfl) rfl ?_
            refine wl_nil ?_
            exact wk_prune [(1, .slice a1.a a1.n a1.c), (5, .pointer x6.1), (7, .pointer x9.1), (9, .pointer x15), (10, .pointer x18), (47, .bool true)] ⟨rfl, rfl, rfl, rfl, rfl, rfl, trivial⟩ (fun f1 => hJ21 (true) _ f1 h so)
          · refine wl_set (t := 40) (v := .bool false) (congrArg Value.bool hb) ?_; clear hb
            refine wl_on (t := 40) rfl (by decide) rfl ?_
            refine wl_val (at_move rfl) rfl ?_
            refine wl_on (t := 40) rfl (by decide) rfl ?_
            refine wl_val (at_fieldAddr Try.underlying25 rfl rfl sz23 (by decide) rfl) rfl ?_
            refine wl_on (t := 40) rfl (by decide) rfl ?_
            refine wl_val (at_load (v := .slice a0_1.a a0_1.n a0_1.c) Try.underlying23 rfl rfl ((t_b1.cell 16).trans (by first | rfl | simp [List.getElem?_append, ints_len, bools_len]))) rfl ?_
            refine wl_on (t := 40) rfl (by decide) rfl ?_
            obtain ⟨q59, q60, p61, q62, h⟩ := h
            refine wl_val (at_ixAddrL Try.underlying23 sz5 (sl_some q62) rfl q59 q60) rfl ?_
            refine wl_on (t := 40) rfl (by decide) rfl ?_
            obtain ⟨x63, q64, h⟩ := h
            refine wl_val (at_load Try.underlying5 rfl rfl q64) rfl ?_
            refine wl_on (t := 40) rfl (by decide) rfl ?_
            refine wl_callF (huff_Table_Write.calls _ _ _ _ _ h) enter22 rfl trivial so ?_; intro x65 w66 h so
            refine wl_val (at_pick_f rfl rfl) rfl ?_
            refine wl_nil ?_
            exact wk_prune [(1, .slice a1.a a1.n a1.c), (5, .pointer x6.1), (7, .pointer x9.1), (9, .pointer x15), (10, .pointer x18), (47, .bool x65)] ⟨rfl, rfl, rfl, rfl, rfl, rfl, trivial⟩ (fun f1 => hJ21 (x65) _ f1 h so)
  · intro J12 h hJ12
    refine wc_region ?_
    refine wl_val (at_move rfl) rfl ?_
    refine wl_val (at_move rfl) rfl ?_
    refine wl_val (at_neq rfl rfl) rfl ?_
    refine wl_val (at_move rfl) rfl ?_
    refine bif_ h (fun hb h => ?_) (fun hb h => ?_)
    · refine wl_set (t := 27) (v := .bool true) (congrArg Value.bool hb) ?_; clear hb
      refine wl_off (t := 27) rfl (by decide) rfl ?_
      refine wl_off (t := 27) rfl (by decide) rfl ?_
      refine wl_off (t := 27) rfl (by decide) rfl ?_
      refine wl_off (t := 27) rfl (by decide) rfl ?_
      refine wl_off (t := 27) rfl (by decide) rfl ?_
      refine wl_val (at_pick_t rfl rfl) rfl ?_
      refine wl_nil ?_
      exact wk_prune [(1, .slice a1.a a1.n a1.c), (2, .pointer (some (⟨b1, 0, none⟩ : Addr))), (5, .pointer x6.1), (7, .pointer x9.1), (33, .bool true)] ⟨rfl, rfl, rfl, rfl, rfl, trivial⟩ (fun f1 => hJ12 (true) _ f1 h ⟨t_b1, trivial⟩ so)
    · refine wl_set (t := 27) (v := .bool false) (congrArg Value.bool hb) ?_; clear hb
      refine wl_on (t := 27) rfl (by decide) rfl ?_
      refine wl_val (at_move rfl) rfl ?_
      refine wl_on (t := 27) rfl (by decide) rfl ?_
      refine wl_val (at_neqP Try.underlying32 rfl rfl) rfl ?_
      refine wl_on (t := 27) rfl (by decide) rfl ?_
      refine wl_val (at_move rfl) rfl ?_
      refine wl_on (t := 27) rfl (by decide) rfl ?_
      refine wl_val (at_eql rfl rfl) rfl ?_
      refine wl_on (t := 27) rfl (by decide) rfl ?_
      refine wl_val (at_neqB Try.underlying4 rfl rfl) rfl ?_
      refine wl_val (at_pick_f rfl rfl) rfl ?_
      refine wl_nil ?_
      exact wk_prune [(1, .slice a1.a a1.n a1.c), (2, .pointer (some (⟨b1, 0, none⟩ : Addr))), (5, .pointer x6.1), (7, .pointer x9.1), (33, .bool (!((!x6.1.isNone) == (x9.2 == 0))))] ⟨rfl, rfl, rfl, rfl, rfl, trivial⟩ (fun f1 => hJ12 ((!((!x6.1.isNone) == (x9.2 == 0)))) _ f1 h ⟨t_b1, trivial⟩ so)
end Go.Proofs.Ytbefacccdaafeaa.G
