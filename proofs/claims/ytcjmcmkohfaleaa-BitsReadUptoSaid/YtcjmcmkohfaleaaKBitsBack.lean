import Derived.Test.YtcjmcmkohfaleaaGF
import Derived.Test.YtcjmcmkohfaleaaKbits
import Derived.Test.YtcjmcmkohfaleaaKmosaiclaw01
namespace Go.Proofs.Ytcjmcmkohfaleaa.G
open Go.RowKit
set_option linter.unusedVariables false
set_option linter.unusedSimpArgs false
/-- mosaic/mosaiclaw01.BitsBack -/
def mosaiclaw01_BitsBack.enc : Bool → Value := fun r => .bool r
def mosaiclaw01_BitsBack.s (a0 : Sl) (a1 : ByteArray) (a2 : ByteArray) (H0 : Hp) (Q : Bool → Hp → Prop) : Prop :=
  mosaiclaw01_alive.s H0 (fun x1 H2 => bits_New.s H2 (fun x3 H4 => if x3.isNone = true then (Q false H4) else (∃ k5, Fix (fun (rec10 : (Int × Int) → Hp → Prop) (s7 : Int × Int) (H8 : Hp) => if decide (s7.2 < (a0.n : Int)) = true then (0 ≤ s7.2 ∧ s7.2 < (a0.n : Int) ∧ someA a0.a (fun p13 => ldI .i64 H8 ((p13.add (Int.toNat s7.2 * 3)).add 2) (fun x15 => mosaiclaw01_clip.s x15 H8 (fun x17 H18 => 0 ≤ s7.2 ∧ s7.2 < (a0.n : Int) ∧ (ldI .i64 H18 ((p13.add (Int.toNat s7.2 * 3)).add 1) (fun x21 => bits_Sink_Put.s x3 x21 x17 H18 (fun x23 H24 => if (!x23) = true then (Q false H24) else (rec10 ((IntKind.wrap .i64 (s7.1 + x17)), (IntKind.wrap .i64 (s7.2 + 1))) H24)))))))) else (Join (fun (s26 : Bool) (H27 : Hp) => if s26 = true then (Q false H27) else (bits_Sink_Pad.s x3 H27 (fun _ H29 => bits_Sink_Text.s x3 H29 (fun x30 H31 => a1.size + x30.size ≤ 9223372036854775807 ∧ ((a1 ++ x30).size + a2.size ≤ 9223372036854775807 ∧ (bits_Open.s ((a1 ++ x30) ++ a2) (a1.size : Int) (IntKind.wrap .i64 ((a1.size : Int) + (x30.size : Int))) H31 (fun x34 H35 => Join (fun (s37 : Bool) (H38 : Hp) => if s37 = true then (Q false H38) else (∃ k39, Fix (fun (rec44 : Int → Hp → Prop) (s41 : Int) (H42 : Hp) => if decide (s41 < (a0.n : Int)) = true then (0 ≤ s41 ∧ s41 < (a0.n : Int) ∧ someA a0.a (fun p47 => ldI .i64 H42 ((p47.add (Int.toNat s41 * 3)).add 2) (fun x49 => mosaiclaw01_clip.s x49 H42 (fun x51 H52 => bits_Source_Next.s x34 x51 H52 (fun x53 H54 => Join (fun (s56 : Bool) (H57 : Hp) => if s56 = true then (Q false H57) else (rec44 ((IntKind.wrap .i64 (s41 + 1))) H57)) (fun (J55 : Bool → Hp → Prop) => if (!x53.2) = true then (J55 (true) H54) else (0 ≤ s41 ∧ s41 < (a0.n : Int) ∧ (0 ≤ x51 ∧ (ldI .i64 H54 ((p47.add (Int.toNat s41 * 3)).add 1) (fun x62 => J55 ((x53.1 != (Go.bits .and .i64 x62 (IntKind.wrap .i64 ((shlI .i64 1 x51) - 1))))) H54)))))))))) else (bits_Source_Padded.s x34 H42 (fun x64 H65 => bits_Source_Left.s x34 H65 (fun x66 H67 => bits_Source_Skip.s x34 x66 H67 (fun x68 H69 => if x64 = true then (if x68 = true then (bits_Source_Used.s x34 H69 (fun x70 H71 => if (x70 == (IntKind.wrap .i64 (s7.1 + x66))) = true then (bits_Source_At.s x34 H71 (fun x72 H73 => Q (x72 == (IntKind.wrap .i64 ((a1.size : Int) + (x30.size : Int)))) H73)) else (Q false H71))) else (Q false H69)) else (Q false H69)))))) k39 (0) H38)) (fun (J36 : Bool → Hp → Prop) => if x34.isNone = true then (J36 (true) H35) else (bits_Sink_Len.s x3 H35 (fun x74 H75 => if ((Int.tmod x74 8) != 0) = true then (J36 (true) H75) else (bits_Source_Left.s x34 H75 (fun x76 H77 => bits_Sink_Len.s x3 H77 (fun x78 H79 => if (x76 != x78) = true then (J36 (true) H79) else (bits_Sink_Len.s x3 H79 (fun x80 H81 => J36 ((decide ((IntKind.wrap .i64 (s7.1 + 8)) ≤ x80))) H81))))))))))))))) (fun (J25 : Bool → Hp → Prop) => if (!x1) = true then (J25 (true) H8) else (bits_Sink_Len.s x3 H8 (fun x82 H83 => J25 ((x82 != s7.1)) H83))))) k5 (0, 0) H4)))
set_option maxRecDepth 20000 in
set_option maxHeartbeats 4000000 in
theorem mosaiclaw01_BitsBack.calls (a0 : Sl) (a1 : ByteArray) (a2 : ByteArray) (w0 : World) (Q : Bool → Hp → Prop) (h : mosaiclaw01_BitsBack.s a0 a1 a2 w0.heap Q) :
    Ca Try.prog 7 #[.slice a0.a a0.n a0.c, .string a1, .string a2] w0 (Rt mosaiclaw01_BitsBack.enc Q w0) := by
  refine ca_start (c := _) Try.func7 rfl Try.ntmps7 rfl ?_
  have so : Sm w0 w0 := Sm.refl w0
  unfold mosaiclaw01_BitsBack.s at h
  refine wc_prune [(0, .slice a0.a a0.n a0.c), (1, .string a1), (2, .string a2)] ⟨rfl, rfl, rfl, trivial⟩ (fun f1 => ?_)
  refine wc_seq ?_
  refine wc_region ?_
  refine wl_val (at_assign rfl) rfl ?_
  refine wl_nil ?_
  refine wk_prune [(0, .slice a0.a a0.n a0.c), (1, .string a1), (2, .string a2)] ⟨rfl, rfl, rfl, trivial⟩ (fun f1 => ?_)
  refine wk_then ?_
  refine wc_seq ?_
  refine wc_region ?_
  refine wl_callF (mosaiclaw01_alive.calls _ _ h) enter19 rfl trivial so ?_; intro x1 w2 h so
  refine wl_val (at_assign rfl) rfl ?_
  refine wl_nil ?_
  refine wk_prune [(0, .slice a0.a a0.n a0.c), (1, .string a1), (2, .string a2), (7, .bool x1)] ⟨rfl, rfl, rfl, rfl, trivial⟩ (fun f1 => ?_)
  refine wk_then ?_
  refine wc_seq ?_
  refine wc_region ?_
  refine wl_callF (bits_New.calls _ _ h) enter8 rfl trivial so ?_; intro x3 w4 h so
  refine wl_val (at_assign rfl) rfl ?_
  refine wl_nil ?_
  refine wk_prune [(0, .slice a0.a a0.n a0.c), (1, .string a1), (2, .string a2), (7, .bool x1), (8, .pointer x3)] ⟨rfl, rfl, rfl, rfl, rfl, trivial⟩ (fun f1 => ?_)
  refine wk_then ?_
  refine wc_seq ?_
  refine wc_seq ?_
  refine wc_region ?_
  refine wl_val (at_move rfl) rfl ?_
  refine wl_val (at_eqlP Try.underlying23 rfl rfl) rfl ?_
  refine wl_nil ?_
  refine wk_prune [(0, .slice a0.a a0.n a0.c), (1, .string a1), (2, .string a2), (7, .bool x1), (8, .pointer x3), (25, .bool x3.isNone)] ⟨rfl, rfl, rfl, rfl, rfl, rfl, trivial⟩ (fun f1 => ?_)
  refine wk_then ?_
  refine wc_cond rfl h (fun h => ?_) (fun h => ?_)
  · refine wc_seq ?_
    refine wc_region ?_
    refine wl_val (at_assign rfl) rfl ?_
    refine wl_nil ?_
    refine wk_prune [(6, .bool false)] ⟨rfl, trivial⟩ (fun f1 => ?_)
    refine wk_then ?_
    refine wc_ret ?_
    refine wk_thenR ?_
    exact wk_ret1 (x := false) rfl (by decide) rfl so h
  · refine wc_skip ?_
    refine wk_prune [(0, .slice a0.a a0.n a0.c), (1, .string a1), (2, .string a2), (7, .bool x1), (8, .pointer x3)] ⟨rfl, rfl, rfl, rfl, rfl, trivial⟩ (fun f1 => ?_)
    refine wk_then ?_
    refine wc_seq ?_
    refine wc_region ?_
    refine wl_val (at_assign rfl) rfl ?_
    refine wl_nil ?_
    refine wk_prune [(0, .slice a0.a a0.n a0.c), (1, .string a1), (2, .string a2), (7, .bool x1), (8, .pointer x3), (9, .int .i64 0)] ⟨rfl, rfl, rfl, rfl, rfl, rfl, trivial⟩ (fun f1 => ?_)
    refine wk_then ?_
    refine wc_seq ?_
    refine wc_seq ?_
    refine wc_region ?_
    refine wl_val (at_assign rfl) rfl ?_
    refine wl_nil ?_
    refine wk_prune [(0, .slice a0.a a0.n a0.c), (1, .string a1), (2, .string a2), (7, .bool x1), (8, .pointer x3), (9, .int .i64 0), (10, .int .i64 0)] ⟨rfl, rfl, rfl, rfl, rfl, rfl, rfl, trivial⟩ (fun f1 => ?_)
    refine wk_then ?_
    refine wc_block ?_
    obtain ⟨k5, h⟩ := h
    refine wc_loop (fun k a w => ∃ (s7 : Int × Int) (f1 : Nat → Value), a = ac 160 (en f1 [(0, .slice a0.a a0.n a0.c), (1, .string a1), (2, .string a2), (7, .bool x1), (8, .pointer x3), (9, .int .i64 s7.1), (10, .int .i64 s7.2)]) [] ∧ Sm w0 w ∧ Fix _ k s7 w.heap) k5 ⟨(0, 0), _, ac_again ⟨rfl, rfl, rfl, rfl, rfl, rfl, rfl, trivial⟩, so, h⟩ ?_
    rintro k6 a9 w8 ⟨s7, f1, rfl, so, h⟩
    rcases k6 with _ | k6
    · exact h.elim
    replace h := Fix.un h; refine wc_in ?_
    refine wc_seq ?_
    refine wc_seq ?_
    refine wc_region ?_
    refine wl_val (at_move rfl) rfl ?_
    refine wl_val (at_move rfl) rfl ?_
    refine wl_val (at_lenL Try.underlying22 rfl) rfl ?_
    refine wl_val (at_lss rfl rfl) rfl ?_
    refine wl_nil ?_
    refine wk_prune [(0, .slice a0.a a0.n a0.c), (1, .string a1), (2, .string a2), (7, .bool x1), (8, .pointer x3), (9, .int .i64 s7.1), (10, .int .i64 s7.2), (29, .bool (decide (s7.2 < (a0.n : Int))))] ⟨rfl, rfl, rfl, rfl, rfl, rfl, rfl, rfl, trivial⟩ (fun f1 => ?_)
    refine wk_then ?_
    refine wc_cond rfl h (fun h => ?_) (fun h => ?_)
    · refine wc_skip ?_
      refine wk_prune [(0, .slice a0.a a0.n a0.c), (1, .string a1), (2, .string a2), (7, .bool x1), (8, .pointer x3), (9, .int .i64 s7.1), (10, .int .i64 s7.2)] ⟨rfl, rfl, rfl, rfl, rfl, rfl, rfl, trivial⟩ (fun f1 => ?_)
      refine wk_then ?_
      refine wc_seq ?_
      refine wc_block ?_
      refine wc_seq ?_
      refine wc_region ?_
      refine wl_val (at_move rfl) rfl ?_
      refine wl_val (at_move rfl) rfl ?_
      obtain ⟨q11, q12, p13, q14, h⟩ := h
      refine wl_val (at_ixAddrL Try.underlying22 sz29 (sl_some q14) rfl q11 q12) rfl ?_
      refine wl_val (at_fieldAddr Try.underlying29 rfl rfl sz3 (by decide) rfl) rfl ?_
      obtain ⟨x15, q16, h⟩ := h
      refine wl_val (at_load Try.underlying3 rfl rfl q16) rfl ?_
      refine wl_callF (mosaiclaw01_clip.calls _ _ _ h) enter23 rfl trivial so ?_; intro x17 w18 h so
      refine wl_val (at_assign rfl) rfl ?_
      refine wl_nil ?_
      refine wk_prune [(0, .slice a0.a a0.n a0.c), (1, .string a1), (2, .string a2), (7, .bool x1), (8, .pointer x3), (9, .int .i64 s7.1), (10, .int .i64 s7.2), (11, .int .i64 x17)] ⟨rfl, rfl, rfl, rfl, rfl, rfl, rfl, rfl, trivial⟩ (fun f1 => ?_)
      refine wk_then ?_
      refine wc_seq ?_
      refine wc_region ?_
      refine wl_val (at_move rfl) rfl ?_
      refine wl_val (at_move rfl) rfl ?_
      refine wl_val (at_move rfl) rfl ?_
      obtain ⟨q19, q20, h⟩ := h
      refine wl_val (at_ixAddrL Try.underlying22 sz29 (sl_some q14) rfl q19 q20) rfl ?_
      refine wl_val (at_fieldAddr Try.underlying29 rfl rfl sz3 (by decide) rfl) rfl ?_
      obtain ⟨x21, q22, h⟩ := h
      refine wl_val (at_load Try.underlying3 rfl rfl q22) rfl ?_
      refine wl_val (at_move rfl) rfl ?_
      refine wl_callF (bits_Sink_Put.calls _ _ _ _ _ h) enter28 rfl trivial so ?_; intro x23 w24 h so
      refine wl_val (at_assign rfl) rfl ?_
      refine wl_nil ?_
      refine wk_prune [(0, .slice a0.a a0.n a0.c), (1, .string a1), (2, .string a2), (7, .bool x1), (8, .pointer x3), (9, .int .i64 s7.1), (10, .int .i64 s7.2), (11, .int .i64 x17), (12, .bool x23)] ⟨rfl, rfl, rfl, rfl, rfl, rfl, rfl, rfl, rfl, trivial⟩ (fun f1 => ?_)
      refine wk_then ?_
      refine wc_seq ?_
      refine wc_seq ?_
      refine wc_region ?_
      refine wl_val (at_move rfl) rfl ?_
      refine wl_val (at_not rfl) rfl ?_
      refine wl_nil ?_
      refine wk_prune [(0, .slice a0.a a0.n a0.c), (1, .string a1), (2, .string a2), (7, .bool x1), (8, .pointer x3), (9, .int .i64 s7.1), (10, .int .i64 s7.2), (11, .int .i64 x17), (47, .bool (!x23))] ⟨rfl, rfl, rfl, rfl, rfl, rfl, rfl, rfl, rfl, trivial⟩ (fun f1 => ?_)
      refine wk_then ?_
      refine wc_cond rfl h (fun h => ?_) (fun h => ?_)
      · refine wc_seq ?_
        refine wc_region ?_
        refine wl_val (at_assign rfl) rfl ?_
        refine wl_nil ?_
        refine wk_prune [(6, .bool false)] ⟨rfl, trivial⟩ (fun f1 => ?_)
        refine wk_then ?_
        refine wc_ret ?_
        refine wk_thenR ?_
        refine wk_blkR ?_
        refine wk_thenR ?_
        refine wk_thenR ?_
        refine wk_blkR ?_
        refine wk_thenR ?_
        exact wk_ret1 (x := false) rfl (by decide) rfl so h
      · refine wc_skip ?_
        refine wk_prune [(0, .slice a0.a a0.n a0.c), (1, .string a1), (2, .string a2), (7, .bool x1), (8, .pointer x3), (9, .int .i64 s7.1), (10, .int .i64 s7.2), (11, .int .i64 x17)] ⟨rfl, rfl, rfl, rfl, rfl, rfl, rfl, rfl, trivial⟩ (fun f1 => ?_)
        refine wk_then ?_
        refine wc_region ?_
        refine wl_val (at_move rfl) rfl ?_
        refine wl_val (at_move rfl) rfl ?_
        refine wl_val (at_add rfl rfl) rfl ?_
        refine wl_val (at_assign rfl) rfl ?_
        refine wl_nil ?_
        refine wk_blkN ?_
        refine wk_prune [(0, .slice a0.a a0.n a0.c), (1, .string a1), (2, .string a2), (7, .bool x1), (8, .pointer x3), (9, .int .i64 (IntKind.wrap .i64 (s7.1 + x17))), (10, .int .i64 s7.2)] ⟨rfl, rfl, rfl, rfl, rfl, rfl, rfl, trivial⟩ (fun f1 => ?_)
        refine wk_then ?_
        refine wc_region ?_
        refine wl_val (at_move rfl) rfl ?_
        refine wl_val (at_add rfl rfl) rfl ?_
        refine wl_val (at_assign rfl) rfl ?_
        refine wl_nil ?_
        exact wk_again ⟨((IntKind.wrap .i64 (s7.1 + x17)), (IntKind.wrap .i64 (s7.2 + 1))), _, ac_again ⟨rfl, rfl, rfl, rfl, rfl, rfl, rfl, trivial⟩, so, h⟩
    · refine wc_exit ?_
      refine wk_thenE ?_
      refine wk_thenE ?_
      refine wk_blkE ?_
      refine wk_prune [(0, .slice a0.a a0.n a0.c), (1, .string a1), (2, .string a2), (7, .bool x1), (8, .pointer x3), (9, .int .i64 s7.1)] ⟨rfl, rfl, rfl, rfl, rfl, rfl, trivial⟩ (fun f1 => ?_)
      refine wk_then ?_
      refine wc_seq ?_
      refine wc_seq ?_
      refine wc_join (w0 := w0) (fun (s26 : Bool) => [(0, .slice a0.a a0.n a0.c), (1, .string a1), (2, .string a2), (8, .pointer x3), (9, .int .i64 s7.1), (58, .bool s26)]) h ?_ ?_
      · rintro s26 w27 f1 h so; refine wk_then ?_
        refine wc_cond rfl h (fun h => ?_) (fun h => ?_)
        · refine wc_seq ?_
          refine wc_region ?_
          refine wl_val (at_assign rfl) rfl ?_
          refine wl_nil ?_
          refine wk_prune [(6, .bool false)] ⟨rfl, trivial⟩ (fun f1 => ?_)
          refine wk_then ?_
          refine wc_ret ?_
          refine wk_thenR ?_
          exact wk_ret1 (x := false) rfl (by decide) rfl so h
        · refine wc_skip ?_
          refine wk_prune [(0, .slice a0.a a0.n a0.c), (1, .string a1), (2, .string a2), (8, .pointer x3), (9, .int .i64 s7.1)] ⟨rfl, rfl, rfl, rfl, rfl, trivial⟩ (fun f1 => ?_)
          refine wk_then ?_
          refine wc_seq ?_
          refine wc_region ?_
          refine wl_val (at_move rfl) rfl ?_
          refine wl_callF (bits_Sink_Pad.calls _ _ _ h) enter29 rfl trivial so ?_; intro x28 w29 h so
          refine wl_nil ?_
          refine wk_prune [(0, .slice a0.a a0.n a0.c), (1, .string a1), (2, .string a2), (8, .pointer x3), (9, .int .i64 s7.1)] ⟨rfl, rfl, rfl, rfl, rfl, trivial⟩ (fun f1 => ?_)
          refine wk_then ?_
          refine wc_seq ?_
          refine wc_region ?_
          refine wl_val (at_move rfl) rfl ?_
          refine wl_callF (bits_Sink_Text.calls _ _ _ h) enter13 rfl trivial so ?_; intro x30 w31 h so
          refine wl_val (at_assign rfl) rfl ?_
          refine wl_nil ?_
          refine wk_prune [(0, .slice a0.a a0.n a0.c), (1, .string a1), (2, .string a2), (8, .pointer x3), (9, .int .i64 s7.1), (13, .string x30)] ⟨rfl, rfl, rfl, rfl, rfl, rfl, trivial⟩ (fun f1 => ?_)
          refine wk_then ?_
          refine wc_seq ?_
          refine wc_region ?_
          refine wl_val (at_move rfl) rfl ?_
          refine wl_val (at_move rfl) rfl ?_
          obtain ⟨q32, h⟩ := h
          refine wl_val (at_cat rfl rfl q32) rfl ?_
          refine wl_val (at_move rfl) rfl ?_
          obtain ⟨q33, h⟩ := h
          refine wl_val (at_cat rfl rfl q33) rfl ?_
          refine wl_val (at_move rfl) rfl ?_
          refine wl_val (at_lenS Try.underlying9 rfl) rfl ?_
          refine wl_val (at_move rfl) rfl ?_
          refine wl_val (at_lenS Try.underlying9 rfl) rfl ?_
          refine wl_val (at_move rfl) rfl ?_
          refine wl_val (at_lenS Try.underlying9 rfl) rfl ?_
          refine wl_val (at_add rfl rfl) rfl ?_
          refine wl_callF (bits_Open.calls _ _ _ _ _ h) enter15 rfl trivial so ?_; intro x34 w35 h so
          refine wl_val (at_assign rfl) rfl ?_
          refine wl_nil ?_
          refine wk_prune [(0, .slice a0.a a0.n a0.c), (1, .string a1), (8, .pointer x3), (9, .int .i64 s7.1), (13, .string x30), (14, .pointer x34)] ⟨rfl, rfl, rfl, rfl, rfl, rfl, trivial⟩ (fun f1 => ?_)
          refine wk_then ?_
          refine wc_seq ?_
          refine wc_seq ?_
          refine wc_join (w0 := w0) (fun (s37 : Bool) => [(0, .slice a0.a a0.n a0.c), (1, .string a1), (9, .int .i64 s7.1), (13, .string x30), (14, .pointer x34), (97, .bool s37)]) h ?_ ?_
          · rintro s37 w38 f1 h so; refine wk_then ?_
            refine wc_cond rfl h (fun h => ?_) (fun h => ?_)
            · refine wc_seq ?_
              refine wc_region ?_
              refine wl_val (at_assign rfl) rfl ?_
              refine wl_nil ?_
              refine wk_prune [(6, .bool false)] ⟨rfl, trivial⟩ (fun f1 => ?_)
              refine wk_then ?_
              refine wc_ret ?_
              refine wk_thenR ?_
              exact wk_ret1 (x := false) rfl (by decide) rfl so h
            · refine wc_skip ?_
              refine wk_prune [(0, .slice a0.a a0.n a0.c), (1, .string a1), (9, .int .i64 s7.1), (13, .string x30), (14, .pointer x34)] ⟨rfl, rfl, rfl, rfl, rfl, trivial⟩ (fun f1 => ?_)
              refine wk_then ?_
              refine wc_seq ?_
              refine wc_seq ?_
              refine wc_region ?_
              refine wl_val (at_assign rfl) rfl ?_
              refine wl_nil ?_
              refine wk_prune [(0, .slice a0.a a0.n a0.c), (1, .string a1), (9, .int .i64 s7.1), (13, .string x30), (14, .pointer x34), (15, .int .i64 0)] ⟨rfl, rfl, rfl, rfl, rfl, rfl, trivial⟩ (fun f1 => ?_)
              refine wk_then ?_
              refine wc_block ?_
              obtain ⟨k39, h⟩ := h
              refine wc_loop (fun k a w => ∃ (s41 : Int) (f1 : Nat → Value), a = ac 160 (en f1 [(0, .slice a0.a a0.n a0.c), (1, .string a1), (9, .int .i64 s7.1), (13, .string x30), (14, .pointer x34), (15, .int .i64 s41)]) [] ∧ Sm w0 w ∧ Fix _ k s41 w.heap) k39 ⟨(0), _, ac_again ⟨rfl, rfl, rfl, rfl, rfl, rfl, trivial⟩, so, h⟩ ?_
              rintro k40 a43 w42 ⟨s41, f1, rfl, so, h⟩
              rcases k40 with _ | k40
              · exact h.elim
              replace h := Fix.un h; refine wc_in ?_
              refine wc_seq ?_
              refine wc_seq ?_
              refine wc_region ?_
              refine wl_val (at_move rfl) rfl ?_
              refine wl_val (at_move rfl) rfl ?_
              refine wl_val (at_lenL Try.underlying22 rfl) rfl ?_
              refine wl_val (at_lss rfl rfl) rfl ?_
              refine wl_nil ?_
              refine wk_prune [(0, .slice a0.a a0.n a0.c), (1, .string a1), (9, .int .i64 s7.1), (13, .string x30), (14, .pointer x34), (15, .int .i64 s41), (101, .bool (decide (s41 < (a0.n : Int))))] ⟨rfl, rfl, rfl, rfl, rfl, rfl, rfl, trivial⟩ (fun f1 => ?_)
              refine wk_then ?_
              refine wc_cond rfl h (fun h => ?_) (fun h => ?_)
              · refine wc_skip ?_
                refine wk_prune [(0, .slice a0.a a0.n a0.c), (1, .string a1), (9, .int .i64 s7.1), (13, .string x30), (14, .pointer x34), (15, .int .i64 s41)] ⟨rfl, rfl, rfl, rfl, rfl, rfl, trivial⟩ (fun f1 => ?_)
                refine wk_then ?_
                refine wc_seq ?_
                refine wc_block ?_
                refine wc_seq ?_
                refine wc_region ?_
                refine wl_val (at_move rfl) rfl ?_
                refine wl_val (at_move rfl) rfl ?_
                obtain ⟨q45, q46, p47, q48, h⟩ := h
                refine wl_val (at_ixAddrL Try.underlying22 sz29 (sl_some q48) rfl q45 q46) rfl ?_
                refine wl_val (at_fieldAddr Try.underlying29 rfl rfl sz3 (by decide) rfl) rfl ?_
                obtain ⟨x49, q50, h⟩ := h
                refine wl_val (at_load Try.underlying3 rfl rfl q50) rfl ?_
                refine wl_callF (mosaiclaw01_clip.calls _ _ _ h) enter23 rfl trivial so ?_; intro x51 w52 h so
                refine wl_val (at_assign rfl) rfl ?_
                refine wl_nil ?_
                refine wk_prune [(0, .slice a0.a a0.n a0.c), (1, .string a1), (9, .int .i64 s7.1), (13, .string x30), (14, .pointer x34), (15, .int .i64 s41), (16, .int .i64 x51)] ⟨rfl, rfl, rfl, rfl, rfl, rfl, rfl, trivial⟩ (fun f1 => ?_)
                refine wk_then ?_
                refine wc_seq ?_
                refine wc_region ?_
                refine wl_val (at_move rfl) rfl ?_
                refine wl_val (at_move rfl) rfl ?_
                refine wl_callF (bits_Source_Next.calls _ _ _ _ h) enter25 rfl trivial so ?_; intro x53 w54 h so
                refine wl_val (at_move rfl) rfl ?_
                refine wl_val (at_extract rfl rfl) rfl ?_
                refine wl_val (at_extract rfl rfl) rfl ?_
                refine wl_val (at_assign rfl) rfl ?_
                refine wl_val (at_assign rfl) rfl ?_
                refine wl_nil ?_
                refine wk_prune [(0, .slice a0.a a0.n a0.c), (1, .string a1), (9, .int .i64 s7.1), (13, .string x30), (14, .pointer x34), (15, .int .i64 s41), (16, .int .i64 x51), (17, .int .i64 x53.1), (18, .bool x53.2)] ⟨rfl, rfl, rfl, rfl, rfl, rfl, rfl, rfl, rfl, trivial⟩ (fun f1 => ?_)
                refine wk_then ?_
                refine wc_seq ?_
                refine wc_join (w0 := w0) (fun (s56 : Bool) => [(0, .slice a0.a a0.n a0.c), (1, .string a1), (9, .int .i64 s7.1), (13, .string x30), (14, .pointer x34), (15, .int .i64 s41), (130, .bool s56)]) h ?_ ?_
                · rintro s56 w57 f1 h so; refine wk_then ?_
                  refine wc_cond rfl h (fun h => ?_) (fun h => ?_)
                  · refine wc_seq ?_
                    refine wc_region ?_
                    refine wl_val (at_assign rfl) rfl ?_
                    refine wl_nil ?_
                    refine wk_prune [(6, .bool false)] ⟨rfl, trivial⟩ (fun f1 => ?_)
                    refine wk_then ?_
                    refine wc_ret ?_
                    refine wk_blkR ?_
                    refine wk_thenR ?_
                    refine wk_thenR ?_
                    refine wk_blkR ?_
                    refine wk_thenR ?_
                    exact wk_ret1 (x := false) rfl (by decide) rfl so h
                  · refine wc_skip ?_
                    refine wk_blkN ?_
                    refine wk_prune [(0, .slice a0.a a0.n a0.c), (1, .string a1), (9, .int .i64 s7.1), (13, .string x30), (14, .pointer x34), (15, .int .i64 s41)] ⟨rfl, rfl, rfl, rfl, rfl, rfl, trivial⟩ (fun f1 => ?_)
                    refine wk_then ?_
                    refine wc_region ?_
                    refine wl_val (at_move rfl) rfl ?_
                    refine wl_val (at_add rfl rfl) rfl ?_
                    refine wl_val (at_assign rfl) rfl ?_
                    refine wl_nil ?_
                    exact wk_again ⟨((IntKind.wrap .i64 (s41 + 1))), _, ac_again ⟨rfl, rfl, rfl, rfl, rfl, rfl, trivial⟩, so, h⟩
                · intro J55 h hJ55
                  refine wc_wo [0, 1, 3, 7, 7, 7, 55, 119, 247, 7, 519, 1543, 4087, 8191, 16383] mixed (by kernel_rfl) so ?_; intro w58 hw so; rw [← hw] at h; clear hw
                  refine wo_pure (m' := 1) 0 rfl (by kernel_rfl) rfl rfl (fun H => at_move rfl) ?_
                  refine wo_pure (m' := 3) 1 rfl (by kernel_rfl) rfl rfl (fun H => at_not rfl) ?_
                  refine wo_pure (m' := 7) 2 rfl (by kernel_rfl) rfl rfl (fun H => at_move rfl) ?_
                  refine bif_ h (fun hb h => ?_) (fun hb h => ?_)
                  · refine wo_set (t := 118) (v := .bool true) (congrArg Value.bool hb) ?_; clear hb
                    refine wo_off (m' := 15) 3 rfl (by kernel_rfl) rfl (t := 118) rfl (by decide) rfl ?_
                    refine wo_off (m' := 31) 4 rfl (by kernel_rfl) rfl (t := 118) rfl (by decide) rfl ?_
                    refine wo_off (m' := 63) 5 rfl (by kernel_rfl) rfl (t := 118) rfl (by decide) rfl ?_
                    refine wo_off (m' := 127) 6 rfl (by kernel_rfl) rfl (t := 118) rfl (by decide) rfl ?_
                    refine wo_off (m' := 255) 7 rfl (by kernel_rfl) rfl (t := 118) rfl (by decide) rfl ?_
                    refine wo_off (m' := 511) 8 rfl (by kernel_rfl) rfl (t := 118) rfl (by decide) rfl ?_
                    refine wo_off (m' := 1023) 9 rfl (by kernel_rfl) rfl (t := 118) rfl (by decide) rfl ?_
                    refine wo_off (m' := 2047) 10 rfl (by kernel_rfl) rfl (t := 118) rfl (by decide) rfl ?_
                    refine wo_off (m' := 4095) 11 rfl (by kernel_rfl) rfl (t := 118) rfl (by decide) rfl ?_
                    refine wo_off (m' := 8191) 12 rfl (by kernel_rfl) rfl (t := 118) rfl (by decide) rfl ?_
                    refine wo_off (m' := 16383) 13 rfl (by kernel_rfl) rfl (t := 118) rfl (by decide) rfl ?_
                    refine wo_pure (m' := 32767) 14 rfl (by kernel_rfl) rfl rfl (fun H => at_pick_t rfl rfl) ?_
                    refine wo_done (by kernel_rfl) ?_
                    exact wk_prune [(0, .slice a0.a a0.n a0.c), (1, .string a1), (9, .int .i64 s7.1), (13, .string x30), (14, .pointer x34), (15, .int .i64 s41), (130, .bool true)] ⟨rfl, rfl, rfl, rfl, rfl, rfl, rfl, trivial⟩ (fun f1 => hJ55 (true) _ f1 h so)
                  · refine wo_set (t := 118) (v := .bool false) (congrArg Value.bool hb) ?_; clear hb
                    refine wo_pureG (m' := 15) 3 rfl (by kernel_rfl) rfl (t := 118) rfl (by decide) rfl (fun H => at_move rfl) ?_
                    refine wo_pureG (m' := 31) 4 rfl (by kernel_rfl) rfl (t := 118) rfl (by decide) rfl (fun H => at_move rfl) ?_
                    refine wo_pureG (m' := 63) 5 rfl (by kernel_rfl) rfl (t := 118) rfl (by decide) rfl (fun H => at_move rfl) ?_
                    obtain ⟨q59, q60, h⟩ := h
                    refine wo_pureG (m' := 127) 6 rfl (by kernel_rfl) rfl (t := 118) rfl (by decide) rfl (fun H => at_ixAddrL Try.underlying22 sz29 (sl_some q48) rfl q59 q60) ?_
                    refine wo_pureG (m' := 255) 7 rfl (by kernel_rfl) rfl (t := 118) rfl (by decide) rfl (fun H => at_fieldAddr Try.underlying29 rfl rfl sz3 (by decide) rfl) ?_
                    refine wo_pureG (m' := 767) 9 rfl (by kernel_rfl) rfl (t := 118) rfl (by decide) rfl (fun H => at_move rfl) ?_
                    obtain ⟨q61, h⟩ := h
                    refine wo_pureG (m' := 1791) 10 rfl (by kernel_rfl) rfl (t := 118) rfl (by decide) rfl (fun H => at_shl rfl rfl q61) ?_
                    refine wo_pureG (m' := 3839) 11 rfl (by kernel_rfl) rfl (t := 118) rfl (by decide) rfl (fun H => at_sub rfl rfl) ?_
                    obtain ⟨x62, q63, h⟩ := h
                    refine wo_loadG (m' := 4095) 8 (fun H => cellAt H ((p47.add (Int.toNat s41 * 3)).add 1) = some (.int .i64 x62)) rfl (by kernel_rfl) rfl (t := 118) rfl (by decide) rfl (fun H q63 => at_load Try.underlying3 rfl rfl q63) q63 ?_
                    refine wo_pureG (m' := 8191) 12 rfl (by kernel_rfl) rfl (t := 118) rfl (by decide) rfl (fun H => at_and rfl rfl) ?_
                    refine wo_pureG (m' := 16383) 13 rfl (by kernel_rfl) rfl (t := 118) rfl (by decide) rfl (fun H => at_neq rfl rfl) ?_
                    refine wo_pure (m' := 32767) 14 rfl (by kernel_rfl) rfl rfl (fun H => at_pick_f rfl rfl) ?_
                    refine wo_done (by kernel_rfl) ?_
                    exact wk_prune [(0, .slice a0.a a0.n a0.c), (1, .string a1), (9, .int .i64 s7.1), (13, .string x30), (14, .pointer x34), (15, .int .i64 s41), (130, .bool (x53.1 != (Go.bits .and .i64 x62 (IntKind.wrap .i64 ((shlI .i64 1 x51) - 1)))))] ⟨rfl, rfl, rfl, rfl, rfl, rfl, rfl, trivial⟩ (fun f1 => hJ55 ((x53.1 != (Go.bits .and .i64 x62 (IntKind.wrap .i64 ((shlI .i64 1 x51) - 1))))) _ f1 h so)
              · refine wc_exit ?_
                refine wk_thenE ?_
                refine wk_thenE ?_
                refine wk_blkE ?_
                refine wk_prune [(1, .string a1), (9, .int .i64 s7.1), (13, .string x30), (14, .pointer x34)] ⟨rfl, rfl, rfl, rfl, trivial⟩ (fun f1 => ?_)
                refine wk_then ?_
                refine wc_seq ?_
                refine wc_region ?_
                refine wl_val (at_move rfl) rfl ?_
                refine wl_callF (bits_Source_Padded.calls _ _ _ h) enter27 rfl trivial so ?_; intro x64 w65 h so
                refine wl_val (at_assign rfl) rfl ?_
                refine wl_nil ?_
                refine wk_prune [(1, .string a1), (9, .int .i64 s7.1), (13, .string x30), (14, .pointer x34), (19, .bool x64)] ⟨rfl, rfl, rfl, rfl, rfl, trivial⟩ (fun f1 => ?_)
                refine wk_then ?_
                refine wc_seq ?_
                refine wc_region ?_
                refine wl_val (at_move rfl) rfl ?_
                refine wl_callF (bits_Source_Left.calls _ _ _ h) enter20 rfl trivial so ?_; intro x66 w67 h so
                refine wl_val (at_assign rfl) rfl ?_
                refine wl_nil ?_
                refine wk_prune [(1, .string a1), (9, .int .i64 s7.1), (13, .string x30), (14, .pointer x34), (19, .bool x64), (20, .int .i64 x66)] ⟨rfl, rfl, rfl, rfl, rfl, rfl, trivial⟩ (fun f1 => ?_)
                refine wk_then ?_
                refine wc_seq ?_
                refine wc_region ?_
                refine wl_val (at_move rfl) rfl ?_
                refine wl_val (at_move rfl) rfl ?_
                refine wl_callF (bits_Source_Skip.calls _ _ _ _ h) enter21 rfl trivial so ?_; intro x68 w69 h so
                refine wl_val (at_assign rfl) rfl ?_
                refine wl_nil ?_
                refine wk_prune [(1, .string a1), (9, .int .i64 s7.1), (13, .string x30), (14, .pointer x34), (19, .bool x64), (20, .int .i64 x66), (21, .bool x68)] ⟨rfl, rfl, rfl, rfl, rfl, rfl, rfl, trivial⟩ (fun f1 => ?_)
                refine wk_then ?_
                refine wc_seq ?_
                refine wc_region ?_
                refine wl_val (at_move rfl) rfl ?_
                refine wl_val (at_move rfl) rfl ?_
                refine bif_ h (fun hb h => ?_) (fun hb h => ?_)
                · refine wl_set (t := 139) (v := .bool true) (congrArg Value.bool hb) ?_; clear hb
                  refine wl_on (t := 139) rfl (by decide) rfl ?_
                  refine wl_val (at_move rfl) rfl ?_
                  refine wl_val (at_pick_t rfl rfl) rfl ?_
                  refine wl_val (at_move rfl) rfl ?_
                  refine bif_ h (fun hb h => ?_) (fun hb h => ?_)
                  · refine wl_set (t := 142) (v := .bool true) (congrArg Value.bool hb) ?_; clear hb
                    refine wl_on (t := 142) rfl (by decide) rfl ?_
                    refine wl_val (at_move rfl) rfl ?_
                    refine wl_on (t := 142) rfl (by decide) rfl ?_
                    refine wl_callF (bits_Source_Used.calls _ _ _ h) enter22 rfl trivial so ?_; intro x70 w71 h so
                    refine wl_on (t := 142) rfl (by decide) rfl ?_
                    refine wl_val (at_move rfl) rfl ?_
                    refine wl_on (t := 142) rfl (by decide) rfl ?_
                    refine wl_val (at_move rfl) rfl ?_
                    refine wl_on (t := 142) rfl (by decide) rfl ?_
                    refine wl_val (at_add rfl rfl) rfl ?_
                    refine wl_on (t := 142) rfl (by decide) rfl ?_
                    refine wl_val (at_eql rfl rfl) rfl ?_
                    refine wl_val (at_pick_t rfl rfl) rfl ?_
                    refine wl_val (at_move rfl) rfl ?_
                    refine bif_ h (fun hb h => ?_) (fun hb h => ?_)
                    · refine wl_set (t := 150) (v := .bool true) (congrArg Value.bool hb) ?_; clear hb
                      refine wl_on (t := 150) rfl (by decide) rfl ?_
                      refine wl_val (at_move rfl) rfl ?_
                      refine wl_on (t := 150) rfl (by decide) rfl ?_
                      refine wl_callF (bits_Source_At.calls _ _ _ h) enter26 rfl trivial so ?_; intro x72 w73 h so
                      refine wl_on (t := 150) rfl (by decide) rfl ?_
                      refine wl_val (at_move rfl) rfl ?_
                      refine wl_on (t := 150) rfl (by decide) rfl ?_
                      refine wl_val (at_lenS Try.underlying9 rfl) rfl ?_
                      refine wl_on (t := 150) rfl (by decide) rfl ?_
                      refine wl_val (at_move rfl) rfl ?_
                      refine wl_on (t := 150) rfl (by decide) rfl ?_
                      refine wl_val (at_lenS Try.underlying9 rfl) rfl ?_
                      refine wl_on (t := 150) rfl (by decide) rfl ?_
                      refine wl_val (at_add rfl rfl) rfl ?_
                      refine wl_on (t := 150) rfl (by decide) rfl ?_
                      refine wl_val (at_eql rfl rfl) rfl ?_
                      refine wl_val (at_pick_t rfl rfl) rfl ?_
                      refine wl_val (at_assign rfl) rfl ?_
                      refine wl_nil ?_
                      refine wk_prune [(6, .bool (x72 == (IntKind.wrap .i64 ((a1.size : Int) + (x30.size : Int)))))] ⟨rfl, trivial⟩ (fun f1 => ?_)
                      refine wk_then ?_
                      refine wc_ret ?_
                      exact wk_ret1 (x := (x72 == (IntKind.wrap .i64 ((a1.size : Int) + (x30.size : Int))))) rfl (by decide) rfl so h
                    · refine wl_set (t := 150) (v := .bool false) (congrArg Value.bool hb) ?_; clear hb
                      refine wl_off (t := 150) rfl (by decide) rfl ?_
                      refine wl_off (t := 150) rfl (by decide) rfl ?_
                      refine wl_off (t := 150) rfl (by decide) rfl ?_
                      refine wl_off (t := 150) rfl (by decide) rfl ?_
                      refine wl_off (t := 150) rfl (by decide) rfl ?_
                      refine wl_off (t := 150) rfl (by decide) rfl ?_
                      refine wl_off (t := 150) rfl (by decide) rfl ?_
                      refine wl_off (t := 150) rfl (by decide) rfl ?_
                      refine wl_val (at_pick_f rfl rfl) rfl ?_
                      refine wl_val (at_assign rfl) rfl ?_
                      refine wl_nil ?_
                      refine wk_prune [(6, .bool false)] ⟨rfl, trivial⟩ (fun f1 => ?_)
                      refine wk_then ?_
                      refine wc_ret ?_
                      exact wk_ret1 (x := false) rfl (by decide) rfl so h
                  · refine wl_set (t := 142) (v := .bool false) (congrArg Value.bool hb) ?_; clear hb
                    refine wl_off (t := 142) rfl (by decide) rfl ?_
                    refine wl_off (t := 142) rfl (by decide) rfl ?_
                    refine wl_off (t := 142) rfl (by decide) rfl ?_
                    refine wl_off (t := 142) rfl (by decide) rfl ?_
                    refine wl_off (t := 142) rfl (by decide) rfl ?_
                    refine wl_off (t := 142) rfl (by decide) rfl ?_
                    refine wl_val (at_pick_f rfl rfl) rfl ?_
                    refine wl_val (at_move rfl) rfl ?_
                    refine wl_off (t := 150) rfl (by decide) rfl ?_
                    refine wl_off (t := 150) rfl (by decide) rfl ?_
                    refine wl_off (t := 150) rfl (by decide) rfl ?_
                    refine wl_off (t := 150) rfl (by decide) rfl ?_
                    refine wl_off (t := 150) rfl (by decide) rfl ?_
                    refine wl_off (t := 150) rfl (by decide) rfl ?_
                    refine wl_off (t := 150) rfl (by decide) rfl ?_
                    refine wl_off (t := 150) rfl (by decide) rfl ?_
                    refine wl_val (at_pick_f rfl rfl) rfl ?_
                    refine wl_val (at_assign rfl) rfl ?_
                    refine wl_nil ?_
                    refine wk_prune [(6, .bool false)] ⟨rfl, trivial⟩ (fun f1 => ?_)
                    refine wk_then ?_
                    refine wc_ret ?_
                    exact wk_ret1 (x := false) rfl (by decide) rfl so h
                · refine wl_set (t := 139) (v := .bool false) (congrArg Value.bool hb) ?_; clear hb
                  refine wl_off (t := 139) rfl (by decide) rfl ?_
                  refine wl_val (at_pick_f rfl rfl) rfl ?_
                  refine wl_val (at_move rfl) rfl ?_
                  refine wl_off (t := 142) rfl (by decide) rfl ?_
                  refine wl_off (t := 142) rfl (by decide) rfl ?_
                  refine wl_off (t := 142) rfl (by decide) rfl ?_
                  refine wl_off (t := 142) rfl (by decide) rfl ?_
                  refine wl_off (t := 142) rfl (by decide) rfl ?_
                  refine wl_off (t := 142) rfl (by decide) rfl ?_
                  refine wl_val (at_pick_f rfl rfl) rfl ?_
                  refine wl_val (at_move rfl) rfl ?_
                  refine wl_off (t := 150) rfl (by decide) rfl ?_
                  refine wl_off (t := 150) rfl (by decide) rfl ?_
                  refine wl_off (t := 150) rfl (by decide) rfl ?_
                  refine wl_off (t := 150) rfl (by decide) rfl ?_
                  refine wl_off (t := 150) rfl (by decide) rfl ?_
                  refine wl_off (t := 150) rfl (by decide) rfl ?_
                  refine wl_off (t := 150) rfl (by decide) rfl ?_
                  refine wl_off (t := 150) rfl (by decide) rfl ?_
                  refine wl_val (at_pick_f rfl rfl) rfl ?_
                  refine wl_val (at_assign rfl) rfl ?_
                  refine wl_nil ?_
                  refine wk_prune [(6, .bool false)] ⟨rfl, trivial⟩ (fun f1 => ?_)
                  refine wk_then ?_
                  refine wc_ret ?_
                  exact wk_ret1 (x := false) rfl (by decide) rfl so h
          · intro J36 h hJ36
            refine wc_region ?_
            refine wl_val (at_move rfl) rfl ?_
            refine wl_val (at_eqlP Try.underlying35 rfl rfl) rfl ?_
            refine wl_val (at_move rfl) rfl ?_
            refine bif_ h (fun hb h => ?_) (fun hb h => ?_)
            · refine wl_set (t := 78) (v := .bool true) (congrArg Value.bool hb) ?_; clear hb
              refine wl_off (t := 78) rfl (by decide) rfl ?_
              refine wl_off (t := 78) rfl (by decide) rfl ?_
              refine wl_off (t := 78) rfl (by decide) rfl ?_
              refine wl_off (t := 78) rfl (by decide) rfl ?_
              refine wl_val (at_pick_t rfl rfl) rfl ?_
              refine wl_val (at_move rfl) rfl ?_
              refine wl_off (t := 84) rfl (by decide) rfl ?_
              refine wl_off (t := 84) rfl (by decide) rfl ?_
              refine wl_off (t := 84) rfl (by decide) rfl ?_
              refine wl_off (t := 84) rfl (by decide) rfl ?_
              refine wl_off (t := 84) rfl (by decide) rfl ?_
              refine wl_val (at_pick_t rfl rfl) rfl ?_
              refine wl_val (at_move rfl) rfl ?_
              refine wl_off (t := 91) rfl (by decide) rfl ?_
              refine wl_off (t := 91) rfl (by decide) rfl ?_
              refine wl_off (t := 91) rfl (by decide) rfl ?_
              refine wl_off (t := 91) rfl (by decide) rfl ?_
              refine wl_off (t := 91) rfl (by decide) rfl ?_
              refine wl_val (at_pick_t rfl rfl) rfl ?_
              refine wl_nil ?_
              exact wk_prune [(0, .slice a0.a a0.n a0.c), (1, .string a1), (9, .int .i64 s7.1), (13, .string x30), (14, .pointer x34), (97, .bool true)] ⟨rfl, rfl, rfl, rfl, rfl, rfl, trivial⟩ (fun f1 => hJ36 (true) _ f1 h so)
            · refine wl_set (t := 78) (v := .bool false) (congrArg Value.bool hb) ?_; clear hb
              refine wl_on (t := 78) rfl (by decide) rfl ?_
              refine wl_val (at_move rfl) rfl ?_
              refine wl_on (t := 78) rfl (by decide) rfl ?_
              refine wl_callF (bits_Sink_Len.calls _ _ _ h) enter11 rfl trivial so ?_; intro x74 w75 h so
              refine wl_on (t := 78) rfl (by decide) rfl ?_
              refine wl_val (at_rem rfl rfl (by decide)) rfl ?_
              refine wl_on (t := 78) rfl (by decide) rfl ?_
              refine wl_val (at_neq rfl rfl) rfl ?_
              refine wl_val (at_pick_f rfl rfl) rfl ?_
              refine wl_val (at_move rfl) rfl ?_
              refine bif_ h (fun hb h => ?_) (fun hb h => ?_)
              · refine wl_set (t := 84) (v := .bool true) (congrArg Value.bool hb) ?_; clear hb
                refine wl_off (t := 84) rfl (by decide) rfl ?_
                refine wl_off (t := 84) rfl (by decide) rfl ?_
                refine wl_off (t := 84) rfl (by decide) rfl ?_
                refine wl_off (t := 84) rfl (by decide) rfl ?_
                refine wl_off (t := 84) rfl (by decide) rfl ?_
                refine wl_val (at_pick_t rfl rfl) rfl ?_
                refine wl_val (at_move rfl) rfl ?_
                refine wl_off (t := 91) rfl (by decide) rfl ?_
                refine wl_off (t := 91) rfl (by decide) rfl ?_
                refine wl_off (t := 91) rfl (by decide) rfl ?_
                refine wl_off (t := 91) rfl (by decide) rfl ?_
                refine wl_off (t := 91) rfl (by decide) rfl ?_
                refine wl_val (at_pick_t rfl rfl) rfl ?_
                refine wl_nil ?_
                exact wk_prune [(0, .slice a0.a a0.n a0.c), (1, .string a1), (9, .int .i64 s7.1), (13, .string x30), (14, .pointer x34), (97, .bool true)] ⟨rfl, rfl, rfl, rfl, rfl, rfl, trivial⟩ (fun f1 => hJ36 (true) _ f1 h so)
              · refine wl_set (t := 84) (v := .bool false) (congrArg Value.bool hb) ?_; clear hb
                refine wl_on (t := 84) rfl (by decide) rfl ?_
                refine wl_val (at_move rfl) rfl ?_
                refine wl_on (t := 84) rfl (by decide) rfl ?_
                refine wl_callF (bits_Source_Left.calls _ _ _ h) enter20 rfl trivial so ?_; intro x76 w77 h so
                refine wl_on (t := 84) rfl (by decide) rfl ?_
                refine wl_val (at_move rfl) rfl ?_
                refine wl_on (t := 84) rfl (by decide) rfl ?_
                refine wl_callF (bits_Sink_Len.calls _ _ _ h) enter11 rfl trivial so ?_; intro x78 w79 h so
                refine wl_on (t := 84) rfl (by decide) rfl ?_
                refine wl_val (at_neq rfl rfl) rfl ?_
                refine wl_val (at_pick_f rfl rfl) rfl ?_
                refine wl_val (at_move rfl) rfl ?_
                refine bif_ h (fun hb h => ?_) (fun hb h => ?_)
                · refine wl_set (t := 91) (v := .bool true) (congrArg Value.bool hb) ?_; clear hb
                  refine wl_off (t := 91) rfl (by decide) rfl ?_
                  refine wl_off (t := 91) rfl (by decide) rfl ?_
                  refine wl_off (t := 91) rfl (by decide) rfl ?_
                  refine wl_off (t := 91) rfl (by decide) rfl ?_
                  refine wl_off (t := 91) rfl (by decide) rfl ?_
                  refine wl_val (at_pick_t rfl rfl) rfl ?_
                  refine wl_nil ?_
                  exact wk_prune [(0, .slice a0.a a0.n a0.c), (1, .string a1), (9, .int .i64 s7.1), (13, .string x30), (14, .pointer x34), (97, .bool true)] ⟨rfl, rfl, rfl, rfl, rfl, rfl, trivial⟩ (fun f1 => hJ36 (true) _ f1 h so)
                · refine wl_set (t := 91) (v := .bool false) (congrArg Value.bool hb) ?_; clear hb
                  refine wl_on (t := 91) rfl (by decide) rfl ?_
                  refine wl_val (at_move rfl) rfl ?_
                  refine wl_on (t := 91) rfl (by decide) rfl ?_
                  refine wl_callF (bits_Sink_Len.calls _ _ _ h) enter11 rfl trivial so ?_; intro x80 w81 h so
                  refine wl_on (t := 91) rfl (by decide) rfl ?_
                  refine wl_val (at_move rfl) rfl ?_
                  refine wl_on (t := 91) rfl (by decide) rfl ?_
                  refine wl_val (at_add rfl rfl) rfl ?_
                  refine wl_on (t := 91) rfl (by decide) rfl ?_
                  refine wl_val (at_geq rfl rfl) rfl ?_
                  refine wl_val (at_pick_f rfl rfl) rfl ?_
                  refine wl_nil ?_
                  exact wk_prune [(0, .slice a0.a a0.n a0.c), (1, .string a1), (9, .int .i64 s7.1), (13, .string x30), (14, .pointer x34), (97, .bool (decide ((IntKind.wrap .i64 (s7.1 + 8)) ≤ x80)))] ⟨rfl, rfl, rfl, rfl, rfl, rfl, trivial⟩ (fun f1 => hJ36 ((decide ((IntKind.wrap .i64 (s7.1 + 8)) ≤ x80))) _ f1 h so)
      · intro J25 h hJ25
        refine wc_region ?_
        refine wl_val (at_move rfl) rfl ?_
        refine wl_val (at_not rfl) rfl ?_
        refine wl_val (at_move rfl) rfl ?_
        refine bif_ h (fun hb h => ?_) (fun hb h => ?_)
        · refine wl_set (t := 53) (v := .bool true) (congrArg Value.bool hb) ?_; clear hb
          refine wl_off (t := 53) rfl (by decide) rfl ?_
          refine wl_off (t := 53) rfl (by decide) rfl ?_
          refine wl_off (t := 53) rfl (by decide) rfl ?_
          refine wl_off (t := 53) rfl (by decide) rfl ?_
          refine wl_val (at_pick_t rfl rfl) rfl ?_
          refine wl_nil ?_
          exact wk_prune [(0, .slice a0.a a0.n a0.c), (1, .string a1), (2, .string a2), (8, .pointer x3), (9, .int .i64 s7.1), (58, .bool true)] ⟨rfl, rfl, rfl, rfl, rfl, rfl, trivial⟩ (fun f1 => hJ25 (true) _ f1 h so)
        · refine wl_set (t := 53) (v := .bool false) (congrArg Value.bool hb) ?_; clear hb
          refine wl_on (t := 53) rfl (by decide) rfl ?_
          refine wl_val (at_move rfl) rfl ?_
          refine wl_on (t := 53) rfl (by decide) rfl ?_
          refine wl_callF (bits_Sink_Len.calls _ _ _ h) enter11 rfl trivial so ?_; intro x82 w83 h so
          refine wl_on (t := 53) rfl (by decide) rfl ?_
          refine wl_val (at_move rfl) rfl ?_
          refine wl_on (t := 53) rfl (by decide) rfl ?_
          refine wl_val (at_neq rfl rfl) rfl ?_
          refine wl_val (at_pick_f rfl rfl) rfl ?_
          refine wl_nil ?_
          exact wk_prune [(0, .slice a0.a a0.n a0.c), (1, .string a1), (2, .string a2), (8, .pointer x3), (9, .int .i64 s7.1), (58, .bool (x82 != s7.1))] ⟨rfl, rfl, rfl, rfl, rfl, rfl, trivial⟩ (fun f1 => hJ25 ((x82 != s7.1)) _ f1 h so)
end Go.Proofs.Ytcjmcmkohfaleaa.G
