import Derived.Test.YtcjmcmkohfaleaaGF
import Derived.Test.YtcjmcmkohfaleaaKbits
import Derived.Test.YtcjmcmkohfaleaaKmosaiclaw01
namespace Go.Proofs.Ytcjmcmkohfaleaa.G
open Go.RowKit
set_option linter.unusedVariables false
set_option linter.unusedSimpArgs false
/-- mosaic/mosaiclaw01.BitsStop -/
def mosaiclaw01_BitsStop.enc : Bool → Value := fun r => .bool r
def mosaiclaw01_BitsStop.s (a0 : ByteArray) (a1 : Int) (a2 : ByteArray) (a3 : ByteArray) (a4 : Sl) (H0 : Hp) (Q : Bool → Hp → Prop) : Prop :=
  mosaiclaw01_alive.s H0 (fun x1 H2 => if (a1 == 0) = true then (Q x1 H2) else (nw H2 5 [.int .u8 255, .int .u8 a1] (fun p3 H4 => ∃ b7 : ByteArray, 2 = b7.size ∧ rdS H4 (some p3) (byteCells b7) ∧ (a0.size + b7.size ≤ 9223372036854775807 ∧ (a3.size + a0.size ≤ 9223372036854775807 ∧ ((a3 ++ a0).size + b7.size ≤ 9223372036854775807 ∧ (((a3 ++ a0) ++ b7).size + a2.size ≤ 9223372036854775807 ∧ (bits_Open.s (a0 ++ b7) 0 ((a0 ++ b7).size : Int) H4 (fun x14 H15 => bits_Open.s (((a3 ++ a0) ++ b7) ++ a2) (a3.size : Int) ((((a3 ++ a0) ++ b7) ++ a2).size : Int) H15 (fun x16 H17 => Join (fun (s19 : Bool) (H20 : Hp) => if s19 = true then (Q false H20) else (∃ k21, Fix (fun (rec26 : Int → Hp → Prop) (s23 : Int) (H24 : Hp) => if decide (s23 < (a4.n : Int)) = true then (0 ≤ s23 ∧ s23 < (a4.n : Int) ∧ someA a4.a (fun p29 => ldI .i64 H24 (p29.add (Int.toNat s23 * 1)) (fun x31 => mosaiclaw01_clip.s x31 H24 (fun x33 H34 => bits_Source_Peek.s x14 x33 H34 (fun x35 H36 => bits_Source_Peek.s x16 x33 H36 (fun x37 H38 => bits_Source_Next.s x14 x33 H38 (fun x39 H40 => bits_Source_Next.s x16 x33 H40 (fun x41 H42 => Join (fun (s44 : Bool) (H45 : Hp) => if s44 = true then (Q false H45) else (rec26 ((IntKind.wrap .i64 (s23 + 1))) H45)) (fun (J43 : Bool → Hp → Prop) => if (x35.1 != x37.1) = true then (J43 (true) H42) else (if (!(x35.2 == x37.2)) = true then (J43 (true) H42) else (if (x39.1 != x41.1) = true then (J43 (true) H42) else (if (!(x39.2 == x41.2)) = true then (J43 (true) H42) else (bits_Source_At.s x14 H42 (fun x46 H47 => bits_Source_At.s x16 H47 (fun x48 H49 => if ((IntKind.wrap .i64 (x46 + (a3.size : Int))) != x48) = true then (J43 (true) H49) else (bits_Source_Padded.s x14 H49 (fun x50 H51 => bits_Source_Padded.s x16 H51 (fun x52 H53 => if (!(x50 == x52)) = true then (J43 (true) H53) else (bits_Source_Used.s x14 H53 (fun x54 H55 => bits_Source_Used.s x16 H55 (fun x56 H57 => J43 ((x54 != x56)) H57))))))))))))))))))))) else (bits_Source_Left.s x14 H24 (fun x58 H59 => bits_Source_Left.s x16 H59 (fun x60 H61 => Q (x58 == x60) H61)))) k21 (0) H20)) (fun (J18 : Bool → Hp → Prop) => if (!x1) = true then (J18 (true) H17) else (if x14.isNone = true then (J18 (true) H17) else (if x16.isNone = true then (J18 (true) H17) else (bits_Source_Left.s x14 H17 (fun x62 H63 => bits_Source_Left.s x16 H63 (fun x64 H65 => J18 ((x62 != x64)) H65))))))))))))))))
set_option maxRecDepth 20000 in
set_option maxHeartbeats 4000000 in
theorem mosaiclaw01_BitsStop.calls (a0 : ByteArray) (a1 : Int) (a2 : ByteArray) (a3 : ByteArray) (a4 : Sl) (w0 : World) (Q : Bool → Hp → Prop) (h : mosaiclaw01_BitsStop.s a0 a1 a2 a3 a4 w0.heap Q) :
    Ca Try.prog 6 #[.string a0, .int .u8 a1, .string a2, .string a3, .slice a4.a a4.n a4.c] w0 (Rt mosaiclaw01_BitsStop.enc Q w0) := by
  refine ca_start (c := _) Try.func6 rfl Try.ntmps6 rfl ?_
  have so : Sm w0 w0 := Sm.refl w0
  unfold mosaiclaw01_BitsStop.s at h
  refine wc_prune [(0, .string a0), (1, .int .u8 a1), (2, .string a2), (3, .string a3), (4, .slice a4.a a4.n a4.c)] ⟨rfl, rfl, rfl, rfl, rfl, trivial⟩ (fun f1 => ?_)
  refine wc_seq ?_
  refine wc_region ?_
  refine wl_val (at_assign rfl) rfl ?_
  refine wl_nil ?_
  refine wk_prune [(0, .string a0), (1, .int .u8 a1), (2, .string a2), (3, .string a3), (4, .slice a4.a a4.n a4.c)] ⟨rfl, rfl, rfl, rfl, rfl, trivial⟩ (fun f1 => ?_)
  refine wk_then ?_
  refine wc_seq ?_
  refine wc_region ?_
  refine wl_callF (mosaiclaw01_alive.calls _ _ h) enter19 rfl trivial so ?_; intro x1 w2 h so
  refine wl_val (at_assign rfl) rfl ?_
  refine wl_nil ?_
  refine wk_prune [(0, .string a0), (1, .int .u8 a1), (2, .string a2), (3, .string a3), (4, .slice a4.a a4.n a4.c), (11, .bool x1)] ⟨rfl, rfl, rfl, rfl, rfl, rfl, trivial⟩ (fun f1 => ?_)
  refine wk_then ?_
  refine wc_seq ?_
  refine wc_seq ?_
  refine wc_region ?_
  refine wl_val (at_move rfl) rfl ?_
  refine wl_val (at_eql rfl rfl) rfl ?_
  refine wl_nil ?_
  refine wk_prune [(0, .string a0), (1, .int .u8 a1), (2, .string a2), (3, .string a3), (4, .slice a4.a a4.n a4.c), (11, .bool x1), (29, .bool (a1 == 0))] ⟨rfl, rfl, rfl, rfl, rfl, rfl, rfl, trivial⟩ (fun f1 => ?_)
  refine wk_then ?_
  refine wc_cond rfl h (fun h => ?_) (fun h => ?_)
  · refine wc_seq ?_
    refine wc_region ?_
    refine wl_val (at_move rfl) rfl ?_
    refine wl_val (at_assign rfl) rfl ?_
    refine wl_nil ?_
    refine wk_prune [(10, .bool x1)] ⟨rfl, trivial⟩ (fun f1 => ?_)
    refine wk_then ?_
    refine wc_ret ?_
    refine wk_thenR ?_
    exact wk_ret1 (x := x1) rfl (by decide) rfl so h
  · refine wc_skip ?_
    refine wk_prune [(0, .string a0), (1, .int .u8 a1), (2, .string a2), (3, .string a3), (4, .slice a4.a a4.n a4.c), (11, .bool x1)] ⟨rfl, rfl, rfl, rfl, rfl, rfl, trivial⟩ (fun f1 => ?_)
    refine wk_then ?_
    refine wc_seq ?_
    refine wc_region ?_
    refine wl_val (at_move rfl) rfl ?_
    obtain ⟨i6, i6a, i6b, i6c, i6d⟩ := info5
    refine wl_newS (ef_buildSlice (cs := [.int .u8 255, .int .u8 a1]) (ps := [(0, .int .u8 255), (1, .int .u8 a1)]) Try.underlying49 i6a i6b rfl (by rw [i6c]; decide) (by rw [i6c]; exact fill_full (vs := [.int .u8 255, .int .u8 a1]) rfl (by simp [Value.cells]) (by simp [Value.cells]) rfl (by simp))) rfl so (ones_cons rfl (ones_cons rfl ones_nil)) h ?_; intro p3 w4 h r5 so
    obtain ⟨b7, q8, q9, h⟩ := h
    refine wl_val (at_str (s := ⟨(some p3), 2, 2⟩) Try.underlying49 Try.underlying9 Try.underlying5 rfl q8 q9) rfl ?_
    refine wl_val (at_assign rfl) rfl ?_
    refine wl_nil ?_
    refine wk_prune [(0, .string a0), (2, .string a2), (3, .string a3), (4, .slice a4.a a4.n a4.c), (11, .bool x1), (12, .string b7)] ⟨rfl, rfl, rfl, rfl, rfl, rfl, trivial⟩ (fun f1 => ?_)
    refine wk_then ?_
    refine wc_seq ?_
    refine wc_region ?_
    refine wl_val (at_move rfl) rfl ?_
    refine wl_val (at_move rfl) rfl ?_
    obtain ⟨q10, h⟩ := h
    refine wl_val (at_cat rfl rfl q10) rfl ?_
    refine wl_val (at_assign rfl) rfl ?_
    refine wl_nil ?_
    refine wk_prune [(0, .string a0), (2, .string a2), (3, .string a3), (4, .slice a4.a a4.n a4.c), (11, .bool x1), (12, .string b7), (13, .string (a0 ++ b7))] ⟨rfl, rfl, rfl, rfl, rfl, rfl, rfl, trivial⟩ (fun f1 => ?_)
    refine wk_then ?_
    refine wc_seq ?_
    refine wc_region ?_
    refine wl_val (at_move rfl) rfl ?_
    refine wl_val (at_move rfl) rfl ?_
    obtain ⟨q11, h⟩ := h
    refine wl_val (at_cat rfl rfl q11) rfl ?_
    refine wl_val (at_move rfl) rfl ?_
    obtain ⟨q12, h⟩ := h
    refine wl_val (at_cat rfl rfl q12) rfl ?_
    refine wl_val (at_move rfl) rfl ?_
    obtain ⟨q13, h⟩ := h
    refine wl_val (at_cat rfl rfl q13) rfl ?_
    refine wl_val (at_assign rfl) rfl ?_
    refine wl_nil ?_
    refine wk_prune [(3, .string a3), (4, .slice a4.a a4.n a4.c), (11, .bool x1), (13, .string (a0 ++ b7)), (14, .string (((a3 ++ a0) ++ b7) ++ a2))] ⟨rfl, rfl, rfl, rfl, rfl, trivial⟩ (fun f1 => ?_)
    refine wk_then ?_
    refine wc_seq ?_
    refine wc_region ?_
    refine wl_val (at_move rfl) rfl ?_
    refine wl_val (at_move rfl) rfl ?_
    refine wl_val (at_lenS Try.underlying9 rfl) rfl ?_
    refine wl_callF (bits_Open.calls _ _ _ _ _ h) enter15 rfl trivial so ?_; intro x14 w15 h so
    refine wl_val (at_assign rfl) rfl ?_
    refine wl_nil ?_
    refine wk_prune [(3, .string a3), (4, .slice a4.a a4.n a4.c), (11, .bool x1), (14, .string (((a3 ++ a0) ++ b7) ++ a2)), (15, .pointer x14)] ⟨rfl, rfl, rfl, rfl, rfl, trivial⟩ (fun f1 => ?_)
    refine wk_then ?_
    refine wc_seq ?_
    refine wc_region ?_
    refine wl_val (at_move rfl) rfl ?_
    refine wl_val (at_move rfl) rfl ?_
    refine wl_val (at_lenS Try.underlying9 rfl) rfl ?_
    refine wl_val (at_move rfl) rfl ?_
    refine wl_val (at_lenS Try.underlying9 rfl) rfl ?_
    refine wl_callF (bits_Open.calls _ _ _ _ _ h) enter15 rfl trivial so ?_; intro x16 w17 h so
    refine wl_val (at_assign rfl) rfl ?_
    refine wl_nil ?_
    refine wk_prune [(3, .string a3), (4, .slice a4.a a4.n a4.c), (11, .bool x1), (15, .pointer x14), (16, .pointer x16)] ⟨rfl, rfl, rfl, rfl, rfl, trivial⟩ (fun f1 => ?_)
    refine wk_then ?_
    refine wc_seq ?_
    refine wc_seq ?_
    refine wc_join (w0 := w0) (fun (s19 : Bool) => [(3, .string a3), (4, .slice a4.a a4.n a4.c), (15, .pointer x14), (16, .pointer x16), (70, .bool s19)]) h ?_ ?_
    · rintro s19 w20 f1 h so; refine wk_then ?_
      refine wc_cond rfl h (fun h => ?_) (fun h => ?_)
      · refine wc_seq ?_
        refine wc_region ?_
        refine wl_val (at_assign rfl) rfl ?_
        refine wl_nil ?_
        refine wk_prune [(10, .bool false)] ⟨rfl, trivial⟩ (fun f1 => ?_)
        refine wk_then ?_
        refine wc_ret ?_
        refine wk_thenR ?_
        exact wk_ret1 (x := false) rfl (by decide) rfl so h
      · refine wc_skip ?_
        refine wk_prune [(3, .string a3), (4, .slice a4.a a4.n a4.c), (15, .pointer x14), (16, .pointer x16)] ⟨rfl, rfl, rfl, rfl, trivial⟩ (fun f1 => ?_)
        refine wk_then ?_
        refine wc_seq ?_
        refine wc_seq ?_
        refine wc_region ?_
        refine wl_val (at_assign rfl) rfl ?_
        refine wl_nil ?_
        refine wk_prune [(3, .string a3), (4, .slice a4.a a4.n a4.c), (15, .pointer x14), (16, .pointer x16), (17, .int .i64 0)] ⟨rfl, rfl, rfl, rfl, rfl, trivial⟩ (fun f1 => ?_)
        refine wk_then ?_
        refine wc_block ?_
        obtain ⟨k21, h⟩ := h
        refine wc_loop (fun k a w => ∃ (s23 : Int) (f1 : Nat → Value), a = ac 153 (en f1 [(3, .string a3), (4, .slice a4.a a4.n a4.c), (15, .pointer x14), (16, .pointer x16), (17, .int .i64 s23)]) [] ∧ Sm w0 w ∧ Fix _ k s23 w.heap) k21 ⟨(0), _, ac_again ⟨rfl, rfl, rfl, rfl, rfl, trivial⟩, so, h⟩ ?_
        rintro k22 a25 w24 ⟨s23, f1, rfl, so, h⟩
        rcases k22 with _ | k22
        · exact h.elim
        replace h := Fix.un h; refine wc_in ?_
        refine wc_seq ?_
        refine wc_seq ?_
        refine wc_region ?_
        refine wl_val (at_move rfl) rfl ?_
        refine wl_val (at_move rfl) rfl ?_
        refine wl_val (at_lenL Try.underlying48 rfl) rfl ?_
        refine wl_val (at_lss rfl rfl) rfl ?_
        refine wl_nil ?_
        refine wk_prune [(3, .string a3), (4, .slice a4.a a4.n a4.c), (15, .pointer x14), (16, .pointer x16), (17, .int .i64 s23), (74, .bool (decide (s23 < (a4.n : Int))))] ⟨rfl, rfl, rfl, rfl, rfl, rfl, trivial⟩ (fun f1 => ?_)
        refine wk_then ?_
        refine wc_cond rfl h (fun h => ?_) (fun h => ?_)
        · refine wc_skip ?_
          refine wk_prune [(3, .string a3), (4, .slice a4.a a4.n a4.c), (15, .pointer x14), (16, .pointer x16), (17, .int .i64 s23)] ⟨rfl, rfl, rfl, rfl, rfl, trivial⟩ (fun f1 => ?_)
          refine wk_then ?_
          refine wc_seq ?_
          refine wc_block ?_
          refine wc_seq ?_
          refine wc_region ?_
          refine wl_val (at_move rfl) rfl ?_
          refine wl_val (at_move rfl) rfl ?_
          obtain ⟨q27, q28, p29, q30, h⟩ := h
          refine wl_val (at_ixAddrL Try.underlying48 sz3 (sl_some q30) rfl q27 q28) rfl ?_
          obtain ⟨x31, q32, h⟩ := h
          refine wl_val (at_load Try.underlying3 rfl rfl q32) rfl ?_
          refine wl_callF (mosaiclaw01_clip.calls _ _ _ h) enter23 rfl trivial so ?_; intro x33 w34 h so
          refine wl_val (at_assign rfl) rfl ?_
          refine wl_nil ?_
          refine wk_prune [(3, .string a3), (4, .slice a4.a a4.n a4.c), (15, .pointer x14), (16, .pointer x16), (17, .int .i64 s23), (18, .int .i64 x33)] ⟨rfl, rfl, rfl, rfl, rfl, rfl, trivial⟩ (fun f1 => ?_)
          refine wk_then ?_
          refine wc_seq ?_
          refine wc_region ?_
          refine wl_val (at_move rfl) rfl ?_
          refine wl_val (at_move rfl) rfl ?_
          refine wl_callF (bits_Source_Peek.calls _ _ _ _ h) enter24 rfl trivial so ?_; intro x35 w36 h so
          refine wl_val (at_move rfl) rfl ?_
          refine wl_val (at_extract rfl rfl) rfl ?_
          refine wl_val (at_extract rfl rfl) rfl ?_
          refine wl_val (at_assign rfl) rfl ?_
          refine wl_val (at_assign rfl) rfl ?_
          refine wl_nil ?_
          refine wk_prune [(3, .string a3), (4, .slice a4.a a4.n a4.c), (15, .pointer x14), (16, .pointer x16), (17, .int .i64 s23), (18, .int .i64 x33), (19, .int .i64 x35.1), (20, .bool x35.2)] ⟨rfl, rfl, rfl, rfl, rfl, rfl, rfl, rfl, trivial⟩ (fun f1 => ?_)
          refine wk_then ?_
          refine wc_seq ?_
          refine wc_region ?_
          refine wl_val (at_move rfl) rfl ?_
          refine wl_val (at_move rfl) rfl ?_
          refine wl_callF (bits_Source_Peek.calls _ _ _ _ h) enter24 rfl trivial so ?_; intro x37 w38 h so
          refine wl_val (at_move rfl) rfl ?_
          refine wl_val (at_extract rfl rfl) rfl ?_
          refine wl_val (at_extract rfl rfl) rfl ?_
          refine wl_val (at_assign rfl) rfl ?_
          refine wl_val (at_assign rfl) rfl ?_
          refine wl_nil ?_
          refine wk_prune [(3, .string a3), (4, .slice a4.a a4.n a4.c), (15, .pointer x14), (16, .pointer x16), (17, .int .i64 s23), (18, .int .i64 x33), (19, .int .i64 x35.1), (20, .bool x35.2), (21, .int .i64 x37.1), (22, .bool x37.2)] ⟨rfl, rfl, rfl, rfl, rfl, rfl, rfl, rfl, rfl, rfl, trivial⟩ (fun f1 => ?_)
          refine wk_then ?_
          refine wc_seq ?_
          refine wc_region ?_
          refine wl_val (at_move rfl) rfl ?_
          refine wl_val (at_move rfl) rfl ?_
          refine wl_callF (bits_Source_Next.calls _ _ _ _ h) enter25 rfl trivial so ?_; intro x39 w40 h so
          refine wl_val (at_move rfl) rfl ?_
          refine wl_val (at_extract rfl rfl) rfl ?_
          refine wl_val (at_extract rfl rfl) rfl ?_
          refine wl_val (at_assign rfl) rfl ?_
          refine wl_val (at_assign rfl) rfl ?_
          refine wl_nil ?_
          refine wk_prune [(3, .string a3), (4, .slice a4.a a4.n a4.c), (15, .pointer x14), (16, .pointer x16), (17, .int .i64 s23), (18, .int .i64 x33), (19, .int .i64 x35.1), (20, .bool x35.2), (21, .int .i64 x37.1), (22, .bool x37.2), (23, .int .i64 x39.1), (24, .bool x39.2)] ⟨rfl, rfl, rfl, rfl, rfl, rfl, rfl, rfl, rfl, rfl, rfl, rfl, trivial⟩ (fun f1 => ?_)
          refine wk_then ?_
          refine wc_seq ?_
          refine wc_region ?_
          refine wl_val (at_move rfl) rfl ?_
          refine wl_val (at_move rfl) rfl ?_
          refine wl_callF (bits_Source_Next.calls _ _ _ _ h) enter25 rfl trivial so ?_; intro x41 w42 h so
          refine wl_val (at_move rfl) rfl ?_
          refine wl_val (at_extract rfl rfl) rfl ?_
          refine wl_val (at_extract rfl rfl) rfl ?_
          refine wl_val (at_assign rfl) rfl ?_
          refine wl_val (at_assign rfl) rfl ?_
          refine wl_nil ?_
          refine wk_prune [(3, .string a3), (4, .slice a4.a a4.n a4.c), (15, .pointer x14), (16, .pointer x16), (17, .int .i64 s23), (19, .int .i64 x35.1), (20, .bool x35.2), (21, .int .i64 x37.1), (22, .bool x37.2), (23, .int .i64 x39.1), (24, .bool x39.2), (25, .int .i64 x41.1), (26, .bool x41.2)] ⟨rfl, rfl, rfl, rfl, rfl, rfl, rfl, rfl, rfl, rfl, rfl, rfl, rfl, trivial⟩ (fun f1 => ?_)
          refine wk_then ?_
          refine wc_seq ?_
          refine wc_join (w0 := w0) (fun (s44 : Bool) => [(3, .string a3), (4, .slice a4.a a4.n a4.c), (15, .pointer x14), (16, .pointer x16), (17, .int .i64 s23), (147, .bool s44)]) h ?_ ?_
          · rintro s44 w45 f1 h so; refine wk_then ?_
            refine wc_cond rfl h (fun h => ?_) (fun h => ?_)
            · refine wc_seq ?_
              refine wc_region ?_
              refine wl_val (at_assign rfl) rfl ?_
              refine wl_nil ?_
              refine wk_prune [(10, .bool false)] ⟨rfl, trivial⟩ (fun f1 => ?_)
              refine wk_then ?_
              refine wc_ret ?_
              refine wk_blkR ?_
              refine wk_thenR ?_
              refine wk_thenR ?_
              refine wk_blkR ?_
              refine wk_thenR ?_
              exact wk_ret1 (x := false) rfl (by decide) rfl so h
            · refine wc_skip ?_
              refine wk_blkN ?_
              refine wk_prune [(3, .string a3), (4, .slice a4.a a4.n a4.c), (15, .pointer x14), (16, .pointer x16), (17, .int .i64 s23)] ⟨rfl, rfl, rfl, rfl, rfl, trivial⟩ (fun f1 => ?_)
              refine wk_then ?_
              refine wc_region ?_
              refine wl_val (at_move rfl) rfl ?_
              refine wl_val (at_add rfl rfl) rfl ?_
              refine wl_val (at_assign rfl) rfl ?_
              refine wl_nil ?_
              exact wk_again ⟨((IntKind.wrap .i64 (s23 + 1))), _, ac_again ⟨rfl, rfl, rfl, rfl, rfl, trivial⟩, so, h⟩
          · intro J43 h hJ43
            refine wc_region ?_
            refine wl_val (at_move rfl) rfl ?_
            refine wl_val (at_move rfl) rfl ?_
            refine wl_val (at_neq rfl rfl) rfl ?_
            refine wl_val (at_move rfl) rfl ?_
            refine bif_ h (fun hb h => ?_) (fun hb h => ?_)
            · refine wl_set (t := 109) (v := .bool true) (congrArg Value.bool hb) ?_; clear hb
              refine wl_off (t := 109) rfl (by decide) rfl ?_
              refine wl_off (t := 109) rfl (by decide) rfl ?_
              refine wl_off (t := 109) rfl (by decide) rfl ?_
              refine wl_val (at_pick_t rfl rfl) rfl ?_
              refine wl_val (at_move rfl) rfl ?_
              refine wl_off (t := 114) rfl (by decide) rfl ?_
              refine wl_off (t := 114) rfl (by decide) rfl ?_
              refine wl_off (t := 114) rfl (by decide) rfl ?_
              refine wl_val (at_pick_t rfl rfl) rfl ?_
              refine wl_val (at_move rfl) rfl ?_
              refine wl_off (t := 119) rfl (by decide) rfl ?_
              refine wl_off (t := 119) rfl (by decide) rfl ?_
              refine wl_off (t := 119) rfl (by decide) rfl ?_
              refine wl_val (at_pick_t rfl rfl) rfl ?_
              refine wl_val (at_move rfl) rfl ?_
              refine wl_off (t := 124) rfl (by decide) rfl ?_
              refine wl_off (t := 124) rfl (by decide) rfl ?_
              refine wl_off (t := 124) rfl (by decide) rfl ?_
              refine wl_off (t := 124) rfl (by decide) rfl ?_
              refine wl_off (t := 124) rfl (by decide) rfl ?_
              refine wl_off (t := 124) rfl (by decide) rfl ?_
              refine wl_off (t := 124) rfl (by decide) rfl ?_
              refine wl_off (t := 124) rfl (by decide) rfl ?_
              refine wl_val (at_pick_t rfl rfl) rfl ?_
              refine wl_val (at_move rfl) rfl ?_
              refine wl_off (t := 134) rfl (by decide) rfl ?_
              refine wl_off (t := 134) rfl (by decide) rfl ?_
              refine wl_off (t := 134) rfl (by decide) rfl ?_
              refine wl_off (t := 134) rfl (by decide) rfl ?_
              refine wl_off (t := 134) rfl (by decide) rfl ?_
              refine wl_val (at_pick_t rfl rfl) rfl ?_
              refine wl_val (at_move rfl) rfl ?_
              refine wl_off (t := 141) rfl (by decide) rfl ?_
              refine wl_off (t := 141) rfl (by decide) rfl ?_
              refine wl_off (t := 141) rfl (by decide) rfl ?_
              refine wl_off (t := 141) rfl (by decide) rfl ?_
              refine wl_off (t := 141) rfl (by decide) rfl ?_
              refine wl_val (at_pick_t rfl rfl) rfl ?_
              refine wl_nil ?_
              exact wk_prune [(3, .string a3), (4, .slice a4.a a4.n a4.c), (15, .pointer x14), (16, .pointer x16), (17, .int .i64 s23), (147, .bool true)] ⟨rfl, rfl, rfl, rfl, rfl, rfl, trivial⟩ (fun f1 => hJ43 (true) _ f1 h so)
            · refine wl_set (t := 109) (v := .bool false) (congrArg Value.bool hb) ?_; clear hb
              refine wl_on (t := 109) rfl (by decide) rfl ?_
              refine wl_val (at_move rfl) rfl ?_
              refine wl_on (t := 109) rfl (by decide) rfl ?_
              refine wl_val (at_move rfl) rfl ?_
              refine wl_on (t := 109) rfl (by decide) rfl ?_
              refine wl_val (at_neqB Try.underlying4 rfl rfl) rfl ?_
              refine wl_val (at_pick_f rfl rfl) rfl ?_
              refine wl_val (at_move rfl) rfl ?_
              refine bif_ h (fun hb h => ?_) (fun hb h => ?_)
              · refine wl_set (t := 114) (v := .bool true) (congrArg Value.bool hb) ?_; clear hb
                refine wl_off (t := 114) rfl (by decide) rfl ?_
                refine wl_off (t := 114) rfl (by decide) rfl ?_
                refine wl_off (t := 114) rfl (by decide) rfl ?_
                refine wl_val (at_pick_t rfl rfl) rfl ?_
                refine wl_val (at_move rfl) rfl ?_
                refine wl_off (t := 119) rfl (by decide) rfl ?_
                refine wl_off (t := 119) rfl (by decide) rfl ?_
                refine wl_off (t := 119) rfl (by decide) rfl ?_
                refine wl_val (at_pick_t rfl rfl) rfl ?_
                refine wl_val (at_move rfl) rfl ?_
                refine wl_off (t := 124) rfl (by decide) rfl ?_
                refine wl_off (t := 124) rfl (by decide) rfl ?_
                refine wl_off (t := 124) rfl (by decide) rfl ?_
                refine wl_off (t := 124) rfl (by decide) rfl ?_
                refine wl_off (t := 124) rfl (by decide) rfl ?_
                refine wl_off (t := 124) rfl (by decide) rfl ?_
                refine wl_off (t := 124) rfl (by decide) rfl ?_
                refine wl_off (t := 124) rfl (by decide) rfl ?_
                refine wl_val (at_pick_t rfl rfl) rfl ?_
                refine wl_val (at_move rfl) rfl ?_
                refine wl_off (t := 134) rfl (by decide) rfl ?_
                refine wl_off (t := 134) rfl (by decide) rfl ?_
                refine wl_off (t := 134) rfl (by decide) rfl ?_
                refine wl_off (t := 134) rfl (by decide) rfl ?_
                refine wl_off (t := 134) rfl (by decide) rfl ?_
                refine wl_val (at_pick_t rfl rfl) rfl ?_
                refine wl_val (at_move rfl) rfl ?_
                refine wl_off (t := 141) rfl (by decide) rfl ?_
                refine wl_off (t := 141) rfl (by decide) rfl ?_
                refine wl_off (t := 141) rfl (by decide) rfl ?_
                refine wl_off (t := 141) rfl (by decide) rfl ?_
                refine wl_off (t := 141) rfl (by decide) rfl ?_
                refine wl_val (at_pick_t rfl rfl) rfl ?_
                refine wl_nil ?_
                exact wk_prune [(3, .string a3), (4, .slice a4.a a4.n a4.c), (15, .pointer x14), (16, .pointer x16), (17, .int .i64 s23), (147, .bool true)] ⟨rfl, rfl, rfl, rfl, rfl, rfl, trivial⟩ (fun f1 => hJ43 (true) _ f1 h so)
              · refine wl_set (t := 114) (v := .bool false) (congrArg Value.bool hb) ?_; clear hb
                refine wl_on (t := 114) rfl (by decide) rfl ?_
                refine wl_val (at_move rfl) rfl ?_
                refine wl_on (t := 114) rfl (by decide) rfl ?_
                refine wl_val (at_move rfl) rfl ?_
                refine wl_on (t := 114) rfl (by decide) rfl ?_
                refine wl_val (at_neq rfl rfl) rfl ?_
                refine wl_val (at_pick_f rfl rfl) rfl ?_
                refine wl_val (at_move rfl) rfl ?_
                refine bif_ h (fun hb h => ?_) (fun hb h => ?_)
                · refine wl_set (t := 119) (v := .bool true) (congrArg Value.bool hb) ?_; clear hb
                  refine wl_off (t := 119) rfl (by decide) rfl ?_
                  refine wl_off (t := 119) rfl (by decide) rfl ?_
                  refine wl_off (t := 119) rfl (by decide) rfl ?_
                  refine wl_val (at_pick_t rfl rfl) rfl ?_
                  refine wl_val (at_move rfl) rfl ?_
                  refine wl_off (t := 124) rfl (by decide) rfl ?_
                  refine wl_off (t := 124) rfl (by decide) rfl ?_
                  refine wl_off (t := 124) rfl (by decide) rfl ?_
                  refine wl_off (t := 124) rfl (by decide) rfl ?_
                  refine wl_off (t := 124) rfl (by decide) rfl ?_
                  refine wl_off (t := 124) rfl (by decide) rfl ?_
                  refine wl_off (t := 124) rfl (by decide) rfl ?_
                  refine wl_off (t := 124) rfl (by decide) rfl ?_
                  refine wl_val (at_pick_t rfl rfl) rfl ?_
                  refine wl_val (at_move rfl) rfl ?_
                  refine wl_off (t := 134) rfl (by decide) rfl ?_
                  refine wl_off (t := 134) rfl (by decide) rfl ?_
                  refine wl_off (t := 134) rfl (by decide) rfl ?_
                  refine wl_off (t := 134) rfl (by decide) rfl ?_
                  refine wl_off (t := 134) rfl (by decide) rfl ?_
                  refine wl_val (at_pick_t rfl rfl) rfl ?_
                  refine wl_val (at_move rfl) rfl ?_
                  refine wl_off (t := 141) rfl (by decide) rfl ?_
                  refine wl_off (t := 141) rfl (by decide) rfl ?_
                  refine wl_off (t := 141) rfl (by decide) rfl ?_
                  refine wl_off (t := 141) rfl (by decide) rfl ?_
                  refine wl_off (t := 141) rfl (by decide) rfl ?_
                  refine wl_val (at_pick_t rfl rfl) rfl ?_
                  refine wl_nil ?_
                  exact wk_prune [(3, .string a3), (4, .slice a4.a a4.n a4.c), (15, .pointer x14), (16, .pointer x16), (17, .int .i64 s23), (147, .bool true)] ⟨rfl, rfl, rfl, rfl, rfl, rfl, trivial⟩ (fun f1 => hJ43 (true) _ f1 h so)
                · refine wl_set (t := 119) (v := .bool false) (congrArg Value.bool hb) ?_; clear hb
                  refine wl_on (t := 119) rfl (by decide) rfl ?_
                  refine wl_val (at_move rfl) rfl ?_
                  refine wl_on (t := 119) rfl (by decide) rfl ?_
                  refine wl_val (at_move rfl) rfl ?_
                  refine wl_on (t := 119) rfl (by decide) rfl ?_
                  refine wl_val (at_neqB Try.underlying4 rfl rfl) rfl ?_
                  refine wl_val (at_pick_f rfl rfl) rfl ?_
                  refine wl_val (at_move rfl) rfl ?_
                  refine bif_ h (fun hb h => ?_) (fun hb h => ?_)
                  · refine wl_set (t := 124) (v := .bool true) (congrArg Value.bool hb) ?_; clear hb
                    refine wl_off (t := 124) rfl (by decide) rfl ?_
                    refine wl_off (t := 124) rfl (by decide) rfl ?_
                    refine wl_off (t := 124) rfl (by decide) rfl ?_
                    refine wl_off (t := 124) rfl (by decide) rfl ?_
                    refine wl_off (t := 124) rfl (by decide) rfl ?_
                    refine wl_off (t := 124) rfl (by decide) rfl ?_
                    refine wl_off (t := 124) rfl (by decide) rfl ?_
                    refine wl_off (t := 124) rfl (by decide) rfl ?_
                    refine wl_val (at_pick_t rfl rfl) rfl ?_
                    refine wl_val (at_move rfl) rfl ?_
                    refine wl_off (t := 134) rfl (by decide) rfl ?_
                    refine wl_off (t := 134) rfl (by decide) rfl ?_
                    refine wl_off (t := 134) rfl (by decide) rfl ?_
                    refine wl_off (t := 134) rfl (by decide) rfl ?_
                    refine wl_off (t := 134) rfl (by decide) rfl ?_
                    refine wl_val (at_pick_t rfl rfl) rfl ?_
                    refine wl_val (at_move rfl) rfl ?_
                    refine wl_off (t := 141) rfl (by decide) rfl ?_
                    refine wl_off (t := 141) rfl (by decide) rfl ?_
                    refine wl_off (t := 141) rfl (by decide) rfl ?_
                    refine wl_off (t := 141) rfl (by decide) rfl ?_
                    refine wl_off (t := 141) rfl (by decide) rfl ?_
                    refine wl_val (at_pick_t rfl rfl) rfl ?_
                    refine wl_nil ?_
                    exact wk_prune [(3, .string a3), (4, .slice a4.a a4.n a4.c), (15, .pointer x14), (16, .pointer x16), (17, .int .i64 s23), (147, .bool true)] ⟨rfl, rfl, rfl, rfl, rfl, rfl, trivial⟩ (fun f1 => hJ43 (true) _ f1 h so)
                  · refine wl_set (t := 124) (v := .bool false) (congrArg Value.bool hb) ?_; clear hb
                    refine wl_on (t := 124) rfl (by decide) rfl ?_
                    refine wl_val (at_move rfl) rfl ?_
                    refine wl_on (t := 124) rfl (by decide) rfl ?_
                    refine wl_callF (bits_Source_At.calls _ _ _ h) enter26 rfl trivial so ?_; intro x46 w47 h so
                    refine wl_on (t := 124) rfl (by decide) rfl ?_
                    refine wl_val (at_move rfl) rfl ?_
                    refine wl_on (t := 124) rfl (by decide) rfl ?_
                    refine wl_val (at_lenS Try.underlying9 rfl) rfl ?_
                    refine wl_on (t := 124) rfl (by decide) rfl ?_
                    refine wl_val (at_add rfl rfl) rfl ?_
                    refine wl_on (t := 124) rfl (by decide) rfl ?_
                    refine wl_val (at_move rfl) rfl ?_
                    refine wl_on (t := 124) rfl (by decide) rfl ?_
                    refine wl_callF (bits_Source_At.calls _ _ _ h) enter26 rfl trivial so ?_; intro x48 w49 h so
                    refine wl_on (t := 124) rfl (by decide) rfl ?_
                    refine wl_val (at_neq rfl rfl) rfl ?_
                    refine wl_val (at_pick_f rfl rfl) rfl ?_
                    refine wl_val (at_move rfl) rfl ?_
                    refine bif_ h (fun hb h => ?_) (fun hb h => ?_)
                    · refine wl_set (t := 134) (v := .bool true) (congrArg Value.bool hb) ?_; clear hb
                      refine wl_off (t := 134) rfl (by decide) rfl ?_
                      refine wl_off (t := 134) rfl (by decide) rfl ?_
                      refine wl_off (t := 134) rfl (by decide) rfl ?_
                      refine wl_off (t := 134) rfl (by decide) rfl ?_
                      refine wl_off (t := 134) rfl (by decide) rfl ?_
                      refine wl_val (at_pick_t rfl rfl) rfl ?_
                      refine wl_val (at_move rfl) rfl ?_
                      refine wl_off (t := 141) rfl (by decide) rfl ?_
                      refine wl_off (t := 141) rfl (by decide) rfl ?_
                      refine wl_off (t := 141) rfl (by decide) rfl ?_
                      refine wl_off (t := 141) rfl (by decide) rfl ?_
                      refine wl_off (t := 141) rfl (by decide) rfl ?_
                      refine wl_val (at_pick_t rfl rfl) rfl ?_
                      refine wl_nil ?_
                      exact wk_prune [(3, .string a3), (4, .slice a4.a a4.n a4.c), (15, .pointer x14), (16, .pointer x16), (17, .int .i64 s23), (147, .bool true)] ⟨rfl, rfl, rfl, rfl, rfl, rfl, trivial⟩ (fun f1 => hJ43 (true) _ f1 h so)
                    · refine wl_set (t := 134) (v := .bool false) (congrArg Value.bool hb) ?_; clear hb
                      refine wl_on (t := 134) rfl (by decide) rfl ?_
                      refine wl_val (at_move rfl) rfl ?_
                      refine wl_on (t := 134) rfl (by decide) rfl ?_
                      refine wl_callF (bits_Source_Padded.calls _ _ _ h) enter27 rfl trivial so ?_; intro x50 w51 h so
                      refine wl_on (t := 134) rfl (by decide) rfl ?_
                      refine wl_val (at_move rfl) rfl ?_
                      refine wl_on (t := 134) rfl (by decide) rfl ?_
                      refine wl_callF (bits_Source_Padded.calls _ _ _ h) enter27 rfl trivial so ?_; intro x52 w53 h so
                      refine wl_on (t := 134) rfl (by decide) rfl ?_
                      refine wl_val (at_neqB Try.underlying4 rfl rfl) rfl ?_
                      refine wl_val (at_pick_f rfl rfl) rfl ?_
                      refine wl_val (at_move rfl) rfl ?_
                      refine bif_ h (fun hb h => ?_) (fun hb h => ?_)
                      · refine wl_set (t := 141) (v := .bool true) (congrArg Value.bool hb) ?_; clear hb
                        refine wl_off (t := 141) rfl (by decide) rfl ?_
                        refine wl_off (t := 141) rfl (by decide) rfl ?_
                        refine wl_off (t := 141) rfl (by decide) rfl ?_
                        refine wl_off (t := 141) rfl (by decide) rfl ?_
                        refine wl_off (t := 141) rfl (by decide) rfl ?_
                        refine wl_val (at_pick_t rfl rfl) rfl ?_
                        refine wl_nil ?_
                        exact wk_prune [(3, .string a3), (4, .slice a4.a a4.n a4.c), (15, .pointer x14), (16, .pointer x16), (17, .int .i64 s23), (147, .bool true)] ⟨rfl, rfl, rfl, rfl, rfl, rfl, trivial⟩ (fun f1 => hJ43 (true) _ f1 h so)
                      · refine wl_set (t := 141) (v := .bool false) (congrArg Value.bool hb) ?_; clear hb
                        refine wl_on (t := 141) rfl (by decide) rfl ?_
                        refine wl_val (at_move rfl) rfl ?_
                        refine wl_on (t := 141) rfl (by decide) rfl ?_
                        refine wl_callF (bits_Source_Used.calls _ _ _ h) enter22 rfl trivial so ?_; intro x54 w55 h so
                        refine wl_on (t := 141) rfl (by decide) rfl ?_
                        refine wl_val (at_move rfl) rfl ?_
                        refine wl_on (t := 141) rfl (by decide) rfl ?_
                        refine wl_callF (bits_Source_Used.calls _ _ _ h) enter22 rfl trivial so ?_; intro x56 w57 h so
                        refine wl_on (t := 141) rfl (by decide) rfl ?_
                        refine wl_val (at_neq rfl rfl) rfl ?_
                        refine wl_val (at_pick_f rfl rfl) rfl ?_
                        refine wl_nil ?_
                        exact wk_prune [(3, .string a3), (4, .slice a4.a a4.n a4.c), (15, .pointer x14), (16, .pointer x16), (17, .int .i64 s23), (147, .bool (x54 != x56))] ⟨rfl, rfl, rfl, rfl, rfl, rfl, trivial⟩ (fun f1 => hJ43 ((x54 != x56)) _ f1 h so)
        · refine wc_exit ?_
          refine wk_thenE ?_
          refine wk_thenE ?_
          refine wk_blkE ?_
          refine wk_prune [(15, .pointer x14), (16, .pointer x16)] ⟨rfl, rfl, trivial⟩ (fun f1 => ?_)
          refine wk_then ?_
          refine wc_seq ?_
          refine wc_region ?_
          refine wl_val (at_move rfl) rfl ?_
          refine wl_callF (bits_Source_Left.calls _ _ _ h) enter20 rfl trivial so ?_; intro x58 w59 h so
          refine wl_val (at_move rfl) rfl ?_
          refine wl_callF (bits_Source_Left.calls _ _ _ h) enter20 rfl trivial so ?_; intro x60 w61 h so
          refine wl_val (at_eql rfl rfl) rfl ?_
          refine wl_val (at_assign rfl) rfl ?_
          refine wl_nil ?_
          refine wk_prune [(10, .bool (x58 == x60))] ⟨rfl, trivial⟩ (fun f1 => ?_)
          refine wk_then ?_
          refine wc_ret ?_
          exact wk_ret1 (x := (x58 == x60)) rfl (by decide) rfl so h
    · intro J18 h hJ18
      refine wc_region ?_
      refine wl_val (at_move rfl) rfl ?_
      refine wl_val (at_not rfl) rfl ?_
      refine wl_val (at_move rfl) rfl ?_
      refine bif_ h (fun hb h => ?_) (fun hb h => ?_)
      · refine wl_set (t := 56) (v := .bool true) (congrArg Value.bool hb) ?_; clear hb
        refine wl_off (t := 56) rfl (by decide) rfl ?_
        refine wl_off (t := 56) rfl (by decide) rfl ?_
        refine wl_val (at_pick_t rfl rfl) rfl ?_
        refine wl_val (at_move rfl) rfl ?_
        refine wl_off (t := 60) rfl (by decide) rfl ?_
        refine wl_off (t := 60) rfl (by decide) rfl ?_
        refine wl_val (at_pick_t rfl rfl) rfl ?_
        refine wl_val (at_move rfl) rfl ?_
        refine wl_off (t := 64) rfl (by decide) rfl ?_
        refine wl_off (t := 64) rfl (by decide) rfl ?_
        refine wl_off (t := 64) rfl (by decide) rfl ?_
        refine wl_off (t := 64) rfl (by decide) rfl ?_
        refine wl_off (t := 64) rfl (by decide) rfl ?_
        refine wl_val (at_pick_t rfl rfl) rfl ?_
        refine wl_nil ?_
        exact wk_prune [(3, .string a3), (4, .slice a4.a a4.n a4.c), (15, .pointer x14), (16, .pointer x16), (70, .bool true)] ⟨rfl, rfl, rfl, rfl, rfl, trivial⟩ (fun f1 => hJ18 (true) _ f1 h so)
      · refine wl_set (t := 56) (v := .bool false) (congrArg Value.bool hb) ?_; clear hb
        refine wl_on (t := 56) rfl (by decide) rfl ?_
        refine wl_val (at_move rfl) rfl ?_
        refine wl_on (t := 56) rfl (by decide) rfl ?_
        refine wl_val (at_eqlP Try.underlying35 rfl rfl) rfl ?_
        refine wl_val (at_pick_f rfl rfl) rfl ?_
        refine wl_val (at_move rfl) rfl ?_
        refine bif_ h (fun hb h => ?_) (fun hb h => ?_)
        · refine wl_set (t := 60) (v := .bool true) (congrArg Value.bool hb) ?_; clear hb
          refine wl_off (t := 60) rfl (by decide) rfl ?_
          refine wl_off (t := 60) rfl (by decide) rfl ?_
          refine wl_val (at_pick_t rfl rfl) rfl ?_
          refine wl_val (at_move rfl) rfl ?_
          refine wl_off (t := 64) rfl (by decide) rfl ?_
          refine wl_off (t := 64) rfl (by decide) rfl ?_
          refine wl_off (t := 64) rfl (by decide) rfl ?_
          refine wl_off (t := 64) rfl (by decide) rfl ?_
          refine wl_off (t := 64) rfl (by decide) rfl ?_
          refine wl_val (at_pick_t rfl rfl) rfl ?_
          refine wl_nil ?_
          exact wk_prune [(3, .string a3), (4, .slice a4.a a4.n a4.c), (15, .pointer x14), (16, .pointer x16), (70, .bool true)] ⟨rfl, rfl, rfl, rfl, rfl, trivial⟩ (fun f1 => hJ18 (true) _ f1 h so)
        · refine wl_set (t := 60) (v := .bool false) (congrArg Value.bool hb) ?_; clear hb
          refine wl_on (t := 60) rfl (by decide) rfl ?_
          refine wl_val (at_move rfl) rfl ?_
          refine wl_on (t := 60) rfl (by decide) rfl ?_
          refine wl_val (at_eqlP Try.underlying35 rfl rfl) rfl ?_
          refine wl_val (at_pick_f rfl rfl) rfl ?_
          refine wl_val (at_move rfl) rfl ?_
          refine bif_ h (fun hb h => ?_) (fun hb h => ?_)
          · refine wl_set (t := 64) (v := .bool true) (congrArg Value.bool hb) ?_; clear hb
            refine wl_off (t := 64) rfl (by decide) rfl ?_
            refine wl_off (t := 64) rfl (by decide) rfl ?_
            refine wl_off (t := 64) rfl (by decide) rfl ?_
            refine wl_off (t := 64) rfl (by decide) rfl ?_
            refine wl_off (t := 64) rfl (by decide) rfl ?_
            refine wl_val (at_pick_t rfl rfl) rfl ?_
            refine wl_nil ?_
            exact wk_prune [(3, .string a3), (4, .slice a4.a a4.n a4.c), (15, .pointer x14), (16, .pointer x16), (70, .bool true)] ⟨rfl, rfl, rfl, rfl, rfl, trivial⟩ (fun f1 => hJ18 (true) _ f1 h so)
          · refine wl_set (t := 64) (v := .bool false) (congrArg Value.bool hb) ?_; clear hb
            refine wl_on (t := 64) rfl (by decide) rfl ?_
            refine wl_val (at_move rfl) rfl ?_
            refine wl_on (t := 64) rfl (by decide) rfl ?_
            refine wl_callF (bits_Source_Left.calls _ _ _ h) enter20 rfl trivial so ?_; intro x62 w63 h so
            refine wl_on (t := 64) rfl (by decide) rfl ?_
            refine wl_val (at_move rfl) rfl ?_
            refine wl_on (t := 64) rfl (by decide) rfl ?_
            refine wl_callF (bits_Source_Left.calls _ _ _ h) enter20 rfl trivial so ?_; intro x64 w65 h so
            refine wl_on (t := 64) rfl (by decide) rfl ?_
            refine wl_val (at_neq rfl rfl) rfl ?_
            refine wl_val (at_pick_f rfl rfl) rfl ?_
            refine wl_nil ?_
            exact wk_prune [(3, .string a3), (4, .slice a4.a a4.n a4.c), (15, .pointer x14), (16, .pointer x16), (70, .bool (x62 != x64))] ⟨rfl, rfl, rfl, rfl, rfl, trivial⟩ (fun f1 => hJ18 ((x62 != x64)) _ f1 h so)
end Go.Proofs.Ytcjmcmkohfaleaa.G
