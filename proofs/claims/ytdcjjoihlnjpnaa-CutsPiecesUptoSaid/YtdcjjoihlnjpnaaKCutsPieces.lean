import Derived.Test.YtdcjjoihlnjpnaaKshelf
import Derived.Test.YtdcjjoihlnjpnaaKcuts
import Derived.Test.YtdcjjoihlnjpnaaKmosaiclaw19
import Derived.Test.YtdcjjoihlnjpnaaKmosaicref19
namespace Go.Proofs.Ytdcjjoihlnjpnaa.G
open Go.RowKit
set_option linter.unusedVariables false
set_option linter.unusedSimpArgs false
/-- mosaic/mosaiclaw19.CutsPieces -/
def mosaiclaw19_CutsPieces.enc : Bool → Value := fun r => .bool r
def mosaiclaw19_CutsPieces.s (a0 : ByteArray) (a1 : Int) (a2 : Int) (a3 : ByteArray) (H0 : Hp) (Q : Bool → Hp → Prop) : Prop :=
  mosaicref19_Pieces.s a0 a1 a2 H0 (fun x1 H2 => mosaicref19_Pieces.s a3 a1 1048576 H2 (fun x3 H4 => ∃ k5, Fix (fun (rec10 : (Sl × Sl × Int) → Hp → Prop) (s7 : Sl × Sl × Int) (H8 : Hp) => if decide (s7.2.2 < 6) = true then (Join (fun (s12 : ByteArray × Int × Sl × Int × Int) (H13 : Hp) => cuts_Pieces.s s12.1 a1 s12.2.1 H13 (fun x14 H15 => Join (fun (s17 : Bool) (H18 : Hp) => if s17 = true then (Q false H18) else (nw H18 22 [.slice x14.1.a x14.1.n x14.1.c] (fun p19 H20 => apS H20 s7.1 22 1 24 z22.cells 1 [.slice x14.1.a x14.1.n x14.1.c] (fun l24 H25 => nw H25 22 [.slice s12.2.2.1.a s12.2.2.1.n s12.2.2.1.c] (fun p26 H27 => apS H27 s7.2.1 22 1 24 z22.cells 1 [.slice s12.2.2.1.a s12.2.2.1.n s12.2.2.1.c] (fun l31 H32 => rec10 (l24, l31, (IntKind.wrap .i64 (s7.2.2 + 1))) H32)))))) (fun (J16 : Bool → Hp → Prop) => if (x14.2.1 != s12.2.2.2.1) = true then (J16 (true) H15) else (J16 ((x14.2.2 != s12.2.2.2.2)) H15)))) (fun (J11 : (ByteArray × Int × Sl × Int × Int) → Hp → Prop) => Join (fun (s34 : Bool) (H35 : Hp) => if s34 = true then (J11 (a3, 1048576, x3.1, x3.2.1, x3.2.2) H35) else (J11 (a0, a2, x1.1, x1.2.1, x1.2.2) H35)) (fun (J33 : Bool → Hp → Prop) => if (s7.2.2 == 2) = true then (J33 (true) H8) else (J33 ((s7.2.2 == 3)) H8)))) else (mosaiclaw19_apart.s s7.1 s7.2.1 H8 (fun x36 H37 => cuts_Pieces.s a0 a1 a2 H37 (fun x38 H39 => if x36 = true then (if (x38.2.1 == x1.2.1) = true then (if (x38.2.2 == x1.2.2) = true then (mosaicref19_Same.s x38.1 x1.1 H39 (fun x40 H41 => Q x40 H41)) else (Q false H39)) else (Q false H39)) else (Q false H39))))) k5 (⟨none, 0, 0⟩, ⟨none, 0, 0⟩, 0) H4))
set_option maxRecDepth 20000 in
set_option maxHeartbeats 4000000 in
theorem mosaiclaw19_CutsPieces.calls (a0 : ByteArray) (a1 : Int) (a2 : Int) (a3 : ByteArray) (w0 : World) (Q : Bool → Hp → Prop) (h : mosaiclaw19_CutsPieces.s a0 a1 a2 a3 w0.heap Q) :
    Ca Try.prog 4 #[.string a0, .int .i64 a1, .int .i64 a2, .string a3] w0 (Rt mosaiclaw19_CutsPieces.enc Q w0) := by
  refine ca_start (c := _) Try.func4 rfl Try.ntmps4 rfl ?_
  have so : Sm w0 w0 := Sm.refl w0
  unfold mosaiclaw19_CutsPieces.s at h
  refine wc_prune [(0, .string a0), (1, .int .i64 a1), (2, .int .i64 a2), (3, .string a3)] ⟨rfl, rfl, rfl, rfl, trivial⟩ (fun f1 => ?_)
  refine wc_seq ?_
  refine wc_region ?_
  refine wl_val (at_assign rfl) rfl ?_
  refine wl_nil ?_
  refine wk_prune [(0, .string a0), (1, .int .i64 a1), (2, .int .i64 a2), (3, .string a3)] ⟨rfl, rfl, rfl, rfl, trivial⟩ (fun f1 => ?_)
  refine wk_then ?_
  refine wc_seq ?_
  refine wc_region ?_
  refine wl_val (at_move rfl) rfl ?_
  refine wl_val (at_move rfl) rfl ?_
  refine wl_val (at_move rfl) rfl ?_
  refine wl_callF (mosaicref19_Pieces.calls _ _ _ _ _ h) enter10 rfl trivial so ?_; intro x1 w2 h so
  refine wl_val (at_move rfl) rfl ?_
  refine wl_val (at_extract rfl rfl) rfl ?_
  refine wl_val (at_extract rfl rfl) rfl ?_
  refine wl_val (at_extract rfl rfl) rfl ?_
  refine wl_val (at_assign rfl) rfl ?_
  refine wl_val (at_assign rfl) rfl ?_
  refine wl_val (at_assign rfl) rfl ?_
  refine wl_nil ?_
  refine wk_prune [(0, .string a0), (1, .int .i64 a1), (2, .int .i64 a2), (3, .string a3), (9, .slice x1.1.a x1.1.n x1.1.c), (10, .int .i64 x1.2.1), (11, .int .i64 x1.2.2)] ⟨rfl, rfl, rfl, rfl, rfl, rfl, rfl, trivial⟩ (fun f1 => ?_)
  refine wk_then ?_
  refine wc_seq ?_
  refine wc_region ?_
  refine wl_val (at_move rfl) rfl ?_
  refine wl_val (at_move rfl) rfl ?_
  refine wl_callF (mosaicref19_Pieces.calls _ _ _ _ _ h) enter10 rfl trivial so ?_; intro x3 w4 h so
  refine wl_val (at_move rfl) rfl ?_
  refine wl_val (at_extract rfl rfl) rfl ?_
  refine wl_val (at_extract rfl rfl) rfl ?_
  refine wl_val (at_extract rfl rfl) rfl ?_
  refine wl_val (at_assign rfl) rfl ?_
  refine wl_val (at_assign rfl) rfl ?_
  refine wl_val (at_assign rfl) rfl ?_
  refine wl_nil ?_
  refine wk_prune [(0, .string a0), (1, .int .i64 a1), (2, .int .i64 a2), (3, .string a3), (9, .slice x1.1.a x1.1.n x1.1.c), (10, .int .i64 x1.2.1), (11, .int .i64 x1.2.2), (12, .slice x3.1.a x3.1.n x3.1.c), (13, .int .i64 x3.2.1), (14, .int .i64 x3.2.2)] ⟨rfl, rfl, rfl, rfl, rfl, rfl, rfl, rfl, rfl, rfl, trivial⟩ (fun f1 => ?_)
  refine wk_then ?_
  refine wc_seq ?_
  refine wc_region ?_
  refine wl_val (at_assign rfl) rfl ?_
  refine wl_nil ?_
  refine wk_prune [(0, .string a0), (1, .int .i64 a1), (2, .int .i64 a2), (3, .string a3), (9, .slice x1.1.a x1.1.n x1.1.c), (10, .int .i64 x1.2.1), (11, .int .i64 x1.2.2), (12, .slice x3.1.a x3.1.n x3.1.c), (13, .int .i64 x3.2.1), (14, .int .i64 x3.2.2), (15, .slice none 0 0)] ⟨rfl, rfl, rfl, rfl, rfl, rfl, rfl, rfl, rfl, rfl, rfl, trivial⟩ (fun f1 => ?_)
  refine wk_then ?_
  refine wc_seq ?_
  refine wc_region ?_
  refine wl_val (at_assign rfl) rfl ?_
  refine wl_nil ?_
  refine wk_prune [(0, .string a0), (1, .int .i64 a1), (2, .int .i64 a2), (3, .string a3), (9, .slice x1.1.a x1.1.n x1.1.c), (10, .int .i64 x1.2.1), (11, .int .i64 x1.2.2), (12, .slice x3.1.a x3.1.n x3.1.c), (13, .int .i64 x3.2.1), (14, .int .i64 x3.2.2), (15, .slice none 0 0), (16, .slice none 0 0)] ⟨rfl, rfl, rfl, rfl, rfl, rfl, rfl, rfl, rfl, rfl, rfl, rfl, trivial⟩ (fun f1 => ?_)
  refine wk_then ?_
  refine wc_seq ?_
  refine wc_seq ?_
  refine wc_region ?_
  refine wl_val (at_assign rfl) rfl ?_
  refine wl_nil ?_
  refine wk_prune [(0, .string a0), (1, .int .i64 a1), (2, .int .i64 a2), (3, .string a3), (9, .slice x1.1.a x1.1.n x1.1.c), (10, .int .i64 x1.2.1), (11, .int .i64 x1.2.2), (12, .slice x3.1.a x3.1.n x3.1.c), (13, .int .i64 x3.2.1), (14, .int .i64 x3.2.2), (15, .slice none 0 0), (16, .slice none 0 0), (17, .int .i64 0)] ⟨rfl, rfl, rfl, rfl, rfl, rfl, rfl, rfl, rfl, rfl, rfl, rfl, rfl, trivial⟩ (fun f1 => ?_)
  refine wk_then ?_
  refine wc_block ?_
  obtain ⟨k5, h⟩ := h
  refine wc_loop (fun k a w => ∃ (s7 : Sl × Sl × Int) (f1 : Nat → Value), a = ac 115 (en f1 [(0, .string a0), (1, .int .i64 a1), (2, .int .i64 a2), (3, .string a3), (9, .slice x1.1.a x1.1.n x1.1.c), (10, .int .i64 x1.2.1), (11, .int .i64 x1.2.2), (12, .slice x3.1.a x3.1.n x3.1.c), (13, .int .i64 x3.2.1), (14, .int .i64 x3.2.2), (15, .slice s7.1.a s7.1.n s7.1.c), (16, .slice s7.2.1.a s7.2.1.n s7.2.1.c), (17, .int .i64 s7.2.2)]) [] ∧ Sm w0 w ∧ Fix _ k s7 w.heap) k5 ⟨(⟨none, 0, 0⟩, ⟨none, 0, 0⟩, 0), _, ac_again ⟨rfl, rfl, rfl, rfl, rfl, rfl, rfl, rfl, rfl, rfl, rfl, rfl, rfl, trivial⟩, so, h⟩ ?_
  rintro k6 a9 w8 ⟨s7, f1, rfl, so, h⟩
  rcases k6 with _ | k6
  · exact h.elim
  replace h := Fix.un h; refine wc_in ?_
  refine wc_seq ?_
  refine wc_seq ?_
  refine wc_region ?_
  refine wl_val (at_move rfl) rfl ?_
  refine wl_val (at_lss rfl rfl) rfl ?_
  refine wl_nil ?_
  refine wk_prune [(0, .string a0), (1, .int .i64 a1), (2, .int .i64 a2), (3, .string a3), (9, .slice x1.1.a x1.1.n x1.1.c), (10, .int .i64 x1.2.1), (11, .int .i64 x1.2.2), (12, .slice x3.1.a x3.1.n x3.1.c), (13, .int .i64 x3.2.1), (14, .int .i64 x3.2.2), (15, .slice s7.1.a s7.1.n s7.1.c), (16, .slice s7.2.1.a s7.2.1.n s7.2.1.c), (17, .int .i64 s7.2.2), (46, .bool (decide (s7.2.2 < 6)))] ⟨rfl, rfl, rfl, rfl, rfl, rfl, rfl, rfl, rfl, rfl, rfl, rfl, rfl, rfl, trivial⟩ (fun f1 => ?_)
  refine wk_then ?_
  refine wc_cond rfl h (fun h => ?_) (fun h => ?_)
  · refine wc_skip ?_
    refine wk_prune [(0, .string a0), (1, .int .i64 a1), (2, .int .i64 a2), (3, .string a3), (9, .slice x1.1.a x1.1.n x1.1.c), (10, .int .i64 x1.2.1), (11, .int .i64 x1.2.2), (12, .slice x3.1.a x3.1.n x3.1.c), (13, .int .i64 x3.2.1), (14, .int .i64 x3.2.2), (15, .slice s7.1.a s7.1.n s7.1.c), (16, .slice s7.2.1.a s7.2.1.n s7.2.1.c), (17, .int .i64 s7.2.2)] ⟨rfl, rfl, rfl, rfl, rfl, rfl, rfl, rfl, rfl, rfl, rfl, rfl, rfl, trivial⟩ (fun f1 => ?_)
    refine wk_then ?_
    refine wc_seq ?_
    refine wc_block ?_
    refine wc_seq ?_
    refine wc_region ?_
    refine wl_val (at_move rfl) rfl ?_
    refine wl_val (at_move rfl) rfl ?_
    refine wl_val (at_move rfl) rfl ?_
    refine wl_val (at_move rfl) rfl ?_
    refine wl_val (at_move rfl) rfl ?_
    refine wl_val (at_assign rfl) rfl ?_
    refine wl_val (at_assign rfl) rfl ?_
    refine wl_val (at_assign rfl) rfl ?_
    refine wl_val (at_assign rfl) rfl ?_
    refine wl_val (at_assign rfl) rfl ?_
    refine wl_nil ?_
    refine wk_prune [(0, .string a0), (1, .int .i64 a1), (2, .int .i64 a2), (3, .string a3), (9, .slice x1.1.a x1.1.n x1.1.c), (10, .int .i64 x1.2.1), (11, .int .i64 x1.2.2), (12, .slice x3.1.a x3.1.n x3.1.c), (13, .int .i64 x3.2.1), (14, .int .i64 x3.2.2), (15, .slice s7.1.a s7.1.n s7.1.c), (16, .slice s7.2.1.a s7.2.1.n s7.2.1.c), (17, .int .i64 s7.2.2), (18, .string a0), (19, .int .i64 a2), (20, .slice x1.1.a x1.1.n x1.1.c), (21, .int .i64 x1.2.1), (22, .int .i64 x1.2.2)] ⟨rfl, rfl, rfl, rfl, rfl, rfl, rfl, rfl, rfl, rfl, rfl, rfl, rfl, rfl, rfl, rfl, rfl, rfl, trivial⟩ (fun f1 => ?_)
    refine wk_then ?_
    refine wc_seq ?_
    refine wc_join (w0 := w0) (fun (s12 : ByteArray × Int × Sl × Int × Int) => [(0, .string a0), (1, .int .i64 a1), (2, .int .i64 a2), (3, .string a3), (9, .slice x1.1.a x1.1.n x1.1.c), (10, .int .i64 x1.2.1), (11, .int .i64 x1.2.2), (12, .slice x3.1.a x3.1.n x3.1.c), (13, .int .i64 x3.2.1), (14, .int .i64 x3.2.2), (15, .slice s7.1.a s7.1.n s7.1.c), (16, .slice s7.2.1.a s7.2.1.n s7.2.1.c), (17, .int .i64 s7.2.2), (18, .string s12.1), (19, .int .i64 s12.2.1), (20, .slice s12.2.2.1.a s12.2.2.1.n s12.2.2.1.c), (21, .int .i64 s12.2.2.2.1), (22, .int .i64 s12.2.2.2.2)]) h ?_ ?_
    · rintro s12 w13 f1 h so; refine wk_then ?_
      refine wc_seq ?_
      refine wc_region ?_
      refine wl_val (at_move rfl) rfl ?_
      refine wl_val (at_move rfl) rfl ?_
      refine wl_val (at_move rfl) rfl ?_
      refine wl_callF (cuts_Pieces.calls _ _ _ _ _ h) enter11 rfl trivial so ?_; intro x14 w15 h so
      refine wl_val (at_move rfl) rfl ?_
      refine wl_val (at_extract rfl rfl) rfl ?_
      refine wl_val (at_extract rfl rfl) rfl ?_
      refine wl_val (at_extract rfl rfl) rfl ?_
      refine wl_val (at_assign rfl) rfl ?_
      refine wl_val (at_assign rfl) rfl ?_
      refine wl_val (at_assign rfl) rfl ?_
      refine wl_nil ?_
      refine wk_prune [(0, .string a0), (1, .int .i64 a1), (2, .int .i64 a2), (3, .string a3), (9, .slice x1.1.a x1.1.n x1.1.c), (10, .int .i64 x1.2.1), (11, .int .i64 x1.2.2), (12, .slice x3.1.a x3.1.n x3.1.c), (13, .int .i64 x3.2.1), (14, .int .i64 x3.2.2), (15, .slice s7.1.a s7.1.n s7.1.c), (16, .slice s7.2.1.a s7.2.1.n s7.2.1.c), (17, .int .i64 s7.2.2), (20, .slice s12.2.2.1.a s12.2.2.1.n s12.2.2.1.c), (21, .int .i64 s12.2.2.2.1), (22, .int .i64 s12.2.2.2.2), (23, .slice x14.1.a x14.1.n x14.1.c), (24, .int .i64 x14.2.1), (25, .int .i64 x14.2.2)] ⟨rfl, rfl, rfl, rfl, rfl, rfl, rfl, rfl, rfl, rfl, rfl, rfl, rfl, rfl, rfl, rfl, rfl, rfl, rfl, trivial⟩ (fun f1 => ?_)
      refine wk_then ?_
      refine wc_seq ?_
      refine wc_seq ?_
      refine wc_join (w0 := w0) (fun (s17 : Bool) => [(0, .string a0), (1, .int .i64 a1), (2, .int .i64 a2), (3, .string a3), (9, .slice x1.1.a x1.1.n x1.1.c), (10, .int .i64 x1.2.1), (11, .int .i64 x1.2.2), (12, .slice x3.1.a x3.1.n x3.1.c), (13, .int .i64 x3.2.1), (14, .int .i64 x3.2.2), (15, .slice s7.1.a s7.1.n s7.1.c), (16, .slice s7.2.1.a s7.2.1.n s7.2.1.c), (17, .int .i64 s7.2.2), (20, .slice s12.2.2.1.a s12.2.2.1.n s12.2.2.1.c), (23, .slice x14.1.a x14.1.n x14.1.c), (79, .bool s17)]) h ?_ ?_
      · rintro s17 w18 f1 h so; refine wk_then ?_
        refine wc_cond rfl h (fun h => ?_) (fun h => ?_)
        · refine wc_seq ?_
          refine wc_region ?_
          refine wl_val (at_assign rfl) rfl ?_
          refine wl_nil ?_
          refine wk_prune [(8, .bool false)] ⟨rfl, trivial⟩ (fun f1 => ?_)
          refine wk_then ?_
          refine wc_ret ?_
          refine wk_thenR ?_
          refine wk_blkR ?_
          refine wk_thenR ?_
          refine wk_thenR ?_
          refine wk_blkR ?_
          refine wk_thenR ?_
          exact wk_ret1 (x := false) rfl (by decide) rfl so h
        · refine wc_skip ?_
          refine wk_prune [(0, .string a0), (1, .int .i64 a1), (2, .int .i64 a2), (3, .string a3), (9, .slice x1.1.a x1.1.n x1.1.c), (10, .int .i64 x1.2.1), (11, .int .i64 x1.2.2), (12, .slice x3.1.a x3.1.n x3.1.c), (13, .int .i64 x3.2.1), (14, .int .i64 x3.2.2), (15, .slice s7.1.a s7.1.n s7.1.c), (16, .slice s7.2.1.a s7.2.1.n s7.2.1.c), (17, .int .i64 s7.2.2), (20, .slice s12.2.2.1.a s12.2.2.1.n s12.2.2.1.c), (23, .slice x14.1.a x14.1.n x14.1.c)] ⟨rfl, rfl, rfl, rfl, rfl, rfl, rfl, rfl, rfl, rfl, rfl, rfl, rfl, rfl, rfl, trivial⟩ (fun f1 => ?_)
          refine wk_then ?_
          refine wc_seq ?_
          refine wc_region ?_
          refine wl_val (at_move rfl) rfl ?_
          refine wl_val (at_move rfl) rfl ?_
          obtain ⟨i22, i22a, i22b, i22c, i22d⟩ := info22
          refine wl_newS (ef_buildSlice (cs := [.slice x14.1.a x14.1.n x14.1.c]) (ps := [(0, .slice x14.1.a x14.1.n x14.1.c)]) Try.underlying35 i22a i22b rfl (by rw [i22c]; decide) (by rw [i22c]; exact fill_full (vs := [.slice x14.1.a x14.1.n x14.1.c]) rfl (by simp [Value.cells]) (by simp [Value.cells]) rfl (by simp))) rfl so (ones_cons rfl ones_nil) h ?_; intro p19 w20 h r21 so
          obtain ⟨i23, i23a, i23b, i23c, i23d⟩ := info22
          refine wl_ap (fx_append (s := s7.1) (t := ⟨(some p19), 1, 1⟩) (m := 1) (xs := [.slice x14.1.a x14.1.n x14.1.c]) Try.underlying35 Try.underlying35 i23a i23b i23c i23d rfl rfl rfl (by first | rfl | simp) r21 h) rfl so ?_; intro l24 w25 h so
          refine wl_val (at_assign rfl) rfl ?_
          refine wl_nil ?_
          refine wk_prune [(0, .string a0), (1, .int .i64 a1), (2, .int .i64 a2), (3, .string a3), (9, .slice x1.1.a x1.1.n x1.1.c), (10, .int .i64 x1.2.1), (11, .int .i64 x1.2.2), (12, .slice x3.1.a x3.1.n x3.1.c), (13, .int .i64 x3.2.1), (14, .int .i64 x3.2.2), (15, .slice l24.a l24.n l24.c), (16, .slice s7.2.1.a s7.2.1.n s7.2.1.c), (17, .int .i64 s7.2.2), (20, .slice s12.2.2.1.a s12.2.2.1.n s12.2.2.1.c)] ⟨rfl, rfl, rfl, rfl, rfl, rfl, rfl, rfl, rfl, rfl, rfl, rfl, rfl, rfl, trivial⟩ (fun f1 => ?_)
          refine wk_then ?_
          refine wc_region ?_
          refine wl_val (at_move rfl) rfl ?_
          refine wl_val (at_move rfl) rfl ?_
          obtain ⟨i29, i29a, i29b, i29c, i29d⟩ := info22
          refine wl_newS (ef_buildSlice (cs := [.slice s12.2.2.1.a s12.2.2.1.n s12.2.2.1.c]) (ps := [(0, .slice s12.2.2.1.a s12.2.2.1.n s12.2.2.1.c)]) Try.underlying35 i29a i29b rfl (by rw [i29c]; decide) (by rw [i29c]; exact fill_full (vs := [.slice s12.2.2.1.a s12.2.2.1.n s12.2.2.1.c]) rfl (by simp [Value.cells]) (by simp [Value.cells]) rfl (by simp))) rfl so (ones_cons rfl ones_nil) h ?_; intro p26 w27 h r28 so
          obtain ⟨i30, i30a, i30b, i30c, i30d⟩ := info22
          refine wl_ap (fx_append (s := s7.2.1) (t := ⟨(some p26), 1, 1⟩) (m := 1) (xs := [.slice s12.2.2.1.a s12.2.2.1.n s12.2.2.1.c]) Try.underlying35 Try.underlying35 i30a i30b i30c i30d rfl rfl rfl (by first | rfl | simp) r28 h) rfl so ?_; intro l31 w32 h so
          refine wl_val (at_assign rfl) rfl ?_
          refine wl_nil ?_
          refine wk_blkN ?_
          refine wk_prune [(0, .string a0), (1, .int .i64 a1), (2, .int .i64 a2), (3, .string a3), (9, .slice x1.1.a x1.1.n x1.1.c), (10, .int .i64 x1.2.1), (11, .int .i64 x1.2.2), (12, .slice x3.1.a x3.1.n x3.1.c), (13, .int .i64 x3.2.1), (14, .int .i64 x3.2.2), (15, .slice l24.a l24.n l24.c), (16, .slice l31.a l31.n l31.c), (17, .int .i64 s7.2.2)] ⟨rfl, rfl, rfl, rfl, rfl, rfl, rfl, rfl, rfl, rfl, rfl, rfl, rfl, trivial⟩ (fun f1 => ?_)
          refine wk_then ?_
          refine wc_region ?_
          refine wl_val (at_move rfl) rfl ?_
          refine wl_val (at_add rfl rfl) rfl ?_
          refine wl_val (at_assign rfl) rfl ?_
          refine wl_nil ?_
          exact wk_again ⟨(l24, l31, (IntKind.wrap .i64 (s7.2.2 + 1))), _, ac_again ⟨rfl, rfl, rfl, rfl, rfl, rfl, rfl, rfl, rfl, rfl, rfl, rfl, rfl, trivial⟩, so, h⟩
      · intro J16 h hJ16
        refine wc_region ?_
        refine wl_val (at_move rfl) rfl ?_
        refine wl_val (at_move rfl) rfl ?_
        refine wl_val (at_neq rfl rfl) rfl ?_
        refine wl_val (at_move rfl) rfl ?_
        refine bif_ h (fun hb h => ?_) (fun hb h => ?_)
        · refine wl_set (t := 75) (v := .bool true) (congrArg Value.bool hb) ?_; clear hb
          refine wl_off (t := 75) rfl (by decide) rfl ?_
          refine wl_off (t := 75) rfl (by decide) rfl ?_
          refine wl_off (t := 75) rfl (by decide) rfl ?_
          refine wl_val (at_pick_t rfl rfl) rfl ?_
          refine wl_nil ?_
          exact wk_prune [(0, .string a0), (1, .int .i64 a1), (2, .int .i64 a2), (3, .string a3), (9, .slice x1.1.a x1.1.n x1.1.c), (10, .int .i64 x1.2.1), (11, .int .i64 x1.2.2), (12, .slice x3.1.a x3.1.n x3.1.c), (13, .int .i64 x3.2.1), (14, .int .i64 x3.2.2), (15, .slice s7.1.a s7.1.n s7.1.c), (16, .slice s7.2.1.a s7.2.1.n s7.2.1.c), (17, .int .i64 s7.2.2), (20, .slice s12.2.2.1.a s12.2.2.1.n s12.2.2.1.c), (23, .slice x14.1.a x14.1.n x14.1.c), (79, .bool true)] ⟨rfl, rfl, rfl, rfl, rfl, rfl, rfl, rfl, rfl, rfl, rfl, rfl, rfl, rfl, rfl, rfl, trivial⟩ (fun f1 => hJ16 (true) _ f1 h so)
        · refine wl_set (t := 75) (v := .bool false) (congrArg Value.bool hb) ?_; clear hb
          refine wl_on (t := 75) rfl (by decide) rfl ?_
          refine wl_val (at_move rfl) rfl ?_
          refine wl_on (t := 75) rfl (by decide) rfl ?_
          refine wl_val (at_move rfl) rfl ?_
          refine wl_on (t := 75) rfl (by decide) rfl ?_
          refine wl_val (at_neq rfl rfl) rfl ?_
          refine wl_val (at_pick_f rfl rfl) rfl ?_
          refine wl_nil ?_
          exact wk_prune [(0, .string a0), (1, .int .i64 a1), (2, .int .i64 a2), (3, .string a3), (9, .slice x1.1.a x1.1.n x1.1.c), (10, .int .i64 x1.2.1), (11, .int .i64 x1.2.2), (12, .slice x3.1.a x3.1.n x3.1.c), (13, .int .i64 x3.2.1), (14, .int .i64 x3.2.2), (15, .slice s7.1.a s7.1.n s7.1.c), (16, .slice s7.2.1.a s7.2.1.n s7.2.1.c), (17, .int .i64 s7.2.2), (20, .slice s12.2.2.1.a s12.2.2.1.n s12.2.2.1.c), (23, .slice x14.1.a x14.1.n x14.1.c), (79, .bool (x14.2.2 != s12.2.2.2.2))] ⟨rfl, rfl, rfl, rfl, rfl, rfl, rfl, rfl, rfl, rfl, rfl, rfl, rfl, rfl, rfl, rfl, trivial⟩ (fun f1 => hJ16 ((x14.2.2 != s12.2.2.2.2)) _ f1 h so)
    · intro J11 h hJ11
      refine wc_seq ?_
      refine wc_join (w0 := w0) (fun (s34 : Bool) => [(0, .string a0), (1, .int .i64 a1), (2, .int .i64 a2), (3, .string a3), (9, .slice x1.1.a x1.1.n x1.1.c), (10, .int .i64 x1.2.1), (11, .int .i64 x1.2.2), (12, .slice x3.1.a x3.1.n x3.1.c), (13, .int .i64 x3.2.1), (14, .int .i64 x3.2.2), (15, .slice s7.1.a s7.1.n s7.1.c), (16, .slice s7.2.1.a s7.2.1.n s7.2.1.c), (17, .int .i64 s7.2.2), (18, .string a0), (19, .int .i64 a2), (20, .slice x1.1.a x1.1.n x1.1.c), (21, .int .i64 x1.2.1), (22, .int .i64 x1.2.2), (59, .bool s34)]) h ?_ ?_
      · rintro s34 w35 f1 h so; refine wk_then ?_
        refine wc_cond rfl h (fun h => ?_) (fun h => ?_)
        · refine wc_region ?_
          refine wl_val (at_move rfl) rfl ?_
          refine wl_val (at_move rfl) rfl ?_
          refine wl_val (at_move rfl) rfl ?_
          refine wl_val (at_move rfl) rfl ?_
          refine wl_val (at_assign rfl) rfl ?_
          refine wl_val (at_assign rfl) rfl ?_
          refine wl_val (at_assign rfl) rfl ?_
          refine wl_val (at_assign rfl) rfl ?_
          refine wl_val (at_assign rfl) rfl ?_
          refine wl_nil ?_
          exact wk_prune [(0, .string a0), (1, .int .i64 a1), (2, .int .i64 a2), (3, .string a3), (9, .slice x1.1.a x1.1.n x1.1.c), (10, .int .i64 x1.2.1), (11, .int .i64 x1.2.2), (12, .slice x3.1.a x3.1.n x3.1.c), (13, .int .i64 x3.2.1), (14, .int .i64 x3.2.2), (15, .slice s7.1.a s7.1.n s7.1.c), (16, .slice s7.2.1.a s7.2.1.n s7.2.1.c), (17, .int .i64 s7.2.2), (18, .string a3), (19, .int .i64 1048576), (20, .slice x3.1.a x3.1.n x3.1.c), (21, .int .i64 x3.2.1), (22, .int .i64 x3.2.2)] ⟨rfl, rfl, rfl, rfl, rfl, rfl, rfl, rfl, rfl, rfl, rfl, rfl, rfl, rfl, rfl, rfl, rfl, rfl, trivial⟩ (fun f1 => hJ11 (a3, 1048576, x3.1, x3.2.1, x3.2.2) _ f1 h so)
        · refine wc_skip ?_
          exact wk_prune [(0, .string a0), (1, .int .i64 a1), (2, .int .i64 a2), (3, .string a3), (9, .slice x1.1.a x1.1.n x1.1.c), (10, .int .i64 x1.2.1), (11, .int .i64 x1.2.2), (12, .slice x3.1.a x3.1.n x3.1.c), (13, .int .i64 x3.2.1), (14, .int .i64 x3.2.2), (15, .slice s7.1.a s7.1.n s7.1.c), (16, .slice s7.2.1.a s7.2.1.n s7.2.1.c), (17, .int .i64 s7.2.2), (18, .string a0), (19, .int .i64 a2), (20, .slice x1.1.a x1.1.n x1.1.c), (21, .int .i64 x1.2.1), (22, .int .i64 x1.2.2)] ⟨rfl, rfl, rfl, rfl, rfl, rfl, rfl, rfl, rfl, rfl, rfl, rfl, rfl, rfl, rfl, rfl, rfl, rfl, trivial⟩ (fun f1 => hJ11 (a0, a2, x1.1, x1.2.1, x1.2.2) _ f1 h so)
      · intro J33 h hJ33
        refine wc_region ?_
        refine wl_val (at_move rfl) rfl ?_
        refine wl_val (at_eql rfl rfl) rfl ?_
        refine wl_val (at_move rfl) rfl ?_
        refine bif_ h (fun hb h => ?_) (fun hb h => ?_)
        · refine wl_set (t := 56) (v := .bool true) (congrArg Value.bool hb) ?_; clear hb
          refine wl_off (t := 56) rfl (by decide) rfl ?_
          refine wl_off (t := 56) rfl (by decide) rfl ?_
          refine wl_val (at_pick_t rfl rfl) rfl ?_
          refine wl_nil ?_
          exact wk_prune [(0, .string a0), (1, .int .i64 a1), (2, .int .i64 a2), (3, .string a3), (9, .slice x1.1.a x1.1.n x1.1.c), (10, .int .i64 x1.2.1), (11, .int .i64 x1.2.2), (12, .slice x3.1.a x3.1.n x3.1.c), (13, .int .i64 x3.2.1), (14, .int .i64 x3.2.2), (15, .slice s7.1.a s7.1.n s7.1.c), (16, .slice s7.2.1.a s7.2.1.n s7.2.1.c), (17, .int .i64 s7.2.2), (18, .string a0), (19, .int .i64 a2), (20, .slice x1.1.a x1.1.n x1.1.c), (21, .int .i64 x1.2.1), (22, .int .i64 x1.2.2), (59, .bool true)] ⟨rfl, rfl, rfl, rfl, rfl, rfl, rfl, rfl, rfl, rfl, rfl, rfl, rfl, rfl, rfl, rfl, rfl, rfl, rfl, trivial⟩ (fun f1 => hJ33 (true) _ f1 h so)
        · refine wl_set (t := 56) (v := .bool false) (congrArg Value.bool hb) ?_; clear hb
          refine wl_on (t := 56) rfl (by decide) rfl ?_
          refine wl_val (at_move rfl) rfl ?_
          refine wl_on (t := 56) rfl (by decide) rfl ?_
          refine wl_val (at_eql rfl rfl) rfl ?_
          refine wl_val (at_pick_f rfl rfl) rfl ?_
          refine wl_nil ?_
          exact wk_prune [(0, .string a0), (1, .int .i64 a1), (2, .int .i64 a2), (3, .string a3), (9, .slice x1.1.a x1.1.n x1.1.c), (10, .int .i64 x1.2.1), (11, .int .i64 x1.2.2), (12, .slice x3.1.a x3.1.n x3.1.c), (13, .int .i64 x3.2.1), (14, .int .i64 x3.2.2), (15, .slice s7.1.a s7.1.n s7.1.c), (16, .slice s7.2.1.a s7.2.1.n s7.2.1.c), (17, .int .i64 s7.2.2), (18, .string a0), (19, .int .i64 a2), (20, .slice x1.1.a x1.1.n x1.1.c), (21, .int .i64 x1.2.1), (22, .int .i64 x1.2.2), (59, .bool (s7.2.2 == 3))] ⟨rfl, rfl, rfl, rfl, rfl, rfl, rfl, rfl, rfl, rfl, rfl, rfl, rfl, rfl, rfl, rfl, rfl, rfl, rfl, trivial⟩ (fun f1 => hJ33 ((s7.2.2 == 3)) _ f1 h so)
  · refine wc_exit ?_
    refine wk_thenE ?_
    refine wk_thenE ?_
    refine wk_blkE ?_
    refine wk_prune [(0, .string a0), (1, .int .i64 a1), (2, .int .i64 a2), (9, .slice x1.1.a x1.1.n x1.1.c), (10, .int .i64 x1.2.1), (11, .int .i64 x1.2.2), (15, .slice s7.1.a s7.1.n s7.1.c), (16, .slice s7.2.1.a s7.2.1.n s7.2.1.c)] ⟨rfl, rfl, rfl, rfl, rfl, rfl, rfl, rfl, trivial⟩ (fun f1 => ?_)
    refine wk_then ?_
    refine wc_seq ?_
    refine wc_region ?_
    refine wl_val (at_move rfl) rfl ?_
    refine wl_val (at_move rfl) rfl ?_
    refine wl_callF (mosaiclaw19_apart.calls _ _ _ _ h) enter12 rfl trivial so ?_; intro x36 w37 h so
    refine wl_val (at_assign rfl) rfl ?_
    refine wl_nil ?_
    refine wk_prune [(0, .string a0), (1, .int .i64 a1), (2, .int .i64 a2), (9, .slice x1.1.a x1.1.n x1.1.c), (10, .int .i64 x1.2.1), (11, .int .i64 x1.2.2), (26, .bool x36)] ⟨rfl, rfl, rfl, rfl, rfl, rfl, rfl, trivial⟩ (fun f1 => ?_)
    refine wk_then ?_
    refine wc_seq ?_
    refine wc_region ?_
    refine wl_val (at_move rfl) rfl ?_
    refine wl_val (at_move rfl) rfl ?_
    refine wl_val (at_move rfl) rfl ?_
    refine wl_callF (cuts_Pieces.calls _ _ _ _ _ h) enter11 rfl trivial so ?_; intro x38 w39 h so
    refine wl_val (at_move rfl) rfl ?_
    refine wl_val (at_extract rfl rfl) rfl ?_
    refine wl_val (at_extract rfl rfl) rfl ?_
    refine wl_val (at_extract rfl rfl) rfl ?_
    refine wl_val (at_assign rfl) rfl ?_
    refine wl_val (at_assign rfl) rfl ?_
    refine wl_val (at_assign rfl) rfl ?_
    refine wl_nil ?_
    refine wk_prune [(9, .slice x1.1.a x1.1.n x1.1.c), (10, .int .i64 x1.2.1), (11, .int .i64 x1.2.2), (26, .bool x36), (27, .slice x38.1.a x38.1.n x38.1.c), (28, .int .i64 x38.2.1), (29, .int .i64 x38.2.2)] ⟨rfl, rfl, rfl, rfl, rfl, rfl, rfl, trivial⟩ (fun f1 => ?_)
    refine wk_then ?_
    refine wc_seq ?_
    refine wc_region ?_
    refine wl_val (at_move rfl) rfl ?_
    refine wl_val (at_move rfl) rfl ?_
    refine bif_ h (fun hb h => ?_) (fun hb h => ?_)
    · refine wl_set (t := 100) (v := .bool true) (congrArg Value.bool hb) ?_; clear hb
      refine wl_on (t := 100) rfl (by decide) rfl ?_
      refine wl_val (at_move rfl) rfl ?_
      refine wl_on (t := 100) rfl (by decide) rfl ?_
      refine wl_val (at_move rfl) rfl ?_
      refine wl_on (t := 100) rfl (by decide) rfl ?_
      refine wl_val (at_eql rfl rfl) rfl ?_
      refine wl_val (at_pick_t rfl rfl) rfl ?_
      refine wl_val (at_move rfl) rfl ?_
      refine bif_ h (fun hb h => ?_) (fun hb h => ?_)
      · refine wl_set (t := 105) (v := .bool true) (congrArg Value.bool hb) ?_; clear hb
        refine wl_on (t := 105) rfl (by decide) rfl ?_
        refine wl_val (at_move rfl) rfl ?_
        refine wl_on (t := 105) rfl (by decide) rfl ?_
        refine wl_val (at_move rfl) rfl ?_
        refine wl_on (t := 105) rfl (by decide) rfl ?_
        refine wl_val (at_eql rfl rfl) rfl ?_
        refine wl_val (at_pick_t rfl rfl) rfl ?_
        refine wl_val (at_move rfl) rfl ?_
        refine bif_ h (fun hb h => ?_) (fun hb h => ?_)
        · refine wl_set (t := 110) (v := .bool true) (congrArg Value.bool hb) ?_; clear hb
          refine wl_on (t := 110) rfl (by decide) rfl ?_
          refine wl_val (at_move rfl) rfl ?_
          refine wl_on (t := 110) rfl (by decide) rfl ?_
          refine wl_val (at_move rfl) rfl ?_
          refine wl_on (t := 110) rfl (by decide) rfl ?_
          refine wl_callF (mosaicref19_Same.calls _ _ _ _ h) enter9 rfl trivial so ?_; intro x40 w41 h so
          refine wl_val (at_pick_t rfl rfl) rfl ?_
          refine wl_val (at_assign rfl) rfl ?_
          refine wl_nil ?_
          refine wk_prune [(8, .bool x40)] ⟨rfl, trivial⟩ (fun f1 => ?_)
          refine wk_then ?_
          refine wc_ret ?_
          exact wk_ret1 (x := x40) rfl (by decide) rfl so h
        · refine wl_set (t := 110) (v := .bool false) (congrArg Value.bool hb) ?_; clear hb
          refine wl_off (t := 110) rfl (by decide) rfl ?_
          refine wl_off (t := 110) rfl (by decide) rfl ?_
          refine wl_off (t := 110) rfl (by decide) rfl ?_
          refine wl_val (at_pick_f rfl rfl) rfl ?_
          refine wl_val (at_assign rfl) rfl ?_
          refine wl_nil ?_
          refine wk_prune [(8, .bool false)] ⟨rfl, trivial⟩ (fun f1 => ?_)
          refine wk_then ?_
          refine wc_ret ?_
          exact wk_ret1 (x := false) rfl (by decide) rfl so h
      · refine wl_set (t := 105) (v := .bool false) (congrArg Value.bool hb) ?_; clear hb
        refine wl_off (t := 105) rfl (by decide) rfl ?_
        refine wl_off (t := 105) rfl (by decide) rfl ?_
        refine wl_off (t := 105) rfl (by decide) rfl ?_
        refine wl_val (at_pick_f rfl rfl) rfl ?_
        refine wl_val (at_move rfl) rfl ?_
        refine wl_off (t := 110) rfl (by decide) rfl ?_
        refine wl_off (t := 110) rfl (by decide) rfl ?_
        refine wl_off (t := 110) rfl (by decide) rfl ?_
        refine wl_val (at_pick_f rfl rfl) rfl ?_
        refine wl_val (at_assign rfl) rfl ?_
        refine wl_nil ?_
        refine wk_prune [(8, .bool false)] ⟨rfl, trivial⟩ (fun f1 => ?_)
        refine wk_then ?_
        refine wc_ret ?_
        exact wk_ret1 (x := false) rfl (by decide) rfl so h
    · refine wl_set (t := 100) (v := .bool false) (congrArg Value.bool hb) ?_; clear hb
      refine wl_off (t := 100) rfl (by decide) rfl ?_
      refine wl_off (t := 100) rfl (by decide) rfl ?_
      refine wl_off (t := 100) rfl (by decide) rfl ?_
      refine wl_val (at_pick_f rfl rfl) rfl ?_
      refine wl_val (at_move rfl) rfl ?_
      refine wl_off (t := 105) rfl (by decide) rfl ?_
      refine wl_off (t := 105) rfl (by decide) rfl ?_
      refine wl_off (t := 105) rfl (by decide) rfl ?_
      refine wl_val (at_pick_f rfl rfl) rfl ?_
      refine wl_val (at_move rfl) rfl ?_
      refine wl_off (t := 110) rfl (by decide) rfl ?_
      refine wl_off (t := 110) rfl (by decide) rfl ?_
      refine wl_off (t := 110) rfl (by decide) rfl ?_
      refine wl_val (at_pick_f rfl rfl) rfl ?_
      refine wl_val (at_assign rfl) rfl ?_
      refine wl_nil ?_
      refine wk_prune [(8, .bool false)] ⟨rfl, trivial⟩ (fun f1 => ?_)
      refine wk_then ?_
      refine wc_ret ?_
      exact wk_ret1 (x := false) rfl (by decide) rfl so h
end Go.Proofs.Ytdcjjoihlnjpnaa.G
