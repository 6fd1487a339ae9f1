import Derived.Test.YtdcjjoihlnjpnaaKshelf
import Derived.Test.YtdcjjoihlnjpnaaKcuts
import Derived.Test.YtdcjjoihlnjpnaaKmosaiclaw19
namespace Go.Proofs.Ytdcjjoihlnjpnaa.G
open Go.RowKit
set_option linter.unusedVariables false
set_option linter.unusedSimpArgs false
/-- mosaic/mosaiclaw19.CutsCover -/
def mosaiclaw19_CutsCover.enc : Bool → Value := fun r => .bool r
def mosaiclaw19_CutsCover.s (a0 : ByteArray) (a1 : Int) (H0 : Hp) (Q : Bool → Hp → Prop) : Prop :=
  mosaiclaw19_alive.s H0 (fun x1 H2 => cuts_Pieces.s a0 a1 (IntKind.wrap .i64 ((a0.size : Int) + 1)) H2 (fun x3 H4 => Join (fun (s6 : Bool) (H7 : Hp) => if s6 = true then (Q false H7) else (Join (fun (s9 : Int) (H10 : Hp) => Join (fun (s12 : Int) (H13 : Hp) => ∃ k14, Fix (fun (rec19 : (Int × Int) → Hp → Prop) (s16 : Int × Int) (H17 : Hp) => if decide (s16.2 < (x3.1.n : Int)) = true then (0 ≤ s16.2 ∧ s16.2 < (x3.1.n : Int) ∧ someA x3.1.a (fun p22 => ∃ x24 : Int, ∃ x25 : Int, ∃ x26 : Int, ∃ x27 : Int, ldA H17 (p22.add (Int.toNat s16.2 * 4)) (c29 x24 x25 x26 x27) ∧ (Gn [] H17 (fun (b29 : Nat) (H31 : Hp) => Join (fun (s33 : Bool) (H34 : Hp) => if s33 = true then (Q false H34) else (∃ k35, Fix (fun (rec40 : Int → Hp → Prop) (s37 : Int) (H38 : Hp) => if decide ((IntKind.wrap .i64 (s37 + 1)) < x25) = true then (Join (fun (s42 : Bool) (H43 : Hp) => if s42 = true then (Q false H43) else (rec40 ((IntKind.wrap .i64 (s37 + 1))) H43)) (fun (J41 : Bool → Hp → Prop) => 0 ≤ s37 ∧ s37 < (a0.size : Int) ∧ (if ((bt a0 s37) == 255) = true then (0 ≤ (IntKind.wrap .i64 (s37 + 1)) ∧ (IntKind.wrap .i64 (s37 + 1)) < (a0.size : Int) ∧ (if ((bt a0 (IntKind.wrap .i64 (s37 + 1))) != 0) = true then (0 ≤ (IntKind.wrap .i64 (s37 + 1)) ∧ (IntKind.wrap .i64 (s37 + 1)) < (a0.size : Int) ∧ (J41 (((bt a0 (IntKind.wrap .i64 (s37 + 1))) != 255)) H38)) else (J41 (false) H38))) else (J41 (false) H38)))) else (Join (fun (s51 : Bool) (H52 : Hp) => if s51 = true then (Q false H52) else (Join (fun (s54 : Int) (H55 : Hp) => ∃ k56, Fix (fun (rec61 : Int → Hp → Prop) (s58 : Int) (H59 : Hp) => if decide (s58 < s54) = true then (0 ≤ s58 ∧ s58 < (a0.size : Int) ∧ (if ((bt a0 s58) != 255) = true then (Q false H59) else (rec61 ((IntKind.wrap .i64 (s58 + 1))) H59))) else (rec19 (x27, (IntKind.wrap .i64 (s16.2 + 1))) H59)) k56 (x25) H55) (fun (J53 : Int → Hp → Prop) => if decide ((0 : Int) ≤ x26) = true then (Join (fun (s65 : Bool) (H66 : Hp) => if s65 = true then (Q false H66) else (J53 ((IntKind.wrap .i64 (x27 - 1))) H66)) (fun (J64 : Bool → Hp → Prop) => if decide ((IntKind.wrap .i64 (x27 - 1)) < (IntKind.wrap .i64 (x25 + 1))) = true then (J64 (true) H52) else (0 ≤ (IntKind.wrap .i64 (x27 - 1)) ∧ (IntKind.wrap .i64 (x27 - 1)) < (a0.size : Int) ∧ (J64 (((bt a0 (IntKind.wrap .i64 (x27 - 1))) != (IntKind.wrap .u8 (IntKind.wrap .i64 ((208 : Int) + (IntKind.wrap .i64 x26)))))) H52)))) else (J53 (x27) H52)))) (fun (J50 : Bool → Hp → Prop) => if decide (x24 < x25) = true then (0 ≤ (IntKind.wrap .i64 (x25 - 1)) ∧ (IntKind.wrap .i64 (x25 - 1)) < (a0.size : Int) ∧ (J50 (((bt a0 (IntKind.wrap .i64 (x25 - 1))) == 255)) H38)) else (J50 (false) H38)))) k35 (x24) H34)) (fun (J32 : Bool → Hp → Prop) => if (x24 != s16.1) = true then (J32 (true) H31) else (if decide (x25 < x24) = true then (J32 (true) H31) else (if decide (x27 < x25) = true then (J32 (true) H31) else (if decide ((a0.size : Int) < x27) = true then (J32 (true) H31) else (if (!(decide (x26 < 0) == (s16.2 == (IntKind.wrap .i64 ((x3.1.n : Int) - 1))))) = true then (J32 (true) H31) else (if decide (x26 < (-2)) = true then (J32 (true) H31) else (J32 ((decide ((7 : Int) < x26))) H31))))))))))) else (0 ≤ (IntKind.wrap .i64 ((x3.1.n : Int) - 1)) ∧ (IntKind.wrap .i64 ((x3.1.n : Int) - 1)) < (x3.1.n : Int) ∧ someA x3.1.a (fun p76 => ∃ x78 : Int, ∃ x79 : Int, ∃ x80 : Int, ∃ x81 : Int, ldA H17 (p76.add (Int.toNat (IntKind.wrap .i64 ((x3.1.n : Int) - 1)) * 4)) (c29 x78 x79 x80 x81) ∧ (Gn [] H17 (fun (b83 : Nat) (H85 : Hp) => if (x81 != x3.2.1) = true then (Q false H85) else (if (x80 == (-2)) = true then (Q (x3.2.1 == (a0.size : Int)) H85) else (if decide ((IntKind.wrap .i64 (x3.2.1 + 1)) < (a0.size : Int)) = true then (0 ≤ x3.2.1 ∧ x3.2.1 < (a0.size : Int) ∧ (if ((bt a0 x3.2.1) == 255) = true then (0 ≤ (IntKind.wrap .i64 (x3.2.1 + 1)) ∧ (IntKind.wrap .i64 (x3.2.1 + 1)) < (a0.size : Int) ∧ (if ((bt a0 (IntKind.wrap .i64 (x3.2.1 + 1))) != 0) = true then (0 ≤ (IntKind.wrap .i64 (x3.2.1 + 1)) ∧ (IntKind.wrap .i64 (x3.2.1 + 1)) < (a0.size : Int) ∧ (if ((bt a0 (IntKind.wrap .i64 (x3.2.1 + 1))) != 255) = true then (0 ≤ (IntKind.wrap .i64 (x3.2.1 + 1)) ∧ (IntKind.wrap .i64 (x3.2.1 + 1)) < (a0.size : Int) ∧ (if decide ((bt a0 (IntKind.wrap .i64 (x3.2.1 + 1))) < 208) = true then (Q true H85) else (0 ≤ (IntKind.wrap .i64 (x3.2.1 + 1)) ∧ (IntKind.wrap .i64 (x3.2.1 + 1)) < (a0.size : Int) ∧ (Q (decide ((215 : Int) < (bt a0 (IntKind.wrap .i64 (x3.2.1 + 1))))) H85)))) else (Q false H85))) else (Q false H85))) else (Q false H85))) else (Q false H85)))))))) k14 (s12, 0) H13) (fun (J11 : Int → Hp → Prop) => if decide ((a0.size : Int) < s9) = true then (J11 ((a0.size : Int)) H10) else (J11 (s9) H10))) (fun (J8 : Int → Hp → Prop) => if decide (a1 < 0) = true then (J8 (0) H7) else (J8 (a1) H7)))) (fun (J5 : Bool → Hp → Prop) => if (!x1) = true then (J5 (true) H4) else (if (x3.2.2 != 0) = true then (J5 (true) H4) else (J5 (((x3.1.n : Int) == 0)) H4)))))
set_option maxRecDepth 20000 in
set_option maxHeartbeats 4000000 in
theorem mosaiclaw19_CutsCover.calls (a0 : ByteArray) (a1 : Int) (w0 : World) (Q : Bool → Hp → Prop) (h : mosaiclaw19_CutsCover.s a0 a1 w0.heap Q) :
    Ca Try.prog 6 #[.string a0, .int .i64 a1] w0 (Rt mosaiclaw19_CutsCover.enc Q w0) := by
  refine ca_start (c := _) Try.func6 rfl Try.ntmps6 rfl ?_
  have so : Sm w0 w0 := Sm.refl w0
  unfold mosaiclaw19_CutsCover.s at h
  refine wc_prune [(0, .string a0), (1, .int .i64 a1)] ⟨rfl, rfl, trivial⟩ (fun f1 => ?_)
  refine wc_seq ?_
  refine wc_region ?_
  refine wl_val (at_assign rfl) rfl ?_
  refine wl_nil ?_
  refine wk_prune [(0, .string a0), (1, .int .i64 a1)] ⟨rfl, rfl, trivial⟩ (fun f1 => ?_)
  refine wk_then ?_
  refine wc_seq ?_
  refine wc_region ?_
  refine wl_callF (mosaiclaw19_alive.calls _ _ h) enter13 rfl trivial so ?_; intro x1 w2 h so
  refine wl_val (at_assign rfl) rfl ?_
  refine wl_nil ?_
  refine wk_prune [(0, .string a0), (1, .int .i64 a1), (5, .bool x1)] ⟨rfl, rfl, rfl, trivial⟩ (fun f1 => ?_)
  refine wk_then ?_
  refine wc_seq ?_
  refine wc_region ?_
  refine wl_val (at_move rfl) rfl ?_
  refine wl_val (at_move rfl) rfl ?_
  refine wl_val (at_move rfl) rfl ?_
  refine wl_val (at_lenS Try.underlying9 rfl) rfl ?_
  refine wl_val (at_add rfl rfl) rfl ?_
  refine wl_callF (cuts_Pieces.calls _ _ _ _ _ h) enter11 rfl trivial so ?_; intro x3 w4 h so
  refine wl_val (at_move rfl) rfl ?_
  refine wl_val (at_extract rfl rfl) rfl ?_
  refine wl_val (at_extract rfl rfl) rfl ?_
  refine wl_val (at_extract rfl rfl) rfl ?_
  refine wl_val (at_assign rfl) rfl ?_
  refine wl_val (at_assign rfl) rfl ?_
  refine wl_val (at_assign rfl) rfl ?_
  refine wl_nil ?_
  refine wk_prune [(0, .string a0), (1, .int .i64 a1), (5, .bool x1), (6, .slice x3.1.a x3.1.n x3.1.c), (7, .int .i64 x3.2.1), (8, .int .i64 x3.2.2)] ⟨rfl, rfl, rfl, rfl, rfl, rfl, trivial⟩ (fun f1 => ?_)
  refine wk_then ?_
  refine wc_seq ?_
  refine wc_seq ?_
  refine wc_join (w0 := w0) (fun (s6 : Bool) => [(0, .string a0), (1, .int .i64 a1), (6, .slice x3.1.a x3.1.n x3.1.c), (7, .int .i64 x3.2.1), (37, .bool s6)]) h ?_ ?_
  · rintro s6 w7 f1 h so; refine wk_then ?_
    refine wc_cond rfl h (fun h => ?_) (fun h => ?_)
    · refine wc_seq ?_
      refine wc_region ?_
      refine wl_val (at_assign rfl) rfl ?_
      refine wl_nil ?_
      refine wk_prune [(4, .bool false)] ⟨rfl, trivial⟩ (fun f1 => ?_)
      refine wk_then ?_
      refine wc_ret ?_
      refine wk_thenR ?_
      exact wk_ret1 (x := false) rfl (by decide) rfl so h
    · refine wc_skip ?_
      refine wk_prune [(0, .string a0), (1, .int .i64 a1), (6, .slice x3.1.a x3.1.n x3.1.c), (7, .int .i64 x3.2.1)] ⟨rfl, rfl, rfl, rfl, trivial⟩ (fun f1 => ?_)
      refine wk_then ?_
      refine wc_seq ?_
      refine wc_region ?_
      refine wl_val (at_move rfl) rfl ?_
      refine wl_val (at_assign rfl) rfl ?_
      refine wl_nil ?_
      refine wk_prune [(0, .string a0), (6, .slice x3.1.a x3.1.n x3.1.c), (7, .int .i64 x3.2.1), (9, .int .i64 a1)] ⟨rfl, rfl, rfl, rfl, trivial⟩ (fun f1 => ?_)
      refine wk_then ?_
      refine wc_seq ?_
      refine wc_join (w0 := w0) (fun (s9 : Int) => [(0, .string a0), (6, .slice x3.1.a x3.1.n x3.1.c), (7, .int .i64 x3.2.1), (9, .int .i64 s9)]) h ?_ ?_
      · rintro s9 w10 f1 h so; refine wk_then ?_
        refine wc_seq ?_
        refine wc_join (w0 := w0) (fun (s12 : Int) => [(0, .string a0), (6, .slice x3.1.a x3.1.n x3.1.c), (7, .int .i64 x3.2.1), (9, .int .i64 s12)]) h ?_ ?_
        · rintro s12 w13 f1 h so; refine wk_then ?_
          refine wc_seq ?_
          refine wc_seq ?_
          refine wc_region ?_
          refine wl_val (at_assign rfl) rfl ?_
          refine wl_nil ?_
          refine wk_prune [(0, .string a0), (6, .slice x3.1.a x3.1.n x3.1.c), (7, .int .i64 x3.2.1), (9, .int .i64 s12), (10, .int .i64 0)] ⟨rfl, rfl, rfl, rfl, rfl, trivial⟩ (fun f1 => ?_)
          refine wk_then ?_
          refine wc_block ?_
          obtain ⟨k14, h⟩ := h
          refine wc_loop (fun k a w => ∃ (s16 : Int × Int) (f1 : Nat → Value), a = ac 236 (en f1 [(0, .string a0), (6, .slice x3.1.a x3.1.n x3.1.c), (7, .int .i64 x3.2.1), (9, .int .i64 s16.1), (10, .int .i64 s16.2)]) [] ∧ Sm w0 w ∧ Fix _ k s16 w.heap) k14 ⟨(s12, 0), _, ac_again ⟨rfl, rfl, rfl, rfl, rfl, trivial⟩, so, h⟩ ?_
          rintro k15 a18 w17 ⟨s16, f1, rfl, so, h⟩
          rcases k15 with _ | k15
          · exact h.elim
          replace h := Fix.un h; refine wc_in ?_
          refine wc_seq ?_
          refine wc_seq ?_
          refine wc_region ?_
          refine wl_val (at_move rfl) rfl ?_
          refine wl_val (at_move rfl) rfl ?_
          refine wl_val (at_lenL Try.underlying22 rfl) rfl ?_
          refine wl_val (at_lss rfl rfl) rfl ?_
          refine wl_nil ?_
          refine wk_prune [(0, .string a0), (6, .slice x3.1.a x3.1.n x3.1.c), (7, .int .i64 x3.2.1), (9, .int .i64 s16.1), (10, .int .i64 s16.2), (50, .bool (decide (s16.2 < (x3.1.n : Int))))] ⟨rfl, rfl, rfl, rfl, rfl, rfl, trivial⟩ (fun f1 => ?_)
          refine wk_then ?_
          refine wc_cond rfl h (fun h => ?_) (fun h => ?_)
          · refine wc_skip ?_
            refine wk_prune [(0, .string a0), (6, .slice x3.1.a x3.1.n x3.1.c), (7, .int .i64 x3.2.1), (9, .int .i64 s16.1), (10, .int .i64 s16.2)] ⟨rfl, rfl, rfl, rfl, rfl, trivial⟩ (fun f1 => ?_)
            refine wk_then ?_
            refine wc_seq ?_
            refine wc_block ?_
            refine wc_seq ?_
            refine wc_region ?_
            refine wl_val (at_move rfl) rfl ?_
            refine wl_val (at_move rfl) rfl ?_
            obtain ⟨q20, q21, p22, q23, h⟩ := h
            refine wl_val (at_ixAddrL Try.underlying22 sz29 (sl_some q23) rfl q20 q21) rfl ?_
            obtain ⟨x24, x25, x26, x27, q28, h⟩ := h
            refine wl_val (at_loadA (cs := (c29 x24 x25 x26 x27)) Try.underlying29 rfl (by rw [len29]; exact sz29) rfl q28) rfl ?_
            refine wl_newT (T := 29) (cs := (c29 0 0 0 0)) (ef_alloc zero29 rfl) rfl so ?_; intro b29 w30 hb_b29 t_b29 k_b29 so
            have g_b29 := Nat.le_of_eq hb_b29.symm
            have hc := k_b29.ch (F := [])
            refine wl_stWT (vs := (c29 x24 x25 x26 x27)) t_b29 (by first | (rw [len29, len29]) | (rw [len29]) | rfl) rfl so (fun q => ef_storeA (p := (⟨b29, 0, none⟩ : Addr)) (cs := (c29 x24 x25 x26 x27)) (by rw [len29]; exact sz29) rfl rfl (one29 _ _ _ _) q) ?_; intro w31 t_b29 s_w31 so
            replace hc := ch_same hc s_w31 (.inr g_b29)
            refine wl_nil ?_
            refine wk_prune [(0, .string a0), (6, .slice x3.1.a x3.1.n x3.1.c), (7, .int .i64 x3.2.1), (9, .int .i64 s16.1), (10, .int .i64 s16.2), (11, .pointer (some (⟨b29, 0, none⟩ : Addr)))] ⟨rfl, rfl, rfl, rfl, rfl, rfl, trivial⟩ (fun f1 => ?_)
            refine wk_then ?_
            refine wc_seq ?_
            replace h := h b29 _ hc g_b29 t_b29.lt; clear hc
            refine wc_seq ?_
            refine wc_joinG (w0 := w0) (fun (H : Hp) => Bk H b29 29 (c29 x24 x25 x26 x27) ∧ True) (fun (s33 : Bool) => [(0, .string a0), (6, .slice x3.1.a x3.1.n x3.1.c), (7, .int .i64 x3.2.1), (10, .int .i64 s16.2), (11, .pointer (some (⟨b29, 0, none⟩ : Addr))), (102, .bool s33)]) (fun (s33 : Bool) => []) h ?_ ?_
            · rintro s33 w34 f1 h ⟨t_b29, _⟩ so; refine wk_then ?_
              refine wc_cond rfl h (fun h => ?_) (fun h => ?_)
              · refine wc_seq ?_
                refine wc_region ?_
                refine wl_val (at_assign rfl) rfl ?_
                refine wl_nil ?_
                refine wk_prune [(4, .bool false)] ⟨rfl, trivial⟩ (fun f1 => ?_)
                refine wk_then ?_
                refine wc_ret ?_
                refine wk_thenR ?_
                refine wk_blkR ?_
                refine wk_thenR ?_
                refine wk_thenR ?_
                refine wk_blkR ?_
                refine wk_thenR ?_
                exact wk_ret1 (x := false) rfl (by decide) rfl so h
              · refine wc_skip ?_
                refine wk_prune [(0, .string a0), (6, .slice x3.1.a x3.1.n x3.1.c), (7, .int .i64 x3.2.1), (10, .int .i64 s16.2), (11, .pointer (some (⟨b29, 0, none⟩ : Addr)))] ⟨rfl, rfl, rfl, rfl, rfl, trivial⟩ (fun f1 => ?_)
                refine wk_then ?_
                refine wc_seq ?_
                refine wc_seq ?_
                refine wc_region ?_
                refine wl_val (at_fieldAddr Try.underlying29 rfl rfl sz3 (by decide) rfl) rfl ?_
                refine wl_val (at_load (v := .int .i64 x24) Try.underlying3 rfl rfl ((t_b29.cell 0).trans (by first | rfl | simp [List.getElem?_append, ints_len, bools_len]))) rfl ?_
                refine wl_val (at_assign rfl) rfl ?_
                refine wl_nil ?_
                refine wk_prune [(0, .string a0), (6, .slice x3.1.a x3.1.n x3.1.c), (7, .int .i64 x3.2.1), (10, .int .i64 s16.2), (11, .pointer (some (⟨b29, 0, none⟩ : Addr))), (12, .int .i64 x24)] ⟨rfl, rfl, rfl, rfl, rfl, rfl, trivial⟩ (fun f1 => ?_)
                refine wk_then ?_
                refine wc_block ?_
                obtain ⟨k35, h⟩ := h
                refine wc_loop (fun k a w => ∃ (s37 : Int) (f1 : Nat → Value), a = ac 236 (en f1 [(0, .string a0), (6, .slice x3.1.a x3.1.n x3.1.c), (7, .int .i64 x3.2.1), (10, .int .i64 s16.2), (11, .pointer (some (⟨b29, 0, none⟩ : Addr))), (12, .int .i64 s37)]) [] ∧ Sm w0 w ∧ (Bk w.heap b29 29 (c29 x24 x25 x26 x27) ∧ True) ∧ Fix _ k s37 w.heap) k35 ⟨(x24), _, ac_again ⟨rfl, rfl, rfl, rfl, rfl, rfl, trivial⟩, so, ⟨t_b29, trivial⟩, h⟩ ?_
                rintro k36 a39 w38 ⟨s37, f1, rfl, so, ⟨t_b29, _⟩, h⟩
                rcases k36 with _ | k36
                · exact h.elim
                replace h := Fix.un h; refine wc_in ?_
                refine wc_seq ?_
                refine wc_seq ?_
                refine wc_region ?_
                refine wl_val (at_move rfl) rfl ?_
                refine wl_val (at_add rfl rfl) rfl ?_
                refine wl_val (at_fieldAddr Try.underlying29 rfl rfl sz3 (by decide) rfl) rfl ?_
                refine wl_val (at_load (v := .int .i64 x25) Try.underlying3 rfl rfl ((t_b29.cell 1).trans (by first | rfl | simp [List.getElem?_append, ints_len, bools_len]))) rfl ?_
                refine wl_val (at_lss rfl rfl) rfl ?_
                refine wl_nil ?_
                refine wk_prune [(0, .string a0), (6, .slice x3.1.a x3.1.n x3.1.c), (7, .int .i64 x3.2.1), (10, .int .i64 s16.2), (11, .pointer (some (⟨b29, 0, none⟩ : Addr))), (12, .int .i64 s37), (109, .bool (decide ((IntKind.wrap .i64 (s37 + 1)) < x25)))] ⟨rfl, rfl, rfl, rfl, rfl, rfl, rfl, trivial⟩ (fun f1 => ?_)
                refine wk_then ?_
                refine wc_cond rfl h (fun h => ?_) (fun h => ?_)
                · refine wc_skip ?_
                  refine wk_prune [(0, .string a0), (6, .slice x3.1.a x3.1.n x3.1.c), (7, .int .i64 x3.2.1), (10, .int .i64 s16.2), (11, .pointer (some (⟨b29, 0, none⟩ : Addr))), (12, .int .i64 s37)] ⟨rfl, rfl, rfl, rfl, rfl, rfl, trivial⟩ (fun f1 => ?_)
                  refine wk_then ?_
                  refine wc_seq ?_
                  refine wc_block ?_
                  refine wc_seq ?_
                  refine wc_joinG (w0 := w0) (fun (H : Hp) => Bk H b29 29 (c29 x24 x25 x26 x27) ∧ True) (fun (s42 : Bool) => [(0, .string a0), (6, .slice x3.1.a x3.1.n x3.1.c), (7, .int .i64 x3.2.1), (10, .int .i64 s16.2), (11, .pointer (some (⟨b29, 0, none⟩ : Addr))), (12, .int .i64 s37), (129, .bool s42)]) (fun (s42 : Bool) => []) h ?_ ?_
                  · rintro s42 w43 f1 h ⟨t_b29, _⟩ so; refine wk_then ?_
                    refine wc_cond rfl h (fun h => ?_) (fun h => ?_)
                    · refine wc_seq ?_
                      refine wc_region ?_
                      refine wl_val (at_assign rfl) rfl ?_
                      refine wl_nil ?_
                      refine wk_prune [(4, .bool false)] ⟨rfl, trivial⟩ (fun f1 => ?_)
                      refine wk_then ?_
                      refine wc_ret ?_
                      refine wk_blkR ?_
                      refine wk_thenR ?_
                      refine wk_thenR ?_
                      refine wk_blkR ?_
                      refine wk_thenR ?_
                      refine wk_blkR ?_
                      refine wk_thenR ?_
                      refine wk_thenR ?_
                      refine wk_blkR ?_
                      refine wk_thenR ?_
                      exact wk_ret1 (x := false) rfl (by decide) rfl so h
                    · refine wc_skip ?_
                      refine wk_blkN ?_
                      refine wk_prune [(0, .string a0), (6, .slice x3.1.a x3.1.n x3.1.c), (7, .int .i64 x3.2.1), (10, .int .i64 s16.2), (11, .pointer (some (⟨b29, 0, none⟩ : Addr))), (12, .int .i64 s37)] ⟨rfl, rfl, rfl, rfl, rfl, rfl, trivial⟩ (fun f1 => ?_)
                      refine wk_then ?_
                      refine wc_region ?_
                      refine wl_val (at_move rfl) rfl ?_
                      refine wl_val (at_add rfl rfl) rfl ?_
                      refine wl_val (at_assign rfl) rfl ?_
                      refine wl_nil ?_
                      exact wk_again ⟨((IntKind.wrap .i64 (s37 + 1))), _, ac_again ⟨rfl, rfl, rfl, rfl, rfl, rfl, trivial⟩, so, ⟨t_b29, trivial⟩, h⟩
                  · intro J41 h hJ41
                    refine wc_region ?_
                    refine wl_val (at_move rfl) rfl ?_
                    refine wl_val (at_move rfl) rfl ?_
                    obtain ⟨q44, q45, h⟩ := h
                    refine wl_val (at_ixS Try.underlying9 rfl rfl q44 q45) rfl ?_
                    refine wl_val (at_eql rfl rfl) rfl ?_
                    refine wl_val (at_move rfl) rfl ?_
                    refine bif_ h (fun hb h => ?_) (fun hb h => ?_)
                    · refine wl_set (t := 116) (v := .bool true) (congrArg Value.bool hb) ?_; clear hb
                      refine wl_on (t := 116) rfl (by decide) rfl ?_
                      refine wl_val (at_move rfl) rfl ?_
                      refine wl_on (t := 116) rfl (by decide) rfl ?_
                      refine wl_val (at_move rfl) rfl ?_
                      refine wl_on (t := 116) rfl (by decide) rfl ?_
                      refine wl_val (at_add rfl rfl) rfl ?_
                      refine wl_on (t := 116) rfl (by decide) rfl ?_
                      obtain ⟨q46, q47, h⟩ := h
                      refine wl_val (at_ixS Try.underlying9 rfl rfl q46 q47) rfl ?_
                      refine wl_on (t := 116) rfl (by decide) rfl ?_
                      refine wl_val (at_neq rfl rfl) rfl ?_
                      refine wl_val (at_pick_t rfl rfl) rfl ?_
                      refine wl_val (at_move rfl) rfl ?_
                      refine bif_ h (fun hb h => ?_) (fun hb h => ?_)
                      · refine wl_set (t := 123) (v := .bool true) (congrArg Value.bool hb) ?_; clear hb
                        refine wl_on (t := 123) rfl (by decide) rfl ?_
                        refine wl_val (at_move rfl) rfl ?_
                        refine wl_on (t := 123) rfl (by decide) rfl ?_
                        refine wl_val (at_move rfl) rfl ?_
                        refine wl_on (t := 123) rfl (by decide) rfl ?_
                        refine wl_val (at_add rfl rfl) rfl ?_
                        refine wl_on (t := 123) rfl (by decide) rfl ?_
                        obtain ⟨q48, q49, h⟩ := h
                        refine wl_val (at_ixS Try.underlying9 rfl rfl q48 q49) rfl ?_
                        refine wl_on (t := 123) rfl (by decide) rfl ?_
                        refine wl_val (at_neq rfl rfl) rfl ?_
                        refine wl_val (at_pick_t rfl rfl) rfl ?_
                        refine wl_nil ?_
                        exact wk_prune [(0, .string a0), (6, .slice x3.1.a x3.1.n x3.1.c), (7, .int .i64 x3.2.1), (10, .int .i64 s16.2), (11, .pointer (some (⟨b29, 0, none⟩ : Addr))), (12, .int .i64 s37), (129, .bool ((bt a0 (IntKind.wrap .i64 (s37 + 1))) != 255))] ⟨rfl, rfl, rfl, rfl, rfl, rfl, rfl, trivial⟩ (fun f1 => hJ41 (((bt a0 (IntKind.wrap .i64 (s37 + 1))) != 255)) _ f1 h ⟨t_b29, trivial⟩ so)
                      · refine wl_set (t := 123) (v := .bool false) (congrArg Value.bool hb) ?_; clear hb
                        refine wl_off (t := 123) rfl (by decide) rfl ?_
                        refine wl_off (t := 123) rfl (by decide) rfl ?_
                        refine wl_off (t := 123) rfl (by decide) rfl ?_
                        refine wl_off (t := 123) rfl (by decide) rfl ?_
                        refine wl_off (t := 123) rfl (by decide) rfl ?_
                        refine wl_val (at_pick_f rfl rfl) rfl ?_
                        refine wl_nil ?_
                        exact wk_prune [(0, .string a0), (6, .slice x3.1.a x3.1.n x3.1.c), (7, .int .i64 x3.2.1), (10, .int .i64 s16.2), (11, .pointer (some (⟨b29, 0, none⟩ : Addr))), (12, .int .i64 s37), (129, .bool false)] ⟨rfl, rfl, rfl, rfl, rfl, rfl, rfl, trivial⟩ (fun f1 => hJ41 (false) _ f1 h ⟨t_b29, trivial⟩ so)
                    · refine wl_set (t := 116) (v := .bool false) (congrArg Value.bool hb) ?_; clear hb
                      refine wl_off (t := 116) rfl (by decide) rfl ?_
                      refine wl_off (t := 116) rfl (by decide) rfl ?_
                      refine wl_off (t := 116) rfl (by decide) rfl ?_
                      refine wl_off (t := 116) rfl (by decide) rfl ?_
                      refine wl_off (t := 116) rfl (by decide) rfl ?_
                      refine wl_val (at_pick_f rfl rfl) rfl ?_
                      refine wl_val (at_move rfl) rfl ?_
                      refine wl_off (t := 123) rfl (by decide) rfl ?_
                      refine wl_off (t := 123) rfl (by decide) rfl ?_
                      refine wl_off (t := 123) rfl (by decide) rfl ?_
                      refine wl_off (t := 123) rfl (by decide) rfl ?_
                      refine wl_off (t := 123) rfl (by decide) rfl ?_
                      refine wl_val (at_pick_f rfl rfl) rfl ?_
                      refine wl_nil ?_
                      exact wk_prune [(0, .string a0), (6, .slice x3.1.a x3.1.n x3.1.c), (7, .int .i64 x3.2.1), (10, .int .i64 s16.2), (11, .pointer (some (⟨b29, 0, none⟩ : Addr))), (12, .int .i64 s37), (129, .bool false)] ⟨rfl, rfl, rfl, rfl, rfl, rfl, rfl, trivial⟩ (fun f1 => hJ41 (false) _ f1 h ⟨t_b29, trivial⟩ so)
                · refine wc_exit ?_
                  refine wk_thenE ?_
                  refine wk_thenE ?_
                  refine wk_blkE ?_
                  refine wk_prune [(0, .string a0), (6, .slice x3.1.a x3.1.n x3.1.c), (7, .int .i64 x3.2.1), (10, .int .i64 s16.2), (11, .pointer (some (⟨b29, 0, none⟩ : Addr)))] ⟨rfl, rfl, rfl, rfl, rfl, trivial⟩ (fun f1 => ?_)
                  refine wk_then ?_
                  refine wc_seq ?_
                  refine wc_seq ?_
                  refine wc_joinG (w0 := w0) (fun (H : Hp) => Bk H b29 29 (c29 x24 x25 x26 x27) ∧ True) (fun (s51 : Bool) => [(0, .string a0), (6, .slice x3.1.a x3.1.n x3.1.c), (7, .int .i64 x3.2.1), (10, .int .i64 s16.2), (11, .pointer (some (⟨b29, 0, none⟩ : Addr))), (142, .bool s51)]) (fun (s51 : Bool) => []) h ?_ ?_
                  · rintro s51 w52 f1 h ⟨t_b29, _⟩ so; refine wk_then ?_
                    refine wc_cond rfl h (fun h => ?_) (fun h => ?_)
                    · refine wc_seq ?_
                      refine wc_region ?_
                      refine wl_val (at_assign rfl) rfl ?_
                      refine wl_nil ?_
                      refine wk_prune [(4, .bool false)] ⟨rfl, trivial⟩ (fun f1 => ?_)
                      refine wk_then ?_
                      refine wc_ret ?_
                      refine wk_thenR ?_
                      refine wk_blkR ?_
                      refine wk_thenR ?_
                      refine wk_thenR ?_
                      refine wk_blkR ?_
                      refine wk_thenR ?_
                      exact wk_ret1 (x := false) rfl (by decide) rfl so h
                    · refine wc_skip ?_
                      refine wk_prune [(0, .string a0), (6, .slice x3.1.a x3.1.n x3.1.c), (7, .int .i64 x3.2.1), (10, .int .i64 s16.2), (11, .pointer (some (⟨b29, 0, none⟩ : Addr)))] ⟨rfl, rfl, rfl, rfl, rfl, trivial⟩ (fun f1 => ?_)
                      refine wk_then ?_
                      refine wc_seq ?_
                      refine wc_region ?_
                      refine wl_val (at_fieldAddr Try.underlying29 rfl rfl sz3 (by decide) rfl) rfl ?_
                      refine wl_val (at_load (v := .int .i64 x27) Try.underlying3 rfl rfl ((t_b29.cell 3).trans (by first | rfl | simp [List.getElem?_append, ints_len, bools_len]))) rfl ?_
                      refine wl_val (at_assign rfl) rfl ?_
                      refine wl_nil ?_
                      refine wk_prune [(0, .string a0), (6, .slice x3.1.a x3.1.n x3.1.c), (7, .int .i64 x3.2.1), (10, .int .i64 s16.2), (11, .pointer (some (⟨b29, 0, none⟩ : Addr))), (13, .int .i64 x27)] ⟨rfl, rfl, rfl, rfl, rfl, rfl, trivial⟩ (fun f1 => ?_)
                      refine wk_then ?_
                      refine wc_seq ?_
                      refine wc_joinG (w0 := w0) (fun (H : Hp) => Bk H b29 29 (c29 x24 x25 x26 x27) ∧ True) (fun (s54 : Int) => [(0, .string a0), (6, .slice x3.1.a x3.1.n x3.1.c), (7, .int .i64 x3.2.1), (10, .int .i64 s16.2), (11, .pointer (some (⟨b29, 0, none⟩ : Addr))), (13, .int .i64 s54)]) (fun (s54 : Int) => []) h ?_ ?_
                      · rintro s54 w55 f1 h ⟨t_b29, _⟩ so; refine wk_then ?_
                        refine wc_seq ?_
                        refine wc_seq ?_
                        refine wc_region ?_
                        refine wl_val (at_fieldAddr Try.underlying29 rfl rfl sz3 (by decide) rfl) rfl ?_
                        refine wl_val (at_load (v := .int .i64 x25) Try.underlying3 rfl rfl ((t_b29.cell 1).trans (by first | rfl | simp [List.getElem?_append, ints_len, bools_len]))) rfl ?_
                        refine wl_val (at_assign rfl) rfl ?_
                        refine wl_nil ?_
                        refine wk_prune [(0, .string a0), (6, .slice x3.1.a x3.1.n x3.1.c), (7, .int .i64 x3.2.1), (10, .int .i64 s16.2), (11, .pointer (some (⟨b29, 0, none⟩ : Addr))), (13, .int .i64 s54), (14, .int .i64 x25)] ⟨rfl, rfl, rfl, rfl, rfl, rfl, rfl, trivial⟩ (fun f1 => ?_)
                        refine wk_then ?_
                        refine wc_block ?_
                        obtain ⟨k56, h⟩ := h
                        refine wc_loop (fun k a w => ∃ (s58 : Int) (f1 : Nat → Value), a = ac 236 (en f1 [(0, .string a0), (6, .slice x3.1.a x3.1.n x3.1.c), (7, .int .i64 x3.2.1), (10, .int .i64 s16.2), (11, .pointer (some (⟨b29, 0, none⟩ : Addr))), (13, .int .i64 s54), (14, .int .i64 s58)]) [] ∧ Sm w0 w ∧ (Bk w.heap b29 29 (c29 x24 x25 x26 x27) ∧ True) ∧ Fix _ k s58 w.heap) k56 ⟨(x25), _, ac_again ⟨rfl, rfl, rfl, rfl, rfl, rfl, rfl, trivial⟩, so, ⟨t_b29, trivial⟩, h⟩ ?_
                        rintro k57 a60 w59 ⟨s58, f1, rfl, so, ⟨t_b29, _⟩, h⟩
                        rcases k57 with _ | k57
                        · exact h.elim
                        replace h := Fix.un h; refine wc_in ?_
                        refine wc_seq ?_
                        refine wc_seq ?_
                        refine wc_region ?_
                        refine wl_val (at_move rfl) rfl ?_
                        refine wl_val (at_move rfl) rfl ?_
                        refine wl_val (at_lss rfl rfl) rfl ?_
                        refine wl_nil ?_
                        refine wk_prune [(0, .string a0), (6, .slice x3.1.a x3.1.n x3.1.c), (7, .int .i64 x3.2.1), (10, .int .i64 s16.2), (11, .pointer (some (⟨b29, 0, none⟩ : Addr))), (13, .int .i64 s54), (14, .int .i64 s58), (171, .bool (decide (s58 < s54)))] ⟨rfl, rfl, rfl, rfl, rfl, rfl, rfl, rfl, trivial⟩ (fun f1 => ?_)
                        refine wk_then ?_
                        refine wc_cond rfl h (fun h => ?_) (fun h => ?_)
                        · refine wc_skip ?_
                          refine wk_prune [(0, .string a0), (6, .slice x3.1.a x3.1.n x3.1.c), (7, .int .i64 x3.2.1), (10, .int .i64 s16.2), (11, .pointer (some (⟨b29, 0, none⟩ : Addr))), (13, .int .i64 s54), (14, .int .i64 s58)] ⟨rfl, rfl, rfl, rfl, rfl, rfl, rfl, trivial⟩ (fun f1 => ?_)
                          refine wk_then ?_
                          refine wc_seq ?_
                          refine wc_block ?_
                          refine wc_seq ?_
                          refine wc_region ?_
                          refine wl_val (at_move rfl) rfl ?_
                          refine wl_val (at_move rfl) rfl ?_
                          obtain ⟨q62, q63, h⟩ := h
                          refine wl_val (at_ixS Try.underlying9 rfl rfl q62 q63) rfl ?_
                          refine wl_val (at_neq rfl rfl) rfl ?_
                          refine wl_nil ?_
                          refine wk_prune [(0, .string a0), (6, .slice x3.1.a x3.1.n x3.1.c), (7, .int .i64 x3.2.1), (10, .int .i64 s16.2), (11, .pointer (some (⟨b29, 0, none⟩ : Addr))), (13, .int .i64 s54), (14, .int .i64 s58), (177, .bool ((bt a0 s58) != 255))] ⟨rfl, rfl, rfl, rfl, rfl, rfl, rfl, rfl, trivial⟩ (fun f1 => ?_)
                          refine wk_then ?_
                          refine wc_cond rfl h (fun h => ?_) (fun h => ?_)
                          · refine wc_seq ?_
                            refine wc_region ?_
                            refine wl_val (at_assign rfl) rfl ?_
                            refine wl_nil ?_
                            refine wk_prune [(4, .bool false)] ⟨rfl, trivial⟩ (fun f1 => ?_)
                            refine wk_then ?_
                            refine wc_ret ?_
                            refine wk_blkR ?_
                            refine wk_thenR ?_
                            refine wk_thenR ?_
                            refine wk_blkR ?_
                            refine wk_thenR ?_
                            refine wk_blkR ?_
                            refine wk_thenR ?_
                            refine wk_thenR ?_
                            refine wk_blkR ?_
                            refine wk_thenR ?_
                            exact wk_ret1 (x := false) rfl (by decide) rfl so h
                          · refine wc_skip ?_
                            refine wk_blkN ?_
                            refine wk_prune [(0, .string a0), (6, .slice x3.1.a x3.1.n x3.1.c), (7, .int .i64 x3.2.1), (10, .int .i64 s16.2), (11, .pointer (some (⟨b29, 0, none⟩ : Addr))), (13, .int .i64 s54), (14, .int .i64 s58)] ⟨rfl, rfl, rfl, rfl, rfl, rfl, rfl, trivial⟩ (fun f1 => ?_)
                            refine wk_then ?_
                            refine wc_region ?_
                            refine wl_val (at_move rfl) rfl ?_
                            refine wl_val (at_add rfl rfl) rfl ?_
                            refine wl_val (at_assign rfl) rfl ?_
                            refine wl_nil ?_
                            exact wk_again ⟨((IntKind.wrap .i64 (s58 + 1))), _, ac_again ⟨rfl, rfl, rfl, rfl, rfl, rfl, rfl, trivial⟩, so, ⟨t_b29, trivial⟩, h⟩
                        · refine wc_exit ?_
                          refine wk_thenE ?_
                          refine wk_thenE ?_
                          refine wk_blkE ?_
                          refine wk_prune [(0, .string a0), (6, .slice x3.1.a x3.1.n x3.1.c), (7, .int .i64 x3.2.1), (10, .int .i64 s16.2), (11, .pointer (some (⟨b29, 0, none⟩ : Addr)))] ⟨rfl, rfl, rfl, rfl, rfl, trivial⟩ (fun f1 => ?_)
                          refine wk_then ?_
                          refine wc_region ?_
                          refine wl_val (at_fieldAddr Try.underlying29 rfl rfl sz3 (by decide) rfl) rfl ?_
                          refine wl_val (at_load (v := .int .i64 x27) Try.underlying3 rfl rfl ((t_b29.cell 3).trans (by first | rfl | simp [List.getElem?_append, ints_len, bools_len]))) rfl ?_
                          refine wl_val (at_assign rfl) rfl ?_
                          refine wl_nil ?_
                          refine wk_blkN ?_
                          refine wk_prune [(0, .string a0), (6, .slice x3.1.a x3.1.n x3.1.c), (7, .int .i64 x3.2.1), (9, .int .i64 x27), (10, .int .i64 s16.2)] ⟨rfl, rfl, rfl, rfl, rfl, trivial⟩ (fun f1 => ?_)
                          refine wk_then ?_
                          refine wc_region ?_
                          refine wl_val (at_move rfl) rfl ?_
                          refine wl_val (at_add rfl rfl) rfl ?_
                          refine wl_val (at_assign rfl) rfl ?_
                          refine wl_nil ?_
                          exact wk_again ⟨(x27, (IntKind.wrap .i64 (s16.2 + 1))), _, ac_again ⟨rfl, rfl, rfl, rfl, rfl, trivial⟩, so, h⟩
                      · intro J53 h hJ53
                        refine wc_seq ?_
                        refine wc_region ?_
                        refine wl_val (at_fieldAddr Try.underlying29 rfl rfl sz27 (by decide) rfl) rfl ?_
                        refine wl_val (at_load (v := .int .i8 x26) Try.underlying27 rfl rfl ((t_b29.cell 2).trans (by first | rfl | simp [List.getElem?_append, ints_len, bools_len]))) rfl ?_
                        refine wl_val (at_geq rfl rfl) rfl ?_
                        refine wl_nil ?_
                        refine wk_prune [(0, .string a0), (6, .slice x3.1.a x3.1.n x3.1.c), (7, .int .i64 x3.2.1), (10, .int .i64 s16.2), (11, .pointer (some (⟨b29, 0, none⟩ : Addr))), (13, .int .i64 x27), (147, .bool (decide ((0 : Int) ≤ x26)))] ⟨rfl, rfl, rfl, rfl, rfl, rfl, rfl, trivial⟩ (fun f1 => ?_)
                        refine wk_then ?_
                        refine wc_cond rfl h (fun h => ?_) (fun h => ?_)
                        · refine wc_seq ?_
                          refine wc_region ?_
                          refine wl_val (at_fieldAddr Try.underlying29 rfl rfl sz3 (by decide) rfl) rfl ?_
                          refine wl_val (at_load (v := .int .i64 x27) Try.underlying3 rfl rfl ((t_b29.cell 3).trans (by first | rfl | simp [List.getElem?_append, ints_len, bools_len]))) rfl ?_
                          refine wl_val (at_sub rfl rfl) rfl ?_
                          refine wl_val (at_assign rfl) rfl ?_
                          refine wl_nil ?_
                          refine wk_prune [(0, .string a0), (6, .slice x3.1.a x3.1.n x3.1.c), (7, .int .i64 x3.2.1), (10, .int .i64 s16.2), (11, .pointer (some (⟨b29, 0, none⟩ : Addr))), (13, .int .i64 (IntKind.wrap .i64 (x27 - 1)))] ⟨rfl, rfl, rfl, rfl, rfl, rfl, trivial⟩ (fun f1 => ?_)
                          refine wk_then ?_
                          refine wc_seq ?_
                          refine wc_joinG (w0 := w0) (fun (H : Hp) => Bk H b29 29 (c29 x24 x25 x26 x27) ∧ True) (fun (s65 : Bool) => [(0, .string a0), (6, .slice x3.1.a x3.1.n x3.1.c), (7, .int .i64 x3.2.1), (10, .int .i64 s16.2), (11, .pointer (some (⟨b29, 0, none⟩ : Addr))), (13, .int .i64 (IntKind.wrap .i64 (x27 - 1))), (166, .bool s65)]) (fun (s65 : Bool) => []) h ?_ ?_
                          · rintro s65 w66 f1 h ⟨t_b29, _⟩ so; refine wk_then ?_
                            refine wc_cond rfl h (fun h => ?_) (fun h => ?_)
                            · refine wc_seq ?_
                              refine wc_region ?_
                              refine wl_val (at_assign rfl) rfl ?_
                              refine wl_nil ?_
                              refine wk_prune [(4, .bool false)] ⟨rfl, trivial⟩ (fun f1 => ?_)
                              refine wk_then ?_
                              refine wc_ret ?_
                              refine wk_thenR ?_
                              refine wk_blkR ?_
                              refine wk_thenR ?_
                              refine wk_thenR ?_
                              refine wk_blkR ?_
                              refine wk_thenR ?_
                              exact wk_ret1 (x := false) rfl (by decide) rfl so h
                            · refine wc_skip ?_
                              exact wk_prune [(0, .string a0), (6, .slice x3.1.a x3.1.n x3.1.c), (7, .int .i64 x3.2.1), (10, .int .i64 s16.2), (11, .pointer (some (⟨b29, 0, none⟩ : Addr))), (13, .int .i64 (IntKind.wrap .i64 (x27 - 1)))] ⟨rfl, rfl, rfl, rfl, rfl, rfl, trivial⟩ (fun f1 => hJ53 ((IntKind.wrap .i64 (x27 - 1))) _ f1 h ⟨t_b29, trivial⟩ so)
                          · intro J64 h hJ64
                            refine wc_wo [0, 0, 2, 6, 15, 31, 63, 63, 255, 63, 575, 1599, 3647, 7743, 16383, 32767] mixed (by kernel_rfl) so ?_; intro w67 hw so; rw [← hw] at h t_b29; clear hw
                            refine wo_pure (m' := 1) 0 rfl (by kernel_rfl) rfl rfl (fun H => at_move rfl) ?_
                            refine wo_pure (m' := 3) 1 rfl (by kernel_rfl) rfl rfl (fun H => at_fieldAddr Try.underlying29 rfl rfl sz3 (by decide) rfl) ?_
                            have q68 : cellAt w67.heap (⟨b29, 1, none⟩ : Addr) = some (.int .i64 x25) := (t_b29.cell 1).trans (by first | rfl | simp [List.getElem?_append, ints_len, bools_len])
                            refine wo_load (m' := 7) 2 (fun H => cellAt H (⟨b29, 1, none⟩ : Addr) = some (.int .i64 x25)) rfl (by kernel_rfl) rfl rfl (fun H q68 => at_load (v := .int .i64 x25) Try.underlying3 rfl rfl (q68)) q68 ?_
                            refine wo_pure (m' := 15) 3 rfl (by kernel_rfl) rfl rfl (fun H => at_add rfl rfl) ?_
                            refine wo_pure (m' := 31) 4 rfl (by kernel_rfl) rfl rfl (fun H => at_lss rfl rfl) ?_
                            refine wo_pure (m' := 63) 5 rfl (by kernel_rfl) rfl rfl (fun H => at_move rfl) ?_
                            refine bif_ h (fun hb h => ?_) (fun hb h => ?_)
                            · refine wo_set (t := 156) (v := .bool true) (congrArg Value.bool hb) ?_; clear hb
                              refine wo_off (m' := 127) 6 rfl (by kernel_rfl) rfl (t := 156) rfl (by decide) rfl ?_
                              refine wo_off (m' := 255) 7 rfl (by kernel_rfl) rfl (t := 156) rfl (by decide) rfl ?_
                              refine wo_off (m' := 511) 8 rfl (by kernel_rfl) rfl (t := 156) rfl (by decide) rfl ?_
                              refine wo_off (m' := 1023) 9 rfl (by kernel_rfl) rfl (t := 156) rfl (by decide) rfl ?_
                              refine wo_off (m' := 2047) 10 rfl (by kernel_rfl) rfl (t := 156) rfl (by decide) rfl ?_
                              refine wo_off (m' := 4095) 11 rfl (by kernel_rfl) rfl (t := 156) rfl (by decide) rfl ?_
                              refine wo_off (m' := 8191) 12 rfl (by kernel_rfl) rfl (t := 156) rfl (by decide) rfl ?_
                              refine wo_off (m' := 16383) 13 rfl (by kernel_rfl) rfl (t := 156) rfl (by decide) rfl ?_
                              refine wo_off (m' := 32767) 14 rfl (by kernel_rfl) rfl (t := 156) rfl (by decide) rfl ?_
                              refine wo_pure (m' := 65535) 15 rfl (by kernel_rfl) rfl rfl (fun H => at_pick_t rfl rfl) ?_
                              refine wo_done (by kernel_rfl) ?_
                              exact wk_prune [(0, .string a0), (6, .slice x3.1.a x3.1.n x3.1.c), (7, .int .i64 x3.2.1), (10, .int .i64 s16.2), (11, .pointer (some (⟨b29, 0, none⟩ : Addr))), (13, .int .i64 (IntKind.wrap .i64 (x27 - 1))), (166, .bool true)] ⟨rfl, rfl, rfl, rfl, rfl, rfl, rfl, trivial⟩ (fun f1 => hJ64 (true) _ f1 h ⟨t_b29, trivial⟩ so)
                            · refine wo_set (t := 156) (v := .bool false) (congrArg Value.bool hb) ?_; clear hb
                              refine wo_pureG (m' := 127) 6 rfl (by kernel_rfl) rfl (t := 156) rfl (by decide) rfl (fun H => at_move rfl) ?_
                              refine wo_pureG (m' := 255) 7 rfl (by kernel_rfl) rfl (t := 156) rfl (by decide) rfl (fun H => at_move rfl) ?_
                              obtain ⟨q69, q70, h⟩ := h
                              refine wo_pureG (m' := 511) 8 rfl (by kernel_rfl) rfl (t := 156) rfl (by decide) rfl (fun H => at_ixS Try.underlying9 rfl rfl q69 q70) ?_
                              refine wo_pureG (m' := 1023) 9 rfl (by kernel_rfl) rfl (t := 156) rfl (by decide) rfl (fun H => at_fieldAddr Try.underlying29 rfl rfl sz27 (by decide) rfl) ?_
                              have q71 : cellAt w67.heap (⟨b29, 2, none⟩ : Addr) = some (.int .i8 x26) := (t_b29.cell 2).trans (by first | rfl | simp [List.getElem?_append, ints_len, bools_len])
                              refine wo_loadG (m' := 2047) 10 (fun H => cellAt H (⟨b29, 2, none⟩ : Addr) = some (.int .i8 x26)) rfl (by kernel_rfl) rfl (t := 156) rfl (by decide) rfl (fun H q71 => at_load (v := .int .i8 x26) Try.underlying27 rfl rfl (q71)) q71 ?_
                              refine wo_pureG (m' := 4095) 11 rfl (by kernel_rfl) rfl (t := 156) rfl (by decide) rfl (fun H => at_conv Try.underlying27 Try.underlying3 rfl) ?_
                              refine wo_pureG (m' := 8191) 12 rfl (by kernel_rfl) rfl (t := 156) rfl (by decide) rfl (fun H => at_add rfl rfl) ?_
                              refine wo_pureG (m' := 16383) 13 rfl (by kernel_rfl) rfl (t := 156) rfl (by decide) rfl (fun H => at_conv Try.underlying3 Try.underlying5 rfl) ?_
                              refine wo_pureG (m' := 32767) 14 rfl (by kernel_rfl) rfl (t := 156) rfl (by decide) rfl (fun H => at_neq rfl rfl) ?_
                              refine wo_pure (m' := 65535) 15 rfl (by kernel_rfl) rfl rfl (fun H => at_pick_f rfl rfl) ?_
                              refine wo_done (by kernel_rfl) ?_
                              exact wk_prune [(0, .string a0), (6, .slice x3.1.a x3.1.n x3.1.c), (7, .int .i64 x3.2.1), (10, .int .i64 s16.2), (11, .pointer (some (⟨b29, 0, none⟩ : Addr))), (13, .int .i64 (IntKind.wrap .i64 (x27 - 1))), (166, .bool ((bt a0 (IntKind.wrap .i64 (x27 - 1))) != (IntKind.wrap .u8 (IntKind.wrap .i64 ((208 : Int) + (IntKind.wrap .i64 x26))))))] ⟨rfl, rfl, rfl, rfl, rfl, rfl, rfl, trivial⟩ (fun f1 => hJ64 (((bt a0 (IntKind.wrap .i64 (x27 - 1))) != (IntKind.wrap .u8 (IntKind.wrap .i64 ((208 : Int) + (IntKind.wrap .i64 x26)))))) _ f1 h ⟨t_b29, trivial⟩ so)
                        · refine wc_skip ?_
                          exact wk_prune [(0, .string a0), (6, .slice x3.1.a x3.1.n x3.1.c), (7, .int .i64 x3.2.1), (10, .int .i64 s16.2), (11, .pointer (some (⟨b29, 0, none⟩ : Addr))), (13, .int .i64 x27)] ⟨rfl, rfl, rfl, rfl, rfl, rfl, trivial⟩ (fun f1 => hJ53 (x27) _ f1 h ⟨t_b29, trivial⟩ so)
                  · intro J50 h hJ50
                    refine wc_region ?_
                    refine wl_val (at_fieldAddr Try.underlying29 rfl rfl sz3 (by decide) rfl) rfl ?_
                    refine wl_val (at_load (v := .int .i64 x25) Try.underlying3 rfl rfl ((t_b29.cell 1).trans (by first | rfl | simp [List.getElem?_append, ints_len, bools_len]))) rfl ?_
                    refine wl_val (at_fieldAddr Try.underlying29 rfl rfl sz3 (by decide) rfl) rfl ?_
                    refine wl_val (at_load (v := .int .i64 x24) Try.underlying3 rfl rfl ((t_b29.cell 0).trans (by first | rfl | simp [List.getElem?_append, ints_len, bools_len]))) rfl ?_
                    refine wl_val (at_gtr rfl rfl) rfl ?_
                    refine wl_val (at_move rfl) rfl ?_
                    refine bif_ h (fun hb h => ?_) (fun hb h => ?_)
                    · refine wl_set (t := 135) (v := .bool true) (congrArg Value.bool hb) ?_; clear hb
                      refine wl_on (t := 135) rfl (by decide) rfl ?_
                      refine wl_val (at_move rfl) rfl ?_
                      refine wl_on (t := 135) rfl (by decide) rfl ?_
                      refine wl_val (at_fieldAddr Try.underlying29 rfl rfl sz3 (by decide) rfl) rfl ?_
                      refine wl_on (t := 135) rfl (by decide) rfl ?_
                      refine wl_val (at_load (v := .int .i64 x25) Try.underlying3 rfl rfl ((t_b29.cell 1).trans (by first | rfl | simp [List.getElem?_append, ints_len, bools_len]))) rfl ?_
                      refine wl_on (t := 135) rfl (by decide) rfl ?_
                      refine wl_val (at_sub rfl rfl) rfl ?_
                      refine wl_on (t := 135) rfl (by decide) rfl ?_
                      obtain ⟨q72, q73, h⟩ := h
                      refine wl_val (at_ixS Try.underlying9 rfl rfl q72 q73) rfl ?_
                      refine wl_on (t := 135) rfl (by decide) rfl ?_
                      refine wl_val (at_eql rfl rfl) rfl ?_
                      refine wl_val (at_pick_t rfl rfl) rfl ?_
                      refine wl_nil ?_
                      exact wk_prune [(0, .string a0), (6, .slice x3.1.a x3.1.n x3.1.c), (7, .int .i64 x3.2.1), (10, .int .i64 s16.2), (11, .pointer (some (⟨b29, 0, none⟩ : Addr))), (142, .bool ((bt a0 (IntKind.wrap .i64 (x25 - 1))) == 255))] ⟨rfl, rfl, rfl, rfl, rfl, rfl, trivial⟩ (fun f1 => hJ50 (((bt a0 (IntKind.wrap .i64 (x25 - 1))) == 255)) _ f1 h ⟨t_b29, trivial⟩ so)
                    · refine wl_set (t := 135) (v := .bool false) (congrArg Value.bool hb) ?_; clear hb
                      refine wl_off (t := 135) rfl (by decide) rfl ?_
                      refine wl_off (t := 135) rfl (by decide) rfl ?_
                      refine wl_off (t := 135) rfl (by decide) rfl ?_
                      refine wl_off (t := 135) rfl (by decide) rfl ?_
                      refine wl_off (t := 135) rfl (by decide) rfl ?_
                      refine wl_off (t := 135) rfl (by decide) rfl ?_
                      refine wl_val (at_pick_f rfl rfl) rfl ?_
                      refine wl_nil ?_
                      exact wk_prune [(0, .string a0), (6, .slice x3.1.a x3.1.n x3.1.c), (7, .int .i64 x3.2.1), (10, .int .i64 s16.2), (11, .pointer (some (⟨b29, 0, none⟩ : Addr))), (142, .bool false)] ⟨rfl, rfl, rfl, rfl, rfl, rfl, trivial⟩ (fun f1 => hJ50 (false) _ f1 h ⟨t_b29, trivial⟩ so)
            · intro J32 h hJ32
              refine wc_region ?_
              refine wl_val (at_fieldAddr Try.underlying29 rfl rfl sz3 (by decide) rfl) rfl ?_
              refine wl_val (at_load (v := .int .i64 x24) Try.underlying3 rfl rfl ((t_b29.cell 0).trans (by first | rfl | simp [List.getElem?_append, ints_len, bools_len]))) rfl ?_
              refine wl_val (at_move rfl) rfl ?_
              refine wl_val (at_neq rfl rfl) rfl ?_
              refine wl_val (at_move rfl) rfl ?_
              refine bif_ h (fun hb h => ?_) (fun hb h => ?_)
              · refine wl_set (t := 61) (v := .bool true) (congrArg Value.bool hb) ?_; clear hb
                refine wl_off (t := 61) rfl (by decide) rfl ?_
                refine wl_off (t := 61) rfl (by decide) rfl ?_
                refine wl_off (t := 61) rfl (by decide) rfl ?_
                refine wl_off (t := 61) rfl (by decide) rfl ?_
                refine wl_off (t := 61) rfl (by decide) rfl ?_
                refine wl_val (at_pick_t rfl rfl) rfl ?_
                refine wl_val (at_move rfl) rfl ?_
                refine wl_off (t := 68) rfl (by decide) rfl ?_
                refine wl_off (t := 68) rfl (by decide) rfl ?_
                refine wl_off (t := 68) rfl (by decide) rfl ?_
                refine wl_off (t := 68) rfl (by decide) rfl ?_
                refine wl_off (t := 68) rfl (by decide) rfl ?_
                refine wl_val (at_pick_t rfl rfl) rfl ?_
                refine wl_val (at_move rfl) rfl ?_
                refine wl_off (t := 75) rfl (by decide) rfl ?_
                refine wl_off (t := 75) rfl (by decide) rfl ?_
                refine wl_off (t := 75) rfl (by decide) rfl ?_
                refine wl_off (t := 75) rfl (by decide) rfl ?_
                refine wl_off (t := 75) rfl (by decide) rfl ?_
                refine wl_val (at_pick_t rfl rfl) rfl ?_
                refine wl_val (at_move rfl) rfl ?_
                refine wl_off (t := 82) rfl (by decide) rfl ?_
                refine wl_off (t := 82) rfl (by decide) rfl ?_
                refine wl_off (t := 82) rfl (by decide) rfl ?_
                refine wl_off (t := 82) rfl (by decide) rfl ?_
                refine wl_off (t := 82) rfl (by decide) rfl ?_
                refine wl_off (t := 82) rfl (by decide) rfl ?_
                refine wl_off (t := 82) rfl (by decide) rfl ?_
                refine wl_off (t := 82) rfl (by decide) rfl ?_
                refine wl_off (t := 82) rfl (by decide) rfl ?_
                refine wl_val (at_pick_t rfl rfl) rfl ?_
                refine wl_val (at_move rfl) rfl ?_
                refine wl_off (t := 93) rfl (by decide) rfl ?_
                refine wl_off (t := 93) rfl (by decide) rfl ?_
                refine wl_off (t := 93) rfl (by decide) rfl ?_
                refine wl_val (at_pick_t rfl rfl) rfl ?_
                refine wl_val (at_move rfl) rfl ?_
                refine wl_off (t := 98) rfl (by decide) rfl ?_
                refine wl_off (t := 98) rfl (by decide) rfl ?_
                refine wl_off (t := 98) rfl (by decide) rfl ?_
                refine wl_val (at_pick_t rfl rfl) rfl ?_
                refine wl_nil ?_
                exact wk_prune [(0, .string a0), (6, .slice x3.1.a x3.1.n x3.1.c), (7, .int .i64 x3.2.1), (10, .int .i64 s16.2), (11, .pointer (some (⟨b29, 0, none⟩ : Addr))), (102, .bool true)] ⟨rfl, rfl, rfl, rfl, rfl, rfl, trivial⟩ (fun f1 => hJ32 (true) _ f1 h ⟨t_b29, trivial⟩ so)
              · refine wl_set (t := 61) (v := .bool false) (congrArg Value.bool hb) ?_; clear hb
                refine wl_on (t := 61) rfl (by decide) rfl ?_
                refine wl_val (at_fieldAddr Try.underlying29 rfl rfl sz3 (by decide) rfl) rfl ?_
                refine wl_on (t := 61) rfl (by decide) rfl ?_
                refine wl_val (at_load (v := .int .i64 x25) Try.underlying3 rfl rfl ((t_b29.cell 1).trans (by first | rfl | simp [List.getElem?_append, ints_len, bools_len]))) rfl ?_
                refine wl_on (t := 61) rfl (by decide) rfl ?_
                refine wl_val (at_fieldAddr Try.underlying29 rfl rfl sz3 (by decide) rfl) rfl ?_
                refine wl_on (t := 61) rfl (by decide) rfl ?_
                refine wl_val (at_load (v := .int .i64 x24) Try.underlying3 rfl rfl ((t_b29.cell 0).trans (by first | rfl | simp [List.getElem?_append, ints_len, bools_len]))) rfl ?_
                refine wl_on (t := 61) rfl (by decide) rfl ?_
                refine wl_val (at_lss rfl rfl) rfl ?_
                refine wl_val (at_pick_f rfl rfl) rfl ?_
                refine wl_val (at_move rfl) rfl ?_
                refine bif_ h (fun hb h => ?_) (fun hb h => ?_)
                · refine wl_set (t := 68) (v := .bool true) (congrArg Value.bool hb) ?_; clear hb
                  refine wl_off (t := 68) rfl (by decide) rfl ?_
                  refine wl_off (t := 68) rfl (by decide) rfl ?_
                  refine wl_off (t := 68) rfl (by decide) rfl ?_
                  refine wl_off (t := 68) rfl (by decide) rfl ?_
                  refine wl_off (t := 68) rfl (by decide) rfl ?_
                  refine wl_val (at_pick_t rfl rfl) rfl ?_
                  refine wl_val (at_move rfl) rfl ?_
                  refine wl_off (t := 75) rfl (by decide) rfl ?_
                  refine wl_off (t := 75) rfl (by decide) rfl ?_
                  refine wl_off (t := 75) rfl (by decide) rfl ?_
                  refine wl_off (t := 75) rfl (by decide) rfl ?_
                  refine wl_off (t := 75) rfl (by decide) rfl ?_
                  refine wl_val (at_pick_t rfl rfl) rfl ?_
                  refine wl_val (at_move rfl) rfl ?_
                  refine wl_off (t := 82) rfl (by decide) rfl ?_
                  refine wl_off (t := 82) rfl (by decide) rfl ?_
                  refine wl_off (t := 82) rfl (by decide) rfl ?_
                  refine wl_off (t := 82) rfl (by decide) rfl ?_
                  refine wl_off (t := 82) rfl (by decide) rfl ?_
                  refine wl_off (t := 82) rfl (by decide) rfl ?_
                  refine wl_off (t := 82) rfl (by decide) rfl ?_
                  refine wl_off (t := 82) rfl (by decide) rfl ?_
                  refine wl_off (t := 82) rfl (by decide) rfl ?_
                  refine wl_val (at_pick_t rfl rfl) rfl ?_
                  refine wl_val (at_move rfl) rfl ?_
                  refine wl_off (t := 93) rfl (by decide) rfl ?_
                  refine wl_off (t := 93) rfl (by decide) rfl ?_
                  refine wl_off (t := 93) rfl (by decide) rfl ?_
                  refine wl_val (at_pick_t rfl rfl) rfl ?_
                  refine wl_val (at_move rfl) rfl ?_
                  refine wl_off (t := 98) rfl (by decide) rfl ?_
                  refine wl_off (t := 98) rfl (by decide) rfl ?_
                  refine wl_off (t := 98) rfl (by decide) rfl ?_
                  refine wl_val (at_pick_t rfl rfl) rfl ?_
                  refine wl_nil ?_
                  exact wk_prune [(0, .string a0), (6, .slice x3.1.a x3.1.n x3.1.c), (7, .int .i64 x3.2.1), (10, .int .i64 s16.2), (11, .pointer (some (⟨b29, 0, none⟩ : Addr))), (102, .bool true)] ⟨rfl, rfl, rfl, rfl, rfl, rfl, trivial⟩ (fun f1 => hJ32 (true) _ f1 h ⟨t_b29, trivial⟩ so)
                · refine wl_set (t := 68) (v := .bool false) (congrArg Value.bool hb) ?_; clear hb
                  refine wl_on (t := 68) rfl (by decide) rfl ?_
                  refine wl_val (at_fieldAddr Try.underlying29 rfl rfl sz3 (by decide) rfl) rfl ?_
                  refine wl_on (t := 68) rfl (by decide) rfl ?_
                  refine wl_val (at_load (v := .int .i64 x27) Try.underlying3 rfl rfl ((t_b29.cell 3).trans (by first | rfl | simp [List.getElem?_append, ints_len, bools_len]))) rfl ?_
                  refine wl_on (t := 68) rfl (by decide) rfl ?_
                  refine wl_val (at_fieldAddr Try.underlying29 rfl rfl sz3 (by decide) rfl) rfl ?_
                  refine wl_on (t := 68) rfl (by decide) rfl ?_
                  refine wl_val (at_load (v := .int .i64 x25) Try.underlying3 rfl rfl ((t_b29.cell 1).trans (by first | rfl | simp [List.getElem?_append, ints_len, bools_len]))) rfl ?_
                  refine wl_on (t := 68) rfl (by decide) rfl ?_
                  refine wl_val (at_lss rfl rfl) rfl ?_
                  refine wl_val (at_pick_f rfl rfl) rfl ?_
                  refine wl_val (at_move rfl) rfl ?_
                  refine bif_ h (fun hb h => ?_) (fun hb h => ?_)
                  · refine wl_set (t := 75) (v := .bool true) (congrArg Value.bool hb) ?_; clear hb
                    refine wl_off (t := 75) rfl (by decide) rfl ?_
                    refine wl_off (t := 75) rfl (by decide) rfl ?_
                    refine wl_off (t := 75) rfl (by decide) rfl ?_
                    refine wl_off (t := 75) rfl (by decide) rfl ?_
                    refine wl_off (t := 75) rfl (by decide) rfl ?_
                    refine wl_val (at_pick_t rfl rfl) rfl ?_
                    refine wl_val (at_move rfl) rfl ?_
                    refine wl_off (t := 82) rfl (by decide) rfl ?_
                    refine wl_off (t := 82) rfl (by decide) rfl ?_
                    refine wl_off (t := 82) rfl (by decide) rfl ?_
                    refine wl_off (t := 82) rfl (by decide) rfl ?_
                    refine wl_off (t := 82) rfl (by decide) rfl ?_
                    refine wl_off (t := 82) rfl (by decide) rfl ?_
                    refine wl_off (t := 82) rfl (by decide) rfl ?_
                    refine wl_off (t := 82) rfl (by decide) rfl ?_
                    refine wl_off (t := 82) rfl (by decide) rfl ?_
                    refine wl_val (at_pick_t rfl rfl) rfl ?_
                    refine wl_val (at_move rfl) rfl ?_
                    refine wl_off (t := 93) rfl (by decide) rfl ?_
                    refine wl_off (t := 93) rfl (by decide) rfl ?_
                    refine wl_off (t := 93) rfl (by decide) rfl ?_
                    refine wl_val (at_pick_t rfl rfl) rfl ?_
                    refine wl_val (at_move rfl) rfl ?_
                    refine wl_off (t := 98) rfl (by decide) rfl ?_
                    refine wl_off (t := 98) rfl (by decide) rfl ?_
                    refine wl_off (t := 98) rfl (by decide) rfl ?_
                    refine wl_val (at_pick_t rfl rfl) rfl ?_
                    refine wl_nil ?_
                    exact wk_prune [(0, .string a0), (6, .slice x3.1.a x3.1.n x3.1.c), (7, .int .i64 x3.2.1), (10, .int .i64 s16.2), (11, .pointer (some (⟨b29, 0, none⟩ : Addr))), (102, .bool true)] ⟨rfl, rfl, rfl, rfl, rfl, rfl, trivial⟩ (fun f1 => hJ32 (true) _ f1 h ⟨t_b29, trivial⟩ so)
                  · refine wl_set (t := 75) (v := .bool false) (congrArg Value.bool hb) ?_; clear hb
                    refine wl_on (t := 75) rfl (by decide) rfl ?_
                    refine wl_val (at_fieldAddr Try.underlying29 rfl rfl sz3 (by decide) rfl) rfl ?_
                    refine wl_on (t := 75) rfl (by decide) rfl ?_
                    refine wl_val (at_load (v := .int .i64 x27) Try.underlying3 rfl rfl ((t_b29.cell 3).trans (by first | rfl | simp [List.getElem?_append, ints_len, bools_len]))) rfl ?_
                    refine wl_on (t := 75) rfl (by decide) rfl ?_
                    refine wl_val (at_move rfl) rfl ?_
                    refine wl_on (t := 75) rfl (by decide) rfl ?_
                    refine wl_val (at_lenS Try.underlying9 rfl) rfl ?_
                    refine wl_on (t := 75) rfl (by decide) rfl ?_
                    refine wl_val (at_gtr rfl rfl) rfl ?_
                    refine wl_val (at_pick_f rfl rfl) rfl ?_
                    refine wl_val (at_move rfl) rfl ?_
                    refine bif_ h (fun hb h => ?_) (fun hb h => ?_)
                    · refine wl_set (t := 82) (v := .bool true) (congrArg Value.bool hb) ?_; clear hb
                      refine wl_off (t := 82) rfl (by decide) rfl ?_
                      refine wl_off (t := 82) rfl (by decide) rfl ?_
                      refine wl_off (t := 82) rfl (by decide) rfl ?_
                      refine wl_off (t := 82) rfl (by decide) rfl ?_
                      refine wl_off (t := 82) rfl (by decide) rfl ?_
                      refine wl_off (t := 82) rfl (by decide) rfl ?_
                      refine wl_off (t := 82) rfl (by decide) rfl ?_
                      refine wl_off (t := 82) rfl (by decide) rfl ?_
                      refine wl_off (t := 82) rfl (by decide) rfl ?_
                      refine wl_val (at_pick_t rfl rfl) rfl ?_
                      refine wl_val (at_move rfl) rfl ?_
                      refine wl_off (t := 93) rfl (by decide) rfl ?_
                      refine wl_off (t := 93) rfl (by decide) rfl ?_
                      refine wl_off (t := 93) rfl (by decide) rfl ?_
                      refine wl_val (at_pick_t rfl rfl) rfl ?_
                      refine wl_val (at_move rfl) rfl ?_
                      refine wl_off (t := 98) rfl (by decide) rfl ?_
                      refine wl_off (t := 98) rfl (by decide) rfl ?_
                      refine wl_off (t := 98) rfl (by decide) rfl ?_
                      refine wl_val (at_pick_t rfl rfl) rfl ?_
                      refine wl_nil ?_
                      exact wk_prune [(0, .string a0), (6, .slice x3.1.a x3.1.n x3.1.c), (7, .int .i64 x3.2.1), (10, .int .i64 s16.2), (11, .pointer (some (⟨b29, 0, none⟩ : Addr))), (102, .bool true)] ⟨rfl, rfl, rfl, rfl, rfl, rfl, trivial⟩ (fun f1 => hJ32 (true) _ f1 h ⟨t_b29, trivial⟩ so)
                    · refine wl_set (t := 82) (v := .bool false) (congrArg Value.bool hb) ?_; clear hb
                      refine wl_on (t := 82) rfl (by decide) rfl ?_
                      refine wl_val (at_fieldAddr Try.underlying29 rfl rfl sz27 (by decide) rfl) rfl ?_
                      refine wl_on (t := 82) rfl (by decide) rfl ?_
                      refine wl_val (at_load (v := .int .i8 x26) Try.underlying27 rfl rfl ((t_b29.cell 2).trans (by first | rfl | simp [List.getElem?_append, ints_len, bools_len]))) rfl ?_
                      refine wl_on (t := 82) rfl (by decide) rfl ?_
                      refine wl_val (at_lss rfl rfl) rfl ?_
                      refine wl_on (t := 82) rfl (by decide) rfl ?_
                      refine wl_val (at_move rfl) rfl ?_
                      refine wl_on (t := 82) rfl (by decide) rfl ?_
                      refine wl_val (at_move rfl) rfl ?_
                      refine wl_on (t := 82) rfl (by decide) rfl ?_
                      refine wl_val (at_lenL Try.underlying22 rfl) rfl ?_
                      refine wl_on (t := 82) rfl (by decide) rfl ?_
                      refine wl_val (at_sub rfl rfl) rfl ?_
                      refine wl_on (t := 82) rfl (by decide) rfl ?_
                      refine wl_val (at_eql rfl rfl) rfl ?_
                      refine wl_on (t := 82) rfl (by decide) rfl ?_
                      refine wl_val (at_neqB Try.underlying4 rfl rfl) rfl ?_
                      refine wl_val (at_pick_f rfl rfl) rfl ?_
                      refine wl_val (at_move rfl) rfl ?_
                      refine bif_ h (fun hb h => ?_) (fun hb h => ?_)
                      · refine wl_set (t := 93) (v := .bool true) (congrArg Value.bool hb) ?_; clear hb
                        refine wl_off (t := 93) rfl (by decide) rfl ?_
                        refine wl_off (t := 93) rfl (by decide) rfl ?_
                        refine wl_off (t := 93) rfl (by decide) rfl ?_
                        refine wl_val (at_pick_t rfl rfl) rfl ?_
                        refine wl_val (at_move rfl) rfl ?_
                        refine wl_off (t := 98) rfl (by decide) rfl ?_
                        refine wl_off (t := 98) rfl (by decide) rfl ?_
                        refine wl_off (t := 98) rfl (by decide) rfl ?_
                        refine wl_val (at_pick_t rfl rfl) rfl ?_
                        refine wl_nil ?_
                        exact wk_prune [(0, .string a0), (6, .slice x3.1.a x3.1.n x3.1.c), (7, .int .i64 x3.2.1), (10, .int .i64 s16.2), (11, .pointer (some (⟨b29, 0, none⟩ : Addr))), (102, .bool true)] ⟨rfl, rfl, rfl, rfl, rfl, rfl, trivial⟩ (fun f1 => hJ32 (true) _ f1 h ⟨t_b29, trivial⟩ so)
                      · refine wl_set (t := 93) (v := .bool false) (congrArg Value.bool hb) ?_; clear hb
                        refine wl_on (t := 93) rfl (by decide) rfl ?_
                        refine wl_val (at_fieldAddr Try.underlying29 rfl rfl sz27 (by decide) rfl) rfl ?_
                        refine wl_on (t := 93) rfl (by decide) rfl ?_
                        refine wl_val (at_load (v := .int .i8 x26) Try.underlying27 rfl rfl ((t_b29.cell 2).trans (by first | rfl | simp [List.getElem?_append, ints_len, bools_len]))) rfl ?_
                        refine wl_on (t := 93) rfl (by decide) rfl ?_
                        refine wl_val (at_lss rfl rfl) rfl ?_
                        refine wl_val (at_pick_f rfl rfl) rfl ?_
                        refine wl_val (at_move rfl) rfl ?_
                        refine bif_ h (fun hb h => ?_) (fun hb h => ?_)
                        · refine wl_set (t := 98) (v := .bool true) (congrArg Value.bool hb) ?_; clear hb
                          refine wl_off (t := 98) rfl (by decide) rfl ?_
                          refine wl_off (t := 98) rfl (by decide) rfl ?_
                          refine wl_off (t := 98) rfl (by decide) rfl ?_
                          refine wl_val (at_pick_t rfl rfl) rfl ?_
                          refine wl_nil ?_
                          exact wk_prune [(0, .string a0), (6, .slice x3.1.a x3.1.n x3.1.c), (7, .int .i64 x3.2.1), (10, .int .i64 s16.2), (11, .pointer (some (⟨b29, 0, none⟩ : Addr))), (102, .bool true)] ⟨rfl, rfl, rfl, rfl, rfl, rfl, trivial⟩ (fun f1 => hJ32 (true) _ f1 h ⟨t_b29, trivial⟩ so)
                        · refine wl_set (t := 98) (v := .bool false) (congrArg Value.bool hb) ?_; clear hb
                          refine wl_on (t := 98) rfl (by decide) rfl ?_
                          refine wl_val (at_fieldAddr Try.underlying29 rfl rfl sz27 (by decide) rfl) rfl ?_
                          refine wl_on (t := 98) rfl (by decide) rfl ?_
                          refine wl_val (at_load (v := .int .i8 x26) Try.underlying27 rfl rfl ((t_b29.cell 2).trans (by first | rfl | simp [List.getElem?_append, ints_len, bools_len]))) rfl ?_
                          refine wl_on (t := 98) rfl (by decide) rfl ?_
                          refine wl_val (at_gtr rfl rfl) rfl ?_
                          refine wl_val (at_pick_f rfl rfl) rfl ?_
                          refine wl_nil ?_
                          exact wk_prune [(0, .string a0), (6, .slice x3.1.a x3.1.n x3.1.c), (7, .int .i64 x3.2.1), (10, .int .i64 s16.2), (11, .pointer (some (⟨b29, 0, none⟩ : Addr))), (102, .bool (decide ((7 : Int) < x26)))] ⟨rfl, rfl, rfl, rfl, rfl, rfl, trivial⟩ (fun f1 => hJ32 ((decide ((7 : Int) < x26))) _ f1 h ⟨t_b29, trivial⟩ so)
          · refine wc_exit ?_
            refine wk_thenE ?_
            refine wk_thenE ?_
            refine wk_blkE ?_
            refine wk_prune [(0, .string a0), (6, .slice x3.1.a x3.1.n x3.1.c), (7, .int .i64 x3.2.1)] ⟨rfl, rfl, rfl, trivial⟩ (fun f1 => ?_)
            refine wk_then ?_
            refine wc_seq ?_
            refine wc_region ?_
            refine wl_val (at_move rfl) rfl ?_
            refine wl_val (at_move rfl) rfl ?_
            refine wl_val (at_lenL Try.underlying22 rfl) rfl ?_
            refine wl_val (at_sub rfl rfl) rfl ?_
            obtain ⟨q74, q75, p76, q77, h⟩ := h
            refine wl_val (at_ixAddrL Try.underlying22 sz29 (sl_some q77) rfl q74 q75) rfl ?_
            obtain ⟨x78, x79, x80, x81, q82, h⟩ := h
            refine wl_val (at_loadA (cs := (c29 x78 x79 x80 x81)) Try.underlying29 rfl (by rw [len29]; exact sz29) rfl q82) rfl ?_
            refine wl_newT (T := 29) (cs := (c29 0 0 0 0)) (ef_alloc zero29 rfl) rfl so ?_; intro b83 w84 hb_b83 t_b83 k_b83 so
            have g_b83 := Nat.le_of_eq hb_b83.symm
            have hc := k_b83.ch (F := [])
            refine wl_stWT (vs := (c29 x78 x79 x80 x81)) t_b83 (by first | (rw [len29, len29]) | (rw [len29]) | rfl) rfl so (fun q => ef_storeA (p := (⟨b83, 0, none⟩ : Addr)) (cs := (c29 x78 x79 x80 x81)) (by rw [len29]; exact sz29) rfl rfl (one29 _ _ _ _) q) ?_; intro w85 t_b83 s_w85 so
            replace hc := ch_same hc s_w85 (.inr g_b83)
            refine wl_nil ?_
            refine wk_prune [(0, .string a0), (7, .int .i64 x3.2.1), (15, .pointer (some (⟨b83, 0, none⟩ : Addr)))] ⟨rfl, rfl, rfl, trivial⟩ (fun f1 => ?_)
            refine wk_then ?_
            refine wc_seq ?_
            refine wc_seq ?_
            refine wc_region ?_
            refine wl_val (at_fieldAddr Try.underlying29 rfl rfl sz3 (by decide) rfl) rfl ?_
            refine wl_val (at_load (v := .int .i64 x81) Try.underlying3 rfl rfl ((t_b83.cell 3).trans (by first | rfl | simp [List.getElem?_append, ints_len, bools_len]))) rfl ?_
            refine wl_val (at_move rfl) rfl ?_
            refine wl_val (at_neq rfl rfl) rfl ?_
            refine wl_nil ?_
            refine wk_prune [(0, .string a0), (7, .int .i64 x3.2.1), (15, .pointer (some (⟨b83, 0, none⟩ : Addr))), (189, .bool (x81 != x3.2.1))] ⟨rfl, rfl, rfl, rfl, trivial⟩ (fun f1 => ?_)
            refine wk_then ?_
            replace h := h b83 _ hc g_b83 t_b83.lt; clear hc
            refine wc_cond rfl h (fun h => ?_) (fun h => ?_)
            · refine wc_seq ?_
              refine wc_region ?_
              refine wl_val (at_assign rfl) rfl ?_
              refine wl_nil ?_
              refine wk_prune [(4, .bool false)] ⟨rfl, trivial⟩ (fun f1 => ?_)
              refine wk_then ?_
              refine wc_ret ?_
              refine wk_thenR ?_
              exact wk_ret1 (x := false) rfl (by decide) rfl so h
            · refine wc_skip ?_
              refine wk_prune [(0, .string a0), (7, .int .i64 x3.2.1), (15, .pointer (some (⟨b83, 0, none⟩ : Addr)))] ⟨rfl, rfl, rfl, trivial⟩ (fun f1 => ?_)
              refine wk_then ?_
              refine wc_seq ?_
              refine wc_seq ?_
              refine wc_region ?_
              refine wl_val (at_fieldAddr Try.underlying29 rfl rfl sz27 (by decide) rfl) rfl ?_
              refine wl_val (at_load (v := .int .i8 x80) Try.underlying27 rfl rfl ((t_b83.cell 2).trans (by first | rfl | simp [List.getElem?_append, ints_len, bools_len]))) rfl ?_
              refine wl_val (at_eql rfl rfl) rfl ?_
              refine wl_nil ?_
              refine wk_prune [(0, .string a0), (7, .int .i64 x3.2.1), (192, .bool (x80 == (-2)))] ⟨rfl, rfl, rfl, trivial⟩ (fun f1 => ?_)
              refine wk_then ?_
              refine wc_cond rfl h (fun h => ?_) (fun h => ?_)
              · refine wc_seq ?_
                refine wc_region ?_
                refine wl_val (at_move rfl) rfl ?_
                refine wl_val (at_move rfl) rfl ?_
                refine wl_val (at_lenS Try.underlying9 rfl) rfl ?_
                refine wl_val (at_eql rfl rfl) rfl ?_
                refine wl_val (at_assign rfl) rfl ?_
                refine wl_nil ?_
                refine wk_prune [(4, .bool (x3.2.1 == (a0.size : Int)))] ⟨rfl, trivial⟩ (fun f1 => ?_)
                refine wk_then ?_
                refine wc_ret ?_
                refine wk_thenR ?_
                exact wk_ret1 (x := (x3.2.1 == (a0.size : Int))) rfl (by decide) rfl so h
              · refine wc_skip ?_
                refine wk_prune [(0, .string a0), (7, .int .i64 x3.2.1)] ⟨rfl, rfl, trivial⟩ (fun f1 => ?_)
                refine wk_then ?_
                refine wc_seq ?_
                refine wc_region ?_
                refine wl_val (at_move rfl) rfl ?_
                refine wl_val (at_add rfl rfl) rfl ?_
                refine wl_val (at_move rfl) rfl ?_
                refine wl_val (at_lenS Try.underlying9 rfl) rfl ?_
                refine wl_val (at_lss rfl rfl) rfl ?_
                refine wl_val (at_move rfl) rfl ?_
                refine bif_ h (fun hb h => ?_) (fun hb h => ?_)
                · refine wl_set (t := 202) (v := .bool true) (congrArg Value.bool hb) ?_; clear hb
                  refine wl_on (t := 202) rfl (by decide) rfl ?_
                  refine wl_val (at_move rfl) rfl ?_
                  refine wl_on (t := 202) rfl (by decide) rfl ?_
                  refine wl_val (at_move rfl) rfl ?_
                  refine wl_on (t := 202) rfl (by decide) rfl ?_
                  obtain ⟨q86, q87, h⟩ := h
                  refine wl_val (at_ixS Try.underlying9 rfl rfl q86 q87) rfl ?_
                  refine wl_on (t := 202) rfl (by decide) rfl ?_
                  refine wl_val (at_eql rfl rfl) rfl ?_
                  refine wl_val (at_pick_t rfl rfl) rfl ?_
                  refine wl_val (at_move rfl) rfl ?_
                  refine bif_ h (fun hb h => ?_) (fun hb h => ?_)
                  · refine wl_set (t := 208) (v := .bool true) (congrArg Value.bool hb) ?_; clear hb
                    refine wl_on (t := 208) rfl (by decide) rfl ?_
                    refine wl_val (at_move rfl) rfl ?_
                    refine wl_on (t := 208) rfl (by decide) rfl ?_
                    refine wl_val (at_move rfl) rfl ?_
                    refine wl_on (t := 208) rfl (by decide) rfl ?_
                    refine wl_val (at_add rfl rfl) rfl ?_
                    refine wl_on (t := 208) rfl (by decide) rfl ?_
                    obtain ⟨q88, q89, h⟩ := h
                    refine wl_val (at_ixS Try.underlying9 rfl rfl q88 q89) rfl ?_
                    refine wl_on (t := 208) rfl (by decide) rfl ?_
                    refine wl_val (at_neq rfl rfl) rfl ?_
                    refine wl_val (at_pick_t rfl rfl) rfl ?_
                    refine wl_val (at_move rfl) rfl ?_
                    refine bif_ h (fun hb h => ?_) (fun hb h => ?_)
                    · refine wl_set (t := 215) (v := .bool true) (congrArg Value.bool hb) ?_; clear hb
                      refine wl_on (t := 215) rfl (by decide) rfl ?_
                      refine wl_val (at_move rfl) rfl ?_
                      refine wl_on (t := 215) rfl (by decide) rfl ?_
                      refine wl_val (at_move rfl) rfl ?_
                      refine wl_on (t := 215) rfl (by decide) rfl ?_
                      refine wl_val (at_add rfl rfl) rfl ?_
                      refine wl_on (t := 215) rfl (by decide) rfl ?_
                      obtain ⟨q90, q91, h⟩ := h
                      refine wl_val (at_ixS Try.underlying9 rfl rfl q90 q91) rfl ?_
                      refine wl_on (t := 215) rfl (by decide) rfl ?_
                      refine wl_val (at_neq rfl rfl) rfl ?_
                      refine wl_val (at_pick_t rfl rfl) rfl ?_
                      refine wl_val (at_move rfl) rfl ?_
                      refine bif_ h (fun hb h => ?_) (fun hb h => ?_)
                      · refine wl_set (t := 222) (v := .bool true) (congrArg Value.bool hb) ?_; clear hb
                        refine wl_on (t := 222) rfl (by decide) rfl ?_
                        refine wl_val (at_move rfl) rfl ?_
                        refine wl_on (t := 222) rfl (by decide) rfl ?_
                        refine wl_val (at_move rfl) rfl ?_
                        refine wl_on (t := 222) rfl (by decide) rfl ?_
                        refine wl_val (at_add rfl rfl) rfl ?_
                        refine wl_on (t := 222) rfl (by decide) rfl ?_
                        obtain ⟨q92, q93, h⟩ := h
                        refine wl_val (at_ixS Try.underlying9 rfl rfl q92 q93) rfl ?_
                        refine wl_on (t := 222) rfl (by decide) rfl ?_
                        refine wl_val (at_lss rfl rfl) rfl ?_
                        refine wl_on (t := 222) rfl (by decide) rfl ?_
                        refine wl_val (at_move rfl) rfl ?_
                        refine bif_ h (fun hb h => ?_) (fun hb h => ?_)
                        · refine wl_set (t := 228) (v := .bool true) (congrArg Value.bool hb) ?_; clear hb
                          refine wl_off (t := 228) rfl (by decide) rfl ?_
                          refine wl_off (t := 228) rfl (by decide) rfl ?_
                          refine wl_off (t := 228) rfl (by decide) rfl ?_
                          refine wl_off (t := 228) rfl (by decide) rfl ?_
                          refine wl_off (t := 228) rfl (by decide) rfl ?_
                          refine wl_on (t := 222) rfl (by decide) rfl ?_
                          refine wl_val (at_pick_t rfl rfl) rfl ?_
                          refine wl_val (at_pick_t rfl rfl) rfl ?_
                          refine wl_val (at_assign rfl) rfl ?_
                          refine wl_nil ?_
                          refine wk_prune [(4, .bool true)] ⟨rfl, trivial⟩ (fun f1 => ?_)
                          refine wk_then ?_
                          refine wc_ret ?_
                          exact wk_ret1 (x := true) rfl (by decide) rfl so h
                        · refine wl_set (t := 228) (v := .bool false) (congrArg Value.bool hb) ?_; clear hb
                          refine wl_on (t := 228) rfl (by decide) rfl ?_
                          refine wl_val (at_move rfl) rfl ?_
                          refine wl_on (t := 228) rfl (by decide) rfl ?_
                          refine wl_val (at_move rfl) rfl ?_
                          refine wl_on (t := 228) rfl (by decide) rfl ?_
                          refine wl_val (at_add rfl rfl) rfl ?_
                          refine wl_on (t := 228) rfl (by decide) rfl ?_
                          obtain ⟨q94, q95, h⟩ := h
                          refine wl_val (at_ixS Try.underlying9 rfl rfl q94 q95) rfl ?_
                          refine wl_on (t := 228) rfl (by decide) rfl ?_
                          refine wl_val (at_gtr rfl rfl) rfl ?_
                          refine wl_on (t := 222) rfl (by decide) rfl ?_
                          refine wl_val (at_pick_f rfl rfl) rfl ?_
                          refine wl_val (at_pick_t rfl rfl) rfl ?_
                          refine wl_val (at_assign rfl) rfl ?_
                          refine wl_nil ?_
                          refine wk_prune [(4, .bool (decide ((215 : Int) < (bt a0 (IntKind.wrap .i64 (x3.2.1 + 1))))))] ⟨rfl, trivial⟩ (fun f1 => ?_)
                          refine wk_then ?_
                          refine wc_ret ?_
                          exact wk_ret1 (x := (decide ((215 : Int) < (bt a0 (IntKind.wrap .i64 (x3.2.1 + 1)))))) rfl (by decide) rfl so h
                      · refine wl_set (t := 222) (v := .bool false) (congrArg Value.bool hb) ?_; clear hb
                        refine wl_off (t := 222) rfl (by decide) rfl ?_
                        refine wl_off (t := 222) rfl (by decide) rfl ?_
                        refine wl_off (t := 222) rfl (by decide) rfl ?_
                        refine wl_off (t := 222) rfl (by decide) rfl ?_
                        refine wl_off (t := 222) rfl (by decide) rfl ?_
                        refine wl_off (t := 222) rfl (by decide) rfl ?_
                        refine wl_off' (t := 228) rfl (by decide) rfl ?_
                        refine wl_off' (t := 228) rfl (by decide) rfl ?_
                        refine wl_off' (t := 228) rfl (by decide) rfl ?_
                        refine wl_off' (t := 228) rfl (by decide) rfl ?_
                        refine wl_off' (t := 228) rfl (by decide) rfl ?_
                        refine wl_off (t := 222) rfl (by decide) rfl ?_
                        refine wl_val (at_pick_f rfl rfl) rfl ?_
                        refine wl_val (at_assign rfl) rfl ?_
                        refine wl_nil ?_
                        refine wk_prune [(4, .bool false)] ⟨rfl, trivial⟩ (fun f1 => ?_)
                        refine wk_then ?_
                        refine wc_ret ?_
                        exact wk_ret1 (x := false) rfl (by decide) rfl so h
                    · refine wl_set (t := 215) (v := .bool false) (congrArg Value.bool hb) ?_; clear hb
                      refine wl_off (t := 215) rfl (by decide) rfl ?_
                      refine wl_off (t := 215) rfl (by decide) rfl ?_
                      refine wl_off (t := 215) rfl (by decide) rfl ?_
                      refine wl_off (t := 215) rfl (by decide) rfl ?_
                      refine wl_off (t := 215) rfl (by decide) rfl ?_
                      refine wl_val (at_pick_f rfl rfl) rfl ?_
                      refine wl_val (at_move rfl) rfl ?_
                      refine wl_off (t := 222) rfl (by decide) rfl ?_
                      refine wl_off (t := 222) rfl (by decide) rfl ?_
                      refine wl_off (t := 222) rfl (by decide) rfl ?_
                      refine wl_off (t := 222) rfl (by decide) rfl ?_
                      refine wl_off (t := 222) rfl (by decide) rfl ?_
                      refine wl_off (t := 222) rfl (by decide) rfl ?_
                      refine wl_off' (t := 228) rfl (by decide) rfl ?_
                      refine wl_off' (t := 228) rfl (by decide) rfl ?_
                      refine wl_off' (t := 228) rfl (by decide) rfl ?_
                      refine wl_off' (t := 228) rfl (by decide) rfl ?_
                      refine wl_off' (t := 228) rfl (by decide) rfl ?_
                      refine wl_off (t := 222) rfl (by decide) rfl ?_
                      refine wl_val (at_pick_f rfl rfl) rfl ?_
                      refine wl_val (at_assign rfl) rfl ?_
                      refine wl_nil ?_
                      refine wk_prune [(4, .bool false)] ⟨rfl, trivial⟩ (fun f1 => ?_)
                      refine wk_then ?_
                      refine wc_ret ?_
                      exact wk_ret1 (x := false) rfl (by decide) rfl so h
                  · refine wl_set (t := 208) (v := .bool false) (congrArg Value.bool hb) ?_; clear hb
                    refine wl_off (t := 208) rfl (by decide) rfl ?_
                    refine wl_off (t := 208) rfl (by decide) rfl ?_
                    refine wl_off (t := 208) rfl (by decide) rfl ?_
                    refine wl_off (t := 208) rfl (by decide) rfl ?_
                    refine wl_off (t := 208) rfl (by decide) rfl ?_
                    refine wl_val (at_pick_f rfl rfl) rfl ?_
                    refine wl_val (at_move rfl) rfl ?_
                    refine wl_off (t := 215) rfl (by decide) rfl ?_
                    refine wl_off (t := 215) rfl (by decide) rfl ?_
                    refine wl_off (t := 215) rfl (by decide) rfl ?_
                    refine wl_off (t := 215) rfl (by decide) rfl ?_
                    refine wl_off (t := 215) rfl (by decide) rfl ?_
                    refine wl_val (at_pick_f rfl rfl) rfl ?_
                    refine wl_val (at_move rfl) rfl ?_
                    refine wl_off (t := 222) rfl (by decide) rfl ?_
                    refine wl_off (t := 222) rfl (by decide) rfl ?_
                    refine wl_off (t := 222) rfl (by decide) rfl ?_
                    refine wl_off (t := 222) rfl (by decide) rfl ?_
                    refine wl_off (t := 222) rfl (by decide) rfl ?_
                    refine wl_off (t := 222) rfl (by decide) rfl ?_
                    refine wl_off' (t := 228) rfl (by decide) rfl ?_
                    refine wl_off' (t := 228) rfl (by decide) rfl ?_
                    refine wl_off' (t := 228) rfl (by decide) rfl ?_
                    refine wl_off' (t := 228) rfl (by decide) rfl ?_
                    refine wl_off' (t := 228) rfl (by decide) rfl ?_
                    refine wl_off (t := 222) rfl (by decide) rfl ?_
                    refine wl_val (at_pick_f rfl rfl) rfl ?_
                    refine wl_val (at_assign rfl) rfl ?_
                    refine wl_nil ?_
                    refine wk_prune [(4, .bool false)] ⟨rfl, trivial⟩ (fun f1 => ?_)
                    refine wk_then ?_
                    refine wc_ret ?_
                    exact wk_ret1 (x := false) rfl (by decide) rfl so h
                · refine wl_set (t := 202) (v := .bool false) (congrArg Value.bool hb) ?_; clear hb
                  refine wl_off (t := 202) rfl (by decide) rfl ?_
                  refine wl_off (t := 202) rfl (by decide) rfl ?_
                  refine wl_off (t := 202) rfl (by decide) rfl ?_
                  refine wl_off (t := 202) rfl (by decide) rfl ?_
                  refine wl_val (at_pick_f rfl rfl) rfl ?_
                  refine wl_val (at_move rfl) rfl ?_
                  refine wl_off (t := 208) rfl (by decide) rfl ?_
                  refine wl_off (t := 208) rfl (by decide) rfl ?_
                  refine wl_off (t := 208) rfl (by decide) rfl ?_
                  refine wl_off (t := 208) rfl (by decide) rfl ?_
                  refine wl_off (t := 208) rfl (by decide) rfl ?_
                  refine wl_val (at_pick_f rfl rfl) rfl ?_
                  refine wl_val (at_move rfl) rfl ?_
                  refine wl_off (t := 215) rfl (by decide) rfl ?_
                  refine wl_off (t := 215) rfl (by decide) rfl ?_
                  refine wl_off (t := 215) rfl (by decide) rfl ?_
                  refine wl_off (t := 215) rfl (by decide) rfl ?_
                  refine wl_off (t := 215) rfl (by decide) rfl ?_
                  refine wl_val (at_pick_f rfl rfl) rfl ?_
                  refine wl_val (at_move rfl) rfl ?_
                  refine wl_off (t := 222) rfl (by decide) rfl ?_
                  refine wl_off (t := 222) rfl (by decide) rfl ?_
                  refine wl_off (t := 222) rfl (by decide) rfl ?_
                  refine wl_off (t := 222) rfl (by decide) rfl ?_
                  refine wl_off (t := 222) rfl (by decide) rfl ?_
                  refine wl_off (t := 222) rfl (by decide) rfl ?_
                  refine wl_off' (t := 228) rfl (by decide) rfl ?_
                  refine wl_off' (t := 228) rfl (by decide) rfl ?_
                  refine wl_off' (t := 228) rfl (by decide) rfl ?_
                  refine wl_off' (t := 228) rfl (by decide) rfl ?_
                  refine wl_off' (t := 228) rfl (by decide) rfl ?_
                  refine wl_off (t := 222) rfl (by decide) rfl ?_
                  refine wl_val (at_pick_f rfl rfl) rfl ?_
                  refine wl_val (at_assign rfl) rfl ?_
                  refine wl_nil ?_
                  refine wk_prune [(4, .bool false)] ⟨rfl, trivial⟩ (fun f1 => ?_)
                  refine wk_then ?_
                  refine wc_ret ?_
                  exact wk_ret1 (x := false) rfl (by decide) rfl so h
        · intro J11 h hJ11
          refine wc_seq ?_
          refine wc_region ?_
          refine wl_val (at_move rfl) rfl ?_
          refine wl_val (at_move rfl) rfl ?_
          refine wl_val (at_lenS Try.underlying9 rfl) rfl ?_
          refine wl_val (at_gtr rfl rfl) rfl ?_
          refine wl_nil ?_
          refine wk_prune [(0, .string a0), (6, .slice x3.1.a x3.1.n x3.1.c), (7, .int .i64 x3.2.1), (9, .int .i64 s9), (44, .bool (decide ((a0.size : Int) < s9)))] ⟨rfl, rfl, rfl, rfl, rfl, trivial⟩ (fun f1 => ?_)
          refine wk_then ?_
          refine wc_cond rfl h (fun h => ?_) (fun h => ?_)
          · refine wc_region ?_
            refine wl_val (at_move rfl) rfl ?_
            refine wl_val (at_lenS Try.underlying9 rfl) rfl ?_
            refine wl_val (at_assign rfl) rfl ?_
            refine wl_nil ?_
            exact wk_prune [(0, .string a0), (6, .slice x3.1.a x3.1.n x3.1.c), (7, .int .i64 x3.2.1), (9, .int .i64 (a0.size : Int))] ⟨rfl, rfl, rfl, rfl, trivial⟩ (fun f1 => hJ11 ((a0.size : Int)) _ f1 h so)
          · refine wc_skip ?_
            exact wk_prune [(0, .string a0), (6, .slice x3.1.a x3.1.n x3.1.c), (7, .int .i64 x3.2.1), (9, .int .i64 s9)] ⟨rfl, rfl, rfl, rfl, trivial⟩ (fun f1 => hJ11 (s9) _ f1 h so)
      · intro J8 h hJ8
        refine wc_seq ?_
        refine wc_region ?_
        refine wl_val (at_move rfl) rfl ?_
        refine wl_val (at_lss rfl rfl) rfl ?_
        refine wl_nil ?_
        refine wk_prune [(0, .string a0), (6, .slice x3.1.a x3.1.n x3.1.c), (7, .int .i64 x3.2.1), (9, .int .i64 a1), (40, .bool (decide (a1 < 0)))] ⟨rfl, rfl, rfl, rfl, rfl, trivial⟩ (fun f1 => ?_)
        refine wk_then ?_
        refine wc_cond rfl h (fun h => ?_) (fun h => ?_)
        · refine wc_region ?_
          refine wl_val (at_assign rfl) rfl ?_
          refine wl_nil ?_
          exact wk_prune [(0, .string a0), (6, .slice x3.1.a x3.1.n x3.1.c), (7, .int .i64 x3.2.1), (9, .int .i64 0)] ⟨rfl, rfl, rfl, rfl, trivial⟩ (fun f1 => hJ8 (0) _ f1 h so)
        · refine wc_skip ?_
          exact wk_prune [(0, .string a0), (6, .slice x3.1.a x3.1.n x3.1.c), (7, .int .i64 x3.2.1), (9, .int .i64 a1)] ⟨rfl, rfl, rfl, rfl, trivial⟩ (fun f1 => hJ8 (a1) _ f1 h so)
  · intro J5 h hJ5
    refine wc_region ?_
    refine wl_val (at_move rfl) rfl ?_
    refine wl_val (at_not rfl) rfl ?_
    refine wl_val (at_move rfl) rfl ?_
    refine bif_ h (fun hb h => ?_) (fun hb h => ?_)
    · refine wl_set (t := 29) (v := .bool true) (congrArg Value.bool hb) ?_; clear hb
      refine wl_off (t := 29) rfl (by decide) rfl ?_
      refine wl_off (t := 29) rfl (by decide) rfl ?_
      refine wl_val (at_pick_t rfl rfl) rfl ?_
      refine wl_val (at_move rfl) rfl ?_
      refine wl_off (t := 33) rfl (by decide) rfl ?_
      refine wl_off (t := 33) rfl (by decide) rfl ?_
      refine wl_off (t := 33) rfl (by decide) rfl ?_
      refine wl_val (at_pick_t rfl rfl) rfl ?_
      refine wl_nil ?_
      exact wk_prune [(0, .string a0), (1, .int .i64 a1), (6, .slice x3.1.a x3.1.n x3.1.c), (7, .int .i64 x3.2.1), (37, .bool true)] ⟨rfl, rfl, rfl, rfl, rfl, trivial⟩ (fun f1 => hJ5 (true) _ f1 h so)
    · refine wl_set (t := 29) (v := .bool false) (congrArg Value.bool hb) ?_; clear hb
      refine wl_on (t := 29) rfl (by decide) rfl ?_
      refine wl_val (at_move rfl) rfl ?_
      refine wl_on (t := 29) rfl (by decide) rfl ?_
      refine wl_val (at_neq rfl rfl) rfl ?_
      refine wl_val (at_pick_f rfl rfl) rfl ?_
      refine wl_val (at_move rfl) rfl ?_
      refine bif_ h (fun hb h => ?_) (fun hb h => ?_)
      · refine wl_set (t := 33) (v := .bool true) (congrArg Value.bool hb) ?_; clear hb
        refine wl_off (t := 33) rfl (by decide) rfl ?_
        refine wl_off (t := 33) rfl (by decide) rfl ?_
        refine wl_off (t := 33) rfl (by decide) rfl ?_
        refine wl_val (at_pick_t rfl rfl) rfl ?_
        refine wl_nil ?_
        exact wk_prune [(0, .string a0), (1, .int .i64 a1), (6, .slice x3.1.a x3.1.n x3.1.c), (7, .int .i64 x3.2.1), (37, .bool true)] ⟨rfl, rfl, rfl, rfl, rfl, trivial⟩ (fun f1 => hJ5 (true) _ f1 h so)
      · refine wl_set (t := 33) (v := .bool false) (congrArg Value.bool hb) ?_; clear hb
        refine wl_on (t := 33) rfl (by decide) rfl ?_
        refine wl_val (at_move rfl) rfl ?_
        refine wl_on (t := 33) rfl (by decide) rfl ?_
        refine wl_val (at_lenL Try.underlying22 rfl) rfl ?_
        refine wl_on (t := 33) rfl (by decide) rfl ?_
        refine wl_val (at_eql rfl rfl) rfl ?_
        refine wl_val (at_pick_f rfl rfl) rfl ?_
        refine wl_nil ?_
        exact wk_prune [(0, .string a0), (1, .int .i64 a1), (6, .slice x3.1.a x3.1.n x3.1.c), (7, .int .i64 x3.2.1), (37, .bool ((x3.1.n : Int) == 0))] ⟨rfl, rfl, rfl, rfl, rfl, trivial⟩ (fun f1 => hJ5 (((x3.1.n : Int) == 0)) _ f1 h so)
end Go.Proofs.Ytdcjjoihlnjpnaa.G
