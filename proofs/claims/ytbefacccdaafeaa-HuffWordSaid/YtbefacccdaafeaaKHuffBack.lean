import Derived.Test.YtbefacccdaafeaaGF
import Derived.Test.YtbefacccdaafeaaKbits
import Derived.Test.YtbefacccdaafeaaKhuff
import Derived.Test.YtbefacccdaafeaaKmosaiclaw04
namespace Go.Proofs.Ytbefacccdaafeaa.G
open Go.RowKit
set_option linter.unusedVariables false
set_option linter.unusedSimpArgs false
/-- mosaic/mosaiclaw04.HuffBack -/
def mosaiclaw04_HuffBack.enc : Bool → Value := fun r => .bool r
def mosaiclaw04_HuffBack.s (a0_0 : Ints 16) (a0_1 : Sl) (a1 : Sl) (a2 : Int) (a3 : Sl) (H0 : Hp) (Q : Bool → Hp → Prop) : Prop :=
  Gn [] H0 (fun (b1 : Nat) (H2 : Hp) => mosaiclaw04_alive.s H2 (fun x3 H4 => Pv [b1] H2 H4 ∧ (mosaiclaw04_twin.s a0_0 a0_1 H4 (fun x6 H7 => Pv [b1] H4 H7 ∧ (huff_New.s x6.1 x6.2 H7 (fun x9 H10 => Pv [b1] H7 H10 ∧ (if (x9.2 != 0) = true then (Q x3 H10) else (bits_New.s H10 (fun x12 H13 => Pv [b1] H10 H13 ∧ (Join (fun (s16 : Bool) (H17 : Hp) => if s16 = true then (Q false H17) else (Join (fun (s19 : Int) (H20 : Hp) => bits_Sink_Put.s x12 23130 s19 H20 (fun x21 H22 => Pv [b1] H20 H22 ∧ (∃ k24, Fix (fun (rec29 : (Sl × Int × Int) → Hp → Prop) (s26 : Sl × Int × Int) (H27 : Hp) => if decide (s26.2.2 < (a1.n : Int)) = true then (0 ≤ s26.2.2 ∧ s26.2.2 < (a1.n : Int) ∧ someA a1.a (fun p32 => ldI .i64 H27 (p32.add (Int.toNat s26.2.2 * 1)) (fun x34 => (a0_1.n : Int) ≠ 0 ∧ (Join (fun (s39 : Int) (H40 : Hp) => 0 ≤ s39 ∧ s39 < (a0_1.n : Int) ∧ someA a0_1.a (fun p43 => ldI .u8 H40 (p43.add (Int.toNat s39 * 1)) (fun x45 => huff_Table_Write.s x9.1 x12 x45 H40 (fun x47 H48 => Pv [b1] H40 H48 ∧ (huff_Table_Code.s x9.1 x45 H48 (fun x50 H51 => Pv [b1] H48 H51 ∧ (Join (fun (s54 : Bool) (H55 : Hp) => if s54 = true then (Q false H55) else (nw H55 5 [.int .u8 x45] (fun p56 H57 => Pv [b1] H55 H57 ∧ (apS H57 s26.1 5 1 1 z5.cells 1 [.int .u8 x45] (fun l62 H63 => Pv [b1] H57 H63 ∧ (rec29 (l62, (IntKind.wrap .i64 (s26.2.1 + x50.2)), (IntKind.wrap .i64 (s26.2.2 + 1))) H63)))))) (fun (J53 : Bool → Hp → Prop) => if (!x47) = true then (J53 (true) H51) else (bits_Sink_Len.s x12 H51 (fun x65 H66 => Pv [b1] H51 H66 ∧ (J53 ((x65 != (IntKind.wrap .i64 (s26.2.1 + x50.2)))) H66))))))))))) (fun (J38 : Int → Hp → Prop) => if decide ((Int.tmod x34 (a0_1.n : Int)) < 0) = true then (Lt ((IntKind.wrap .i64 ((Int.tmod x34 (a0_1.n : Int)) + (a0_1.n : Int))) : Int) (fun x68 => J38 (x68) H27)) else (J38 ((Int.tmod x34 (a0_1.n : Int))) H27)))))) else (∃ k70, Fix (fun (rec75 : Int → Hp → Prop) (s72 : Int) (H73 : Hp) => if decide (s72 < (a3.n : Int)) = true then (0 ≤ s72 ∧ s72 < (a3.n : Int) ∧ someA a3.a (fun p78 => ldI .i64 H73 (p78.add (Int.toNat s72 * 1)) (fun x80 => bits_Sink_Put.s x12 x80 16 H73 (fun x82 H83 => rec75 ((IntKind.wrap .i64 (s72 + 1))) H83)))) else (bits_Sink_Pad.s x12 H73 (fun _ H85 => bits_Sink_Text.s x12 H85 (fun x86 H87 => bits_Open.s x86 0 (x86.size : Int) H87 (fun x88 H89 => if x88.isNone = true then (Q false H89) else (bits_Source_Skip.s x88 s19 H89 (fun x90 H91 => ∃ k92, Fix (fun (rec97 : Int → Hp → Prop) (s94 : Int) (H95 : Hp) => if decide (s94 < (s26.1.n : Int)) = true then (bits_Source_Used.s x88 H95 (fun x98 H99 => huff_Table_Read.s x9.1 x88 H99 (fun x100 H101 => 0 ≤ s94 ∧ s94 < (s26.1.n : Int) ∧ someA s26.1.a (fun p104 => ldI .u8 H101 (p104.add (Int.toNat s94 * 1)) (fun x106 => huff_Table_Code.s x9.1 x106 H101 (fun x108 H109 => Join (fun (s111 : Bool) (H112 : Hp) => if s111 = true then (Q false H112) else (rec97 ((IntKind.wrap .i64 (s94 + 1))) H112)) (fun (J110 : Bool → Hp → Prop) => 0 ≤ s94 ∧ s94 < (s26.1.n : Int) ∧ (ldI .u8 H109 (p104.add (Int.toNat s94 * 1)) (fun x115 => if (x100.1 != x115) = true then (J110 (true) H109) else (if (x100.2 != 0) = true then (J110 (true) H109) else (bits_Source_Used.s x88 H109 (fun x117 H118 => J110 ((x117 != (IntKind.wrap .i64 (x98 + x108.2)))) H118)))))))))))) else (if x3 = true then (if x90 = true then (bits_Source_Used.s x88 H95 (fun x119 H120 => Q (x119 == s26.2.1) H120)) else (Q false H95)) else (Q false H95))) k92 (0) H91))))))) k70 (0) H27)) k24 (⟨none, 0, 0⟩, s19, 0) H22))) (fun (J18 : Int → Hp → Prop) => if decide ((Int.tmod a2 17) < 0) = true then (J18 ((IntKind.wrap .i64 ((Int.tmod a2 17) + 17))) H17) else (J18 ((Int.tmod a2 17)) H17)))) (fun (J15 : Bool → Hp → Prop) => if x12.isNone = true then (J15 (true) H13) else (J15 (x9.1.isNone) H13))))))))))))
set_option maxRecDepth 20000 in
set_option maxHeartbeats 4000000 in
theorem mosaiclaw04_HuffBack.calls (a0_0 : Ints 16) (a0_1 : Sl) (a1 : Sl) (a2 : Int) (a3 : Sl) (w0 : World) (Q : Bool → Hp → Prop) (h : mosaiclaw04_HuffBack.s a0_0 a0_1 a1 a2 a3 w0.heap Q) :
    Ca Try.prog 10 #[.agg (c25 a0_0 a0_1).toArray, .slice a1.a a1.n a1.c, .int .i64 a2, .slice a3.a a3.n a3.c] w0 (Rt mosaiclaw04_HuffBack.enc Q w0) := by
  refine ca_start (c := _) Try.func10 rfl Try.ntmps10 rfl ?_
  have so : Sm w0 w0 := Sm.refl w0
  unfold mosaiclaw04_HuffBack.s at h
  refine wc_prune [(0, .agg (c25 a0_0 a0_1).toArray), (1, .slice a1.a a1.n a1.c), (2, .int .i64 a2), (3, .slice a3.a a3.n a3.c)] ⟨rfl, rfl, rfl, rfl, trivial⟩ (fun f1 => ?_)
  refine wc_seq ?_
  refine wc_region ?_
  refine wl_newT (T := 25) (cs := (c25 a0_0 a0_1)) (ef_box rfl rfl) rfl so ?_; intro b1 w2 hb_b1 t_b1 k_b1 so
  have g_b1 := Nat.le_of_eq hb_b1.symm
  have hc := k_b1.ch (F := [])
  refine wl_val (at_assign rfl) rfl ?_
  refine wl_nil ?_
  refine wk_prune [(1, .slice a1.a a1.n a1.c), (2, .int .i64 a2), (3, .slice a3.a a3.n a3.c), (4, .pointer (some (⟨b1, 0, none⟩ : Addr)))] ⟨rfl, rfl, rfl, rfl, trivial⟩ (fun f1 => ?_)
  refine wk_then ?_
  refine wc_seq ?_
  refine wc_region ?_
  replace h := h b1 _ hc g_b1 t_b1.lt; clear hc
  refine wl_callF (mosaiclaw04_alive.calls _ _ h) enter40 rfl trivial so ?_; intro x3 w4 h so
  obtain ⟨q5, h⟩ := h
  replace t_b1 := pv_bk q5 t_b1 (by simp)
  refine wl_val (at_assign rfl) rfl ?_
  refine wl_nil ?_
  refine wk_prune [(1, .slice a1.a a1.n a1.c), (2, .int .i64 a2), (3, .slice a3.a a3.n a3.c), (4, .pointer (some (⟨b1, 0, none⟩ : Addr))), (9, .bool x3)] ⟨rfl, rfl, rfl, rfl, rfl, trivial⟩ (fun f1 => ?_)
  refine wk_then ?_
  refine wc_seq ?_
  refine wc_region ?_
  refine wl_val (at_loadA (cs := (c25 a0_0 a0_1)) Try.underlying25 rfl (by rw [len25]; exact sz25) rfl (ldA_full t_b1)) rfl ?_
  refine wl_callF (mosaiclaw04_twin.calls _ _ _ _ h) enter11 rfl trivial so ?_; intro x6 w7 h so
  obtain ⟨q8, h⟩ := h
  replace t_b1 := pv_bk q8 t_b1 (by simp)
  refine wl_callF (huff_New.calls _ _ _ _ h) enter17 rfl trivial so ?_; intro x9 w10 h so
  obtain ⟨q11, h⟩ := h
  replace t_b1 := pv_bk q11 t_b1 (by simp)
  refine wl_val (at_move rfl) rfl ?_
  refine wl_val (at_extract rfl rfl) rfl ?_
  refine wl_val (at_extract rfl rfl) rfl ?_
  refine wl_val (at_assign rfl) rfl ?_
  refine wl_val (at_assign rfl) rfl ?_
  refine wl_nil ?_
  refine wk_prune [(1, .slice a1.a a1.n a1.c), (2, .int .i64 a2), (3, .slice a3.a a3.n a3.c), (4, .pointer (some (⟨b1, 0, none⟩ : Addr))), (9, .bool x3), (10, .pointer x9.1), (11, .int .i64 x9.2)] ⟨rfl, rfl, rfl, rfl, rfl, rfl, rfl, trivial⟩ (fun f1 => ?_)
  refine wk_then ?_
  refine wc_seq ?_
  refine wc_seq ?_
  refine wc_region ?_
  refine wl_val (at_move rfl) rfl ?_
  refine wl_val (at_neq rfl rfl) rfl ?_
  refine wl_nil ?_
  refine wk_prune [(1, .slice a1.a a1.n a1.c), (2, .int .i64 a2), (3, .slice a3.a a3.n a3.c), (4, .pointer (some (⟨b1, 0, none⟩ : Addr))), (9, .bool x3), (10, .pointer x9.1), (40, .bool (x9.2 != 0))] ⟨rfl, rfl, rfl, rfl, rfl, rfl, rfl, trivial⟩ (fun f1 => ?_)
  refine wk_then ?_
  refine wc_cond rfl h (fun h => ?_) (fun h => ?_)
  · refine wc_seq ?_
    refine wc_region ?_
    refine wl_val (at_move rfl) rfl ?_
    refine wl_val (at_assign rfl) rfl ?_
    refine wl_nil ?_
    refine wk_prune [(8, .bool x3)] ⟨rfl, trivial⟩ (fun f1 => ?_)
    refine wk_then ?_
    refine wc_ret ?_
    refine wk_thenR ?_
    exact wk_ret1 (x := x3) rfl (by decide) rfl so h
  · refine wc_skip ?_
    refine wk_prune [(1, .slice a1.a a1.n a1.c), (2, .int .i64 a2), (3, .slice a3.a a3.n a3.c), (4, .pointer (some (⟨b1, 0, none⟩ : Addr))), (9, .bool x3), (10, .pointer x9.1)] ⟨rfl, rfl, rfl, rfl, rfl, rfl, trivial⟩ (fun f1 => ?_)
    refine wk_then ?_
    refine wc_seq ?_
    refine wc_region ?_
    refine wl_callF (bits_New.calls _ _ h) enter20 rfl trivial so ?_; intro x12 w13 h so
    obtain ⟨q14, h⟩ := h
    replace t_b1 := pv_bk q14 t_b1 (by simp)
    refine wl_val (at_assign rfl) rfl ?_
    refine wl_nil ?_
    refine wk_prune [(1, .slice a1.a a1.n a1.c), (2, .int .i64 a2), (3, .slice a3.a a3.n a3.c), (4, .pointer (some (⟨b1, 0, none⟩ : Addr))), (9, .bool x3), (10, .pointer x9.1), (12, .pointer x12)] ⟨rfl, rfl, rfl, rfl, rfl, rfl, rfl, trivial⟩ (fun f1 => ?_)
    refine wk_then ?_
    refine wc_seq ?_
    refine wc_seq ?_
    refine wc_joinG (w0 := w0) (fun (H : Hp) => Bk H b1 25 (c25 a0_0 a0_1) ∧ True) (fun (s16 : Bool) => [(1, .slice a1.a a1.n a1.c), (2, .int .i64 a2), (3, .slice a3.a a3.n a3.c), (4, .pointer (some (⟨b1, 0, none⟩ : Addr))), (9, .bool x3), (10, .pointer x9.1), (12, .pointer x12), (48, .bool s16)]) (fun (s16 : Bool) => []) h ?_ ?_
    · rintro s16 w17 f1 h ⟨t_b1, _⟩ so; refine wk_then ?_
      refine wc_cond rfl h (fun h => ?_) (fun h => ?_)
      · refine wc_seq ?_
        refine wc_region ?_
        refine wl_val (at_assign rfl) rfl ?_
        refine wl_nil ?_
        refine wk_prune [(8, .bool false)] ⟨rfl, trivial⟩ (fun f1 => ?_)
        refine wk_then ?_
        refine wc_ret ?_
        refine wk_thenR ?_
        exact wk_ret1 (x := false) rfl (by decide) rfl so h
      · refine wc_skip ?_
        refine wk_prune [(1, .slice a1.a a1.n a1.c), (2, .int .i64 a2), (3, .slice a3.a a3.n a3.c), (4, .pointer (some (⟨b1, 0, none⟩ : Addr))), (9, .bool x3), (10, .pointer x9.1), (12, .pointer x12)] ⟨rfl, rfl, rfl, rfl, rfl, rfl, rfl, trivial⟩ (fun f1 => ?_)
        refine wk_then ?_
        refine wc_seq ?_
        refine wc_region ?_
        refine wl_val (at_move rfl) rfl ?_
        refine wl_val (at_rem rfl rfl (by decide)) rfl ?_
        refine wl_val (at_assign rfl) rfl ?_
        refine wl_nil ?_
        refine wk_prune [(1, .slice a1.a a1.n a1.c), (3, .slice a3.a a3.n a3.c), (4, .pointer (some (⟨b1, 0, none⟩ : Addr))), (9, .bool x3), (10, .pointer x9.1), (12, .pointer x12), (13, .int .i64 (Int.tmod a2 17))] ⟨rfl, rfl, rfl, rfl, rfl, rfl, rfl, trivial⟩ (fun f1 => ?_)
        refine wk_then ?_
        refine wc_seq ?_
        refine wc_joinG (w0 := w0) (fun (H : Hp) => Bk H b1 25 (c25 a0_0 a0_1) ∧ True) (fun (s19 : Int) => [(1, .slice a1.a a1.n a1.c), (3, .slice a3.a a3.n a3.c), (4, .pointer (some (⟨b1, 0, none⟩ : Addr))), (9, .bool x3), (10, .pointer x9.1), (12, .pointer x12), (13, .int .i64 s19)]) (fun (s19 : Int) => []) h ?_ ?_
        · rintro s19 w20 f1 h ⟨t_b1, _⟩ so; refine wk_then ?_
          refine wc_seq ?_
          refine wc_region ?_
          refine wl_val (at_move rfl) rfl ?_
          refine wl_val (at_move rfl) rfl ?_
          refine wl_callF (bits_Sink_Put.calls _ _ _ _ _ h) enter44 rfl trivial so ?_; intro x21 w22 h so
          obtain ⟨q23, h⟩ := h
          replace t_b1 := pv_bk q23 t_b1 (by simp)
          refine wl_nil ?_
          refine wk_prune [(1, .slice a1.a a1.n a1.c), (3, .slice a3.a a3.n a3.c), (4, .pointer (some (⟨b1, 0, none⟩ : Addr))), (9, .bool x3), (10, .pointer x9.1), (12, .pointer x12), (13, .int .i64 s19)] ⟨rfl, rfl, rfl, rfl, rfl, rfl, rfl, trivial⟩ (fun f1 => ?_)
          refine wk_then ?_
          refine wc_seq ?_
          refine wc_region ?_
          refine wl_val (at_assign rfl) rfl ?_
          refine wl_nil ?_
          refine wk_prune [(1, .slice a1.a a1.n a1.c), (3, .slice a3.a a3.n a3.c), (4, .pointer (some (⟨b1, 0, none⟩ : Addr))), (9, .bool x3), (10, .pointer x9.1), (12, .pointer x12), (13, .int .i64 s19), (14, .slice none 0 0)] ⟨rfl, rfl, rfl, rfl, rfl, rfl, rfl, rfl, trivial⟩ (fun f1 => ?_)
          refine wk_then ?_
          refine wc_seq ?_
          refine wc_region ?_
          refine wl_val (at_move rfl) rfl ?_
          refine wl_val (at_assign rfl) rfl ?_
          refine wl_nil ?_
          refine wk_prune [(1, .slice a1.a a1.n a1.c), (3, .slice a3.a a3.n a3.c), (4, .pointer (some (⟨b1, 0, none⟩ : Addr))), (9, .bool x3), (10, .pointer x9.1), (12, .pointer x12), (13, .int .i64 s19), (14, .slice none 0 0), (15, .int .i64 s19)] ⟨rfl, rfl, rfl, rfl, rfl, rfl, rfl, rfl, rfl, trivial⟩ (fun f1 => ?_)
          refine wk_then ?_
          refine wc_seq ?_
          refine wc_seq ?_
          refine wc_region ?_
          refine wl_val (at_assign rfl) rfl ?_
          refine wl_nil ?_
          refine wk_prune [(1, .slice a1.a a1.n a1.c), (3, .slice a3.a a3.n a3.c), (4, .pointer (some (⟨b1, 0, none⟩ : Addr))), (9, .bool x3), (10, .pointer x9.1), (12, .pointer x12), (13, .int .i64 s19), (14, .slice none 0 0), (15, .int .i64 s19), (16, .int .i64 0)] ⟨rfl, rfl, rfl, rfl, rfl, rfl, rfl, rfl, rfl, rfl, trivial⟩ (fun f1 => ?_)
          refine wk_then ?_
          refine wc_block ?_
          obtain ⟨k24, h⟩ := h
          refine wc_loop (fun k a w => ∃ (s26 : Sl × Int × Int) (f1 : Nat → Value), a = ac 186 (en f1 [(1, .slice a1.a a1.n a1.c), (3, .slice a3.a a3.n a3.c), (4, .pointer (some (⟨b1, 0, none⟩ : Addr))), (9, .bool x3), (10, .pointer x9.1), (12, .pointer x12), (13, .int .i64 s19), (14, .slice s26.1.a s26.1.n s26.1.c), (15, .int .i64 s26.2.1), (16, .int .i64 s26.2.2)]) [] ∧ Sm w0 w ∧ (Bk w.heap b1 25 (c25 a0_0 a0_1) ∧ True) ∧ Fix _ k s26 w.heap) k24 ⟨(⟨none, 0, 0⟩, s19, 0), _, ac_again ⟨rfl, rfl, rfl, rfl, rfl, rfl, rfl, rfl, rfl, rfl, trivial⟩, so, ⟨t_b1, trivial⟩, h⟩ ?_
          rintro k25 a28 w27 ⟨s26, f1, rfl, so, ⟨t_b1, _⟩, h⟩
          rcases k25 with _ | k25
          · exact h.elim
          replace h := Fix.un h; refine wc_in ?_
          refine wc_seq ?_
          refine wc_seq ?_
          refine wc_region ?_
          refine wl_val (at_move rfl) rfl ?_
          refine wl_val (at_move rfl) rfl ?_
          refine wl_val (at_lenL Try.underlying68 rfl) rfl ?_
          refine wl_val (at_lss rfl rfl) rfl ?_
          refine wl_nil ?_
          refine wk_prune [(1, .slice a1.a a1.n a1.c), (3, .slice a3.a a3.n a3.c), (4, .pointer (some (⟨b1, 0, none⟩ : Addr))), (9, .bool x3), (10, .pointer x9.1), (12, .pointer x12), (13, .int .i64 s19), (14, .slice s26.1.a s26.1.n s26.1.c), (15, .int .i64 s26.2.1), (16, .int .i64 s26.2.2), (62, .bool (decide (s26.2.2 < (a1.n : Int))))] ⟨rfl, rfl, rfl, rfl, rfl, rfl, rfl, rfl, rfl, rfl, rfl, trivial⟩ (fun f1 => ?_)
          refine wk_then ?_
          refine wc_cond rfl h (fun h => ?_) (fun h => ?_)
          · refine wc_skip ?_
            refine wk_prune [(1, .slice a1.a a1.n a1.c), (3, .slice a3.a a3.n a3.c), (4, .pointer (some (⟨b1, 0, none⟩ : Addr))), (9, .bool x3), (10, .pointer x9.1), (12, .pointer x12), (13, .int .i64 s19), (14, .slice s26.1.a s26.1.n s26.1.c), (15, .int .i64 s26.2.1), (16, .int .i64 s26.2.2)] ⟨rfl, rfl, rfl, rfl, rfl, rfl, rfl, rfl, rfl, rfl, trivial⟩ (fun f1 => ?_)
            refine wk_then ?_
            refine wc_seq ?_
            refine wc_block ?_
            refine wc_seq ?_
            refine wc_draw mixed (by kernel_rfl) so ?_
            refine wq_val (at_move rfl) rfl ?_
            refine wq_val (at_move rfl) rfl ?_
            obtain ⟨q30, q31, p32, q33, h⟩ := h
            refine wq_val (at_ixAddrL Try.underlying68 sz3 (sl_some q33) rfl q30 q31) rfl ?_
            obtain ⟨x34, q35, h⟩ := h
            refine wq_val (at_load Try.underlying3 rfl rfl q35) rfl ?_
            refine wq_val (at_fieldAddr Try.underlying25 rfl rfl sz23 (by decide) rfl) rfl ?_
            refine wq_val (at_load (v := .slice a0_1.a a0_1.n a0_1.c) Try.underlying23 rfl rfl ((t_b1.cell 16).trans (by first | rfl | simp [List.getElem?_append, ints_len, bools_len]))) rfl ?_
            refine wq_val (at_lenL Try.underlying23 rfl) rfl ?_
            obtain ⟨q36, h⟩ := h
            refine wq_val (at_rem rfl rfl q36) rfl ?_
            refine wq_val (at_assign rfl) rfl ?_
            refine wq_nil ?_; intro w37 hw so; rw [← hw] at h t_b1; clear hw
            refine wk_prune [(1, .slice a1.a a1.n a1.c), (3, .slice a3.a a3.n a3.c), (4, .pointer (some (⟨b1, 0, none⟩ : Addr))), (9, .bool x3), (10, .pointer x9.1), (12, .pointer x12), (13, .int .i64 s19), (14, .slice s26.1.a s26.1.n s26.1.c), (15, .int .i64 s26.2.1), (16, .int .i64 s26.2.2), (17, .int .i64 (Int.tmod x34 (a0_1.n : Int)))] ⟨rfl, rfl, rfl, rfl, rfl, rfl, rfl, rfl, rfl, rfl, rfl, trivial⟩ (fun f1 => ?_)
            refine wk_then ?_
            refine wc_seq ?_
            refine wc_joinG (w0 := w0) (fun (H : Hp) => Bk H b1 25 (c25 a0_0 a0_1) ∧ True) (fun (s39 : Int) => [(1, .slice a1.a a1.n a1.c), (3, .slice a3.a a3.n a3.c), (4, .pointer (some (⟨b1, 0, none⟩ : Addr))), (9, .bool x3), (10, .pointer x9.1), (12, .pointer x12), (13, .int .i64 s19), (14, .slice s26.1.a s26.1.n s26.1.c), (15, .int .i64 s26.2.1), (16, .int .i64 s26.2.2), (17, .int .i64 s39)]) (fun (s39 : Int) => []) h ?_ ?_
            · rintro s39 w40 f1 h ⟨t_b1, _⟩ so; refine wk_then ?_
              refine wc_seq ?_
              refine wc_region ?_
              refine wl_val (at_fieldAddr Try.underlying25 rfl rfl sz23 (by decide) rfl) rfl ?_
              refine wl_val (at_load (v := .slice a0_1.a a0_1.n a0_1.c) Try.underlying23 rfl rfl ((t_b1.cell 16).trans (by first | rfl | simp [List.getElem?_append, ints_len, bools_len]))) rfl ?_
              refine wl_val (at_move rfl) rfl ?_
              obtain ⟨q41, q42, p43, q44, h⟩ := h
              refine wl_val (at_ixAddrL Try.underlying23 sz5 (sl_some q44) rfl q41 q42) rfl ?_
              obtain ⟨x45, q46, h⟩ := h
              refine wl_val (at_load Try.underlying5 rfl rfl q46) rfl ?_
              refine wl_val (at_assign rfl) rfl ?_
              refine wl_nil ?_
              refine wk_prune [(1, .slice a1.a a1.n a1.c), (3, .slice a3.a a3.n a3.c), (4, .pointer (some (⟨b1, 0, none⟩ : Addr))), (9, .bool x3), (10, .pointer x9.1), (12, .pointer x12), (13, .int .i64 s19), (14, .slice s26.1.a s26.1.n s26.1.c), (15, .int .i64 s26.2.1), (16, .int .i64 s26.2.2), (18, .int .u8 x45)] ⟨rfl, rfl, rfl, rfl, rfl, rfl, rfl, rfl, rfl, rfl, rfl, trivial⟩ (fun f1 => ?_)
              refine wk_then ?_
              refine wc_seq ?_
              refine wc_region ?_
              refine wl_val (at_move rfl) rfl ?_
              refine wl_val (at_move rfl) rfl ?_
              refine wl_val (at_move rfl) rfl ?_
              refine wl_callF (huff_Table_Write.calls _ _ _ _ _ h) enter22 rfl trivial so ?_; intro x47 w48 h so
              obtain ⟨q49, h⟩ := h
              replace t_b1 := pv_bk q49 t_b1 (by simp)
              refine wl_val (at_assign rfl) rfl ?_
              refine wl_nil ?_
              refine wk_prune [(1, .slice a1.a a1.n a1.c), (3, .slice a3.a a3.n a3.c), (4, .pointer (some (⟨b1, 0, none⟩ : Addr))), (9, .bool x3), (10, .pointer x9.1), (12, .pointer x12), (13, .int .i64 s19), (14, .slice s26.1.a s26.1.n s26.1.c), (15, .int .i64 s26.2.1), (16, .int .i64 s26.2.2), (18, .int .u8 x45), (19, .bool x47)] ⟨rfl, rfl, rfl, rfl, rfl, rfl, rfl, rfl, rfl, rfl, rfl, rfl, trivial⟩ (fun f1 => ?_)
              refine wk_then ?_
              refine wc_seq ?_
              refine wc_region ?_
              refine wl_val (at_move rfl) rfl ?_
              refine wl_val (at_move rfl) rfl ?_
              refine wl_callF (huff_Table_Code.calls _ _ _ _ h) enter42 rfl trivial so ?_; intro x50 w51 h so
              obtain ⟨q52, h⟩ := h
              replace t_b1 := pv_bk q52 t_b1 (by simp)
              refine wl_val (at_move rfl) rfl ?_
              refine wl_val (at_extract rfl rfl) rfl ?_
              refine wl_val (at_extract rfl rfl) rfl ?_
              refine wl_val (at_assign rfl) rfl ?_
              refine wl_val (at_assign rfl) rfl ?_
              refine wl_nil ?_
              refine wk_prune [(1, .slice a1.a a1.n a1.c), (3, .slice a3.a a3.n a3.c), (4, .pointer (some (⟨b1, 0, none⟩ : Addr))), (9, .bool x3), (10, .pointer x9.1), (12, .pointer x12), (13, .int .i64 s19), (14, .slice s26.1.a s26.1.n s26.1.c), (15, .int .i64 s26.2.1), (16, .int .i64 s26.2.2), (18, .int .u8 x45), (19, .bool x47), (21, .int .i64 x50.2)] ⟨rfl, rfl, rfl, rfl, rfl, rfl, rfl, rfl, rfl, rfl, rfl, rfl, rfl, trivial⟩ (fun f1 => ?_)
              refine wk_then ?_
              refine wc_seq ?_
              refine wc_region ?_
              refine wl_val (at_move rfl) rfl ?_
              refine wl_val (at_move rfl) rfl ?_
              refine wl_val (at_add rfl rfl) rfl ?_
              refine wl_val (at_assign rfl) rfl ?_
              refine wl_nil ?_
              refine wk_prune [(1, .slice a1.a a1.n a1.c), (3, .slice a3.a a3.n a3.c), (4, .pointer (some (⟨b1, 0, none⟩ : Addr))), (9, .bool x3), (10, .pointer x9.1), (12, .pointer x12), (13, .int .i64 s19), (14, .slice s26.1.a s26.1.n s26.1.c), (15, .int .i64 (IntKind.wrap .i64 (s26.2.1 + x50.2))), (16, .int .i64 s26.2.2), (18, .int .u8 x45), (19, .bool x47)] ⟨rfl, rfl, rfl, rfl, rfl, rfl, rfl, rfl, rfl, rfl, rfl, rfl, trivial⟩ (fun f1 => ?_)
              refine wk_then ?_
              refine wc_seq ?_
              refine wc_seq ?_
              refine wc_joinG (w0 := w0) (fun (H : Hp) => Bk H b1 25 (c25 a0_0 a0_1) ∧ True) (fun (s54 : Bool) => [(1, .slice a1.a a1.n a1.c), (3, .slice a3.a a3.n a3.c), (4, .pointer (some (⟨b1, 0, none⟩ : Addr))), (9, .bool x3), (10, .pointer x9.1), (12, .pointer x12), (13, .int .i64 s19), (14, .slice s26.1.a s26.1.n s26.1.c), (15, .int .i64 (IntKind.wrap .i64 (s26.2.1 + x50.2))), (16, .int .i64 s26.2.2), (18, .int .u8 x45), (105, .bool s54)]) (fun (s54 : Bool) => []) h ?_ ?_
              · rintro s54 w55 f1 h ⟨t_b1, _⟩ so; refine wk_then ?_
                refine wc_cond rfl h (fun h => ?_) (fun h => ?_)
                · refine wc_seq ?_
                  refine wc_region ?_
                  refine wl_val (at_assign rfl) rfl ?_
                  refine wl_nil ?_
                  refine wk_prune [(8, .bool false)] ⟨rfl, trivial⟩ (fun f1 => ?_)
                  refine wk_then ?_
                  refine wc_ret ?_
                  refine wk_thenR ?_
                  refine wk_blkR ?_
                  refine wk_thenR ?_
                  refine wk_thenR ?_
                  refine wk_blkR ?_
                  refine wk_thenR ?_
                  exact wk_ret1 (x := false) rfl (by decide) rfl so h
                · refine wc_skip ?_
                  refine wk_prune [(1, .slice a1.a a1.n a1.c), (3, .slice a3.a a3.n a3.c), (4, .pointer (some (⟨b1, 0, none⟩ : Addr))), (9, .bool x3), (10, .pointer x9.1), (12, .pointer x12), (13, .int .i64 s19), (14, .slice s26.1.a s26.1.n s26.1.c), (15, .int .i64 (IntKind.wrap .i64 (s26.2.1 + x50.2))), (16, .int .i64 s26.2.2), (18, .int .u8 x45)] ⟨rfl, rfl, rfl, rfl, rfl, rfl, rfl, rfl, rfl, rfl, rfl, trivial⟩ (fun f1 => ?_)
                  refine wk_then ?_
                  refine wc_region ?_
                  refine wl_val (at_move rfl) rfl ?_
                  refine wl_val (at_move rfl) rfl ?_
                  obtain ⟨i59, i59a, i59b, i59c, i59d⟩ := info5
                  refine wl_newS (ef_buildSlice (cs := [.int .u8 x45]) (ps := [(0, .int .u8 x45)]) Try.underlying23 i59a i59b rfl (by rw [i59c]; decide) (by rw [i59c]; exact fill_full (vs := [.int .u8 x45]) rfl (by simp [Value.cells]) (by simp [Value.cells]) rfl (by simp))) rfl so (ones_cons rfl ones_nil) h ?_; intro p56 w57 h r58 so
                  obtain ⟨q60, h⟩ := h
                  replace t_b1 := pv_bk q60 t_b1 (by simp)
                  obtain ⟨i61, i61a, i61b, i61c, i61d⟩ := info5
                  refine wl_ap (fx_append (s := s26.1) (t := ⟨(some p56), 1, 1⟩) (m := 1) (xs := [.int .u8 x45]) Try.underlying23 Try.underlying23 i61a i61b i61c i61d rfl rfl rfl (by first | rfl | simp) r58 h) rfl so ?_; intro l62 w63 h so
                  obtain ⟨q64, h⟩ := h
                  replace t_b1 := pv_bk q64 t_b1 (by simp)
                  refine wl_val (at_assign rfl) rfl ?_
                  refine wl_nil ?_
                  refine wk_blkN ?_
                  refine wk_prune [(1, .slice a1.a a1.n a1.c), (3, .slice a3.a a3.n a3.c), (4, .pointer (some (⟨b1, 0, none⟩ : Addr))), (9, .bool x3), (10, .pointer x9.1), (12, .pointer x12), (13, .int .i64 s19), (14, .slice l62.a l62.n l62.c), (15, .int .i64 (IntKind.wrap .i64 (s26.2.1 + x50.2))), (16, .int .i64 s26.2.2)] ⟨rfl, rfl, rfl, rfl, rfl, rfl, rfl, rfl, rfl, rfl, trivial⟩ (fun f1 => ?_)
                  refine wk_then ?_
                  refine wc_region ?_
                  refine wl_val (at_move rfl) rfl ?_
                  refine wl_val (at_add rfl rfl) rfl ?_
                  refine wl_val (at_assign rfl) rfl ?_
                  refine wl_nil ?_
                  exact wk_again ⟨(l62, (IntKind.wrap .i64 (s26.2.1 + x50.2)), (IntKind.wrap .i64 (s26.2.2 + 1))), _, ac_again ⟨rfl, rfl, rfl, rfl, rfl, rfl, rfl, rfl, rfl, rfl, trivial⟩, so, ⟨t_b1, trivial⟩, h⟩
              · intro J53 h hJ53
                refine wc_region ?_
                refine wl_val (at_move rfl) rfl ?_
                refine wl_val (at_not rfl) rfl ?_
                refine wl_val (at_move rfl) rfl ?_
                refine bif_ h (fun hb h => ?_) (fun hb h => ?_)
                · refine wl_set (t := 100) (v := .bool true) (congrArg Value.bool hb) ?_; clear hb
                  refine wl_off (t := 100) rfl (by decide) rfl ?_
                  refine wl_off (t := 100) rfl (by decide) rfl ?_
                  refine wl_off (t := 100) rfl (by decide) rfl ?_
                  refine wl_off (t := 100) rfl (by decide) rfl ?_
                  refine wl_val (at_pick_t rfl rfl) rfl ?_
                  refine wl_nil ?_
                  exact wk_prune [(1, .slice a1.a a1.n a1.c), (3, .slice a3.a a3.n a3.c), (4, .pointer (some (⟨b1, 0, none⟩ : Addr))), (9, .bool x3), (10, .pointer x9.1), (12, .pointer x12), (13, .int .i64 s19), (14, .slice s26.1.a s26.1.n s26.1.c), (15, .int .i64 (IntKind.wrap .i64 (s26.2.1 + x50.2))), (16, .int .i64 s26.2.2), (18, .int .u8 x45), (105, .bool true)] ⟨rfl, rfl, rfl, rfl, rfl, rfl, rfl, rfl, rfl, rfl, rfl, rfl, trivial⟩ (fun f1 => hJ53 (true) _ f1 h ⟨t_b1, trivial⟩ so)
                · refine wl_set (t := 100) (v := .bool false) (congrArg Value.bool hb) ?_; clear hb
                  refine wl_on (t := 100) rfl (by decide) rfl ?_
                  refine wl_val (at_move rfl) rfl ?_
                  refine wl_on (t := 100) rfl (by decide) rfl ?_
                  refine wl_callF (bits_Sink_Len.calls _ _ _ h) enter24 rfl trivial so ?_; intro x65 w66 h so
                  obtain ⟨q67, h⟩ := h
                  replace t_b1 := pv_bk q67 t_b1 (by simp)
                  refine wl_on (t := 100) rfl (by decide) rfl ?_
                  refine wl_val (at_move rfl) rfl ?_
                  refine wl_on (t := 100) rfl (by decide) rfl ?_
                  refine wl_val (at_neq rfl rfl) rfl ?_
                  refine wl_val (at_pick_f rfl rfl) rfl ?_
                  refine wl_nil ?_
                  exact wk_prune [(1, .slice a1.a a1.n a1.c), (3, .slice a3.a a3.n a3.c), (4, .pointer (some (⟨b1, 0, none⟩ : Addr))), (9, .bool x3), (10, .pointer x9.1), (12, .pointer x12), (13, .int .i64 s19), (14, .slice s26.1.a s26.1.n s26.1.c), (15, .int .i64 (IntKind.wrap .i64 (s26.2.1 + x50.2))), (16, .int .i64 s26.2.2), (18, .int .u8 x45), (105, .bool (x65 != (IntKind.wrap .i64 (s26.2.1 + x50.2))))] ⟨rfl, rfl, rfl, rfl, rfl, rfl, rfl, rfl, rfl, rfl, rfl, rfl, trivial⟩ (fun f1 => hJ53 ((x65 != (IntKind.wrap .i64 (s26.2.1 + x50.2)))) _ f1 h ⟨t_b1, trivial⟩ so)
            · intro J38 h hJ38
              refine wc_seq ?_
              refine wc_region ?_
              refine wl_val (at_move rfl) rfl ?_
              refine wl_val (at_lss rfl rfl) rfl ?_
              refine wl_nil ?_
              refine wk_prune [(1, .slice a1.a a1.n a1.c), (3, .slice a3.a a3.n a3.c), (4, .pointer (some (⟨b1, 0, none⟩ : Addr))), (9, .bool x3), (10, .pointer x9.1), (12, .pointer x12), (13, .int .i64 s19), (14, .slice s26.1.a s26.1.n s26.1.c), (15, .int .i64 s26.2.1), (16, .int .i64 s26.2.2), (17, .int .i64 (Int.tmod x34 (a0_1.n : Int))), (74, .bool (decide ((Int.tmod x34 (a0_1.n : Int)) < 0)))] ⟨rfl, rfl, rfl, rfl, rfl, rfl, rfl, rfl, rfl, rfl, rfl, rfl, trivial⟩ (fun f1 => ?_)
              refine wk_then ?_
              refine wc_cond rfl h (fun h => ?_) (fun h => ?_)
              · refine wc_region ?_
                refine wl_val (at_move rfl) rfl ?_
                refine wl_val (at_fieldAddr Try.underlying25 rfl rfl sz23 (by decide) rfl) rfl ?_
                refine wl_val (at_load (v := .slice a0_1.a a0_1.n a0_1.c) Try.underlying23 rfl rfl ((t_b1.cell 16).trans (by first | rfl | simp [List.getElem?_append, ints_len, bools_len]))) rfl ?_
                refine wl_val (at_lenL Try.underlying23 rfl) rfl ?_
                refine wl_val (at_add rfl rfl) rfl ?_
                refine wl_val (at_assign rfl) rfl ?_
                obtain ⟨x68, e69⟩ : ∃ x : Int, x = (IntKind.wrap .i64 ((Int.tmod x34 (a0_1.n : Int)) + (a0_1.n : Int))) := ⟨_, rfl⟩; replace h := h x68 e69
                refine wl_set (t := 17) (v := .int .i64 x68) (congrArg (Value.int .i64) e69.symm) ?_
                refine wl_nil ?_
                exact wk_prune [(1, .slice a1.a a1.n a1.c), (3, .slice a3.a a3.n a3.c), (4, .pointer (some (⟨b1, 0, none⟩ : Addr))), (9, .bool x3), (10, .pointer x9.1), (12, .pointer x12), (13, .int .i64 s19), (14, .slice s26.1.a s26.1.n s26.1.c), (15, .int .i64 s26.2.1), (16, .int .i64 s26.2.2), (17, .int .i64 x68)] ⟨rfl, rfl, rfl, rfl, rfl, rfl, rfl, rfl, rfl, rfl, rfl, trivial⟩ (fun f1 => hJ38 (x68) _ f1 h ⟨t_b1, trivial⟩ so)
              · refine wc_skip ?_
                exact wk_prune [(1, .slice a1.a a1.n a1.c), (3, .slice a3.a a3.n a3.c), (4, .pointer (some (⟨b1, 0, none⟩ : Addr))), (9, .bool x3), (10, .pointer x9.1), (12, .pointer x12), (13, .int .i64 s19), (14, .slice s26.1.a s26.1.n s26.1.c), (15, .int .i64 s26.2.1), (16, .int .i64 s26.2.2), (17, .int .i64 (Int.tmod x34 (a0_1.n : Int)))] ⟨rfl, rfl, rfl, rfl, rfl, rfl, rfl, rfl, rfl, rfl, rfl, trivial⟩ (fun f1 => hJ38 ((Int.tmod x34 (a0_1.n : Int))) _ f1 h ⟨t_b1, trivial⟩ so)
          · refine wc_exit ?_
            refine wk_thenE ?_
            refine wk_thenE ?_
            refine wk_blkE ?_
            refine wk_prune [(3, .slice a3.a a3.n a3.c), (9, .bool x3), (10, .pointer x9.1), (12, .pointer x12), (13, .int .i64 s19), (14, .slice s26.1.a s26.1.n s26.1.c), (15, .int .i64 s26.2.1)] ⟨rfl, rfl, rfl, rfl, rfl, rfl, rfl, trivial⟩ (fun f1 => ?_)
            refine wk_then ?_
            refine wc_seq ?_
            refine wc_seq ?_
            refine wc_region ?_
            refine wl_val (at_assign rfl) rfl ?_
            refine wl_nil ?_
            refine wk_prune [(3, .slice a3.a a3.n a3.c), (9, .bool x3), (10, .pointer x9.1), (12, .pointer x12), (13, .int .i64 s19), (14, .slice s26.1.a s26.1.n s26.1.c), (15, .int .i64 s26.2.1), (22, .int .i64 0)] ⟨rfl, rfl, rfl, rfl, rfl, rfl, rfl, rfl, trivial⟩ (fun f1 => ?_)
            refine wk_then ?_
            refine wc_block ?_
            obtain ⟨k70, h⟩ := h
            refine wc_loop (fun k a w => ∃ (s72 : Int) (f1 : Nat → Value), a = ac 186 (en f1 [(3, .slice a3.a a3.n a3.c), (9, .bool x3), (10, .pointer x9.1), (12, .pointer x12), (13, .int .i64 s19), (14, .slice s26.1.a s26.1.n s26.1.c), (15, .int .i64 s26.2.1), (22, .int .i64 s72)]) [] ∧ Sm w0 w ∧ Fix _ k s72 w.heap) k70 ⟨(0), _, ac_again ⟨rfl, rfl, rfl, rfl, rfl, rfl, rfl, rfl, trivial⟩, so, h⟩ ?_
            rintro k71 a74 w73 ⟨s72, f1, rfl, so, h⟩
            rcases k71 with _ | k71
            · exact h.elim
            replace h := Fix.un h; refine wc_in ?_
            refine wc_seq ?_
            refine wc_seq ?_
            refine wc_region ?_
            refine wl_val (at_move rfl) rfl ?_
            refine wl_val (at_move rfl) rfl ?_
            refine wl_val (at_lenL Try.underlying68 rfl) rfl ?_
            refine wl_val (at_lss rfl rfl) rfl ?_
            refine wl_nil ?_
            refine wk_prune [(3, .slice a3.a a3.n a3.c), (9, .bool x3), (10, .pointer x9.1), (12, .pointer x12), (13, .int .i64 s19), (14, .slice s26.1.a s26.1.n s26.1.c), (15, .int .i64 s26.2.1), (22, .int .i64 s72), (113, .bool (decide (s72 < (a3.n : Int))))] ⟨rfl, rfl, rfl, rfl, rfl, rfl, rfl, rfl, rfl, trivial⟩ (fun f1 => ?_)
            refine wk_then ?_
            refine wc_cond rfl h (fun h => ?_) (fun h => ?_)
            · refine wc_skip ?_
              refine wk_prune [(3, .slice a3.a a3.n a3.c), (9, .bool x3), (10, .pointer x9.1), (12, .pointer x12), (13, .int .i64 s19), (14, .slice s26.1.a s26.1.n s26.1.c), (15, .int .i64 s26.2.1), (22, .int .i64 s72)] ⟨rfl, rfl, rfl, rfl, rfl, rfl, rfl, rfl, trivial⟩ (fun f1 => ?_)
              refine wk_then ?_
              refine wc_seq ?_
              refine wc_block ?_
              refine wc_region ?_
              refine wl_val (at_move rfl) rfl ?_
              refine wl_val (at_move rfl) rfl ?_
              refine wl_val (at_move rfl) rfl ?_
              obtain ⟨q76, q77, p78, q79, h⟩ := h
              refine wl_val (at_ixAddrL Try.underlying68 sz3 (sl_some q79) rfl q76 q77) rfl ?_
              obtain ⟨x80, q81, h⟩ := h
              refine wl_val (at_load Try.underlying3 rfl rfl q81) rfl ?_
              refine wl_callF (bits_Sink_Put.calls _ _ _ _ _ h) enter44 rfl trivial so ?_; intro x82 w83 h so
              refine wl_nil ?_
              refine wk_blkN ?_
              refine wk_prune [(3, .slice a3.a a3.n a3.c), (9, .bool x3), (10, .pointer x9.1), (12, .pointer x12), (13, .int .i64 s19), (14, .slice s26.1.a s26.1.n s26.1.c), (15, .int .i64 s26.2.1), (22, .int .i64 s72)] ⟨rfl, rfl, rfl, rfl, rfl, rfl, rfl, rfl, trivial⟩ (fun f1 => ?_)
              refine wk_then ?_
              refine wc_region ?_
              refine wl_val (at_move rfl) rfl ?_
              refine wl_val (at_add rfl rfl) rfl ?_
              refine wl_val (at_assign rfl) rfl ?_
              refine wl_nil ?_
              exact wk_again ⟨((IntKind.wrap .i64 (s72 + 1))), _, ac_again ⟨rfl, rfl, rfl, rfl, rfl, rfl, rfl, rfl, trivial⟩, so, h⟩
            · refine wc_exit ?_
              refine wk_thenE ?_
              refine wk_thenE ?_
              refine wk_blkE ?_
              refine wk_prune [(9, .bool x3), (10, .pointer x9.1), (12, .pointer x12), (13, .int .i64 s19), (14, .slice s26.1.a s26.1.n s26.1.c), (15, .int .i64 s26.2.1)] ⟨rfl, rfl, rfl, rfl, rfl, rfl, trivial⟩ (fun f1 => ?_)
              refine wk_then ?_
              refine wc_seq ?_
              refine wc_region ?_
              refine wl_val (at_move rfl) rfl ?_
              refine wl_callF (bits_Sink_Pad.calls _ _ _ h) enter26 rfl trivial so ?_; intro x84 w85 h so
              refine wl_nil ?_
              refine wk_prune [(9, .bool x3), (10, .pointer x9.1), (12, .pointer x12), (13, .int .i64 s19), (14, .slice s26.1.a s26.1.n s26.1.c), (15, .int .i64 s26.2.1)] ⟨rfl, rfl, rfl, rfl, rfl, rfl, trivial⟩ (fun f1 => ?_)
              refine wk_then ?_
              refine wc_seq ?_
              refine wc_region ?_
              refine wl_val (at_move rfl) rfl ?_
              refine wl_callF (bits_Sink_Text.calls _ _ _ h) enter28 rfl trivial so ?_; intro x86 w87 h so
              refine wl_val (at_assign rfl) rfl ?_
              refine wl_nil ?_
              refine wk_prune [(9, .bool x3), (10, .pointer x9.1), (13, .int .i64 s19), (14, .slice s26.1.a s26.1.n s26.1.c), (15, .int .i64 s26.2.1), (23, .string x86)] ⟨rfl, rfl, rfl, rfl, rfl, rfl, trivial⟩ (fun f1 => ?_)
              refine wk_then ?_
              refine wc_seq ?_
              refine wc_region ?_
              refine wl_val (at_move rfl) rfl ?_
              refine wl_val (at_move rfl) rfl ?_
              refine wl_val (at_lenS Try.underlying9 rfl) rfl ?_
              refine wl_callF (bits_Open.calls _ _ _ _ _ h) enter31 rfl trivial so ?_; intro x88 w89 h so
              refine wl_val (at_assign rfl) rfl ?_
              refine wl_nil ?_
              refine wk_prune [(9, .bool x3), (10, .pointer x9.1), (13, .int .i64 s19), (14, .slice s26.1.a s26.1.n s26.1.c), (15, .int .i64 s26.2.1), (24, .pointer x88)] ⟨rfl, rfl, rfl, rfl, rfl, rfl, trivial⟩ (fun f1 => ?_)
              refine wk_then ?_
              refine wc_seq ?_
              refine wc_seq ?_
              refine wc_region ?_
              refine wl_val (at_move rfl) rfl ?_
              refine wl_val (at_eqlP Try.underlying51 rfl rfl) rfl ?_
              refine wl_nil ?_
              refine wk_prune [(9, .bool x3), (10, .pointer x9.1), (13, .int .i64 s19), (14, .slice s26.1.a s26.1.n s26.1.c), (15, .int .i64 s26.2.1), (24, .pointer x88), (131, .bool x88.isNone)] ⟨rfl, rfl, rfl, rfl, rfl, rfl, rfl, trivial⟩ (fun f1 => ?_)
              refine wk_then ?_
              refine wc_cond rfl h (fun h => ?_) (fun h => ?_)
              · refine wc_seq ?_
                refine wc_region ?_
                refine wl_val (at_assign rfl) rfl ?_
                refine wl_nil ?_
                refine wk_prune [(8, .bool false)] ⟨rfl, trivial⟩ (fun f1 => ?_)
                refine wk_then ?_
                refine wc_ret ?_
                refine wk_thenR ?_
                exact wk_ret1 (x := false) rfl (by decide) rfl so h
              · refine wc_skip ?_
                refine wk_prune [(9, .bool x3), (10, .pointer x9.1), (13, .int .i64 s19), (14, .slice s26.1.a s26.1.n s26.1.c), (15, .int .i64 s26.2.1), (24, .pointer x88)] ⟨rfl, rfl, rfl, rfl, rfl, rfl, trivial⟩ (fun f1 => ?_)
                refine wk_then ?_
                refine wc_seq ?_
                refine wc_region ?_
                refine wl_val (at_move rfl) rfl ?_
                refine wl_val (at_move rfl) rfl ?_
                refine wl_callF (bits_Source_Skip.calls _ _ _ _ h) enter33 rfl trivial so ?_; intro x90 w91 h so
                refine wl_val (at_assign rfl) rfl ?_
                refine wl_nil ?_
                refine wk_prune [(9, .bool x3), (10, .pointer x9.1), (14, .slice s26.1.a s26.1.n s26.1.c), (15, .int .i64 s26.2.1), (24, .pointer x88), (25, .bool x90)] ⟨rfl, rfl, rfl, rfl, rfl, rfl, trivial⟩ (fun f1 => ?_)
                refine wk_then ?_
                refine wc_seq ?_
                refine wc_seq ?_
                refine wc_region ?_
                refine wl_val (at_assign rfl) rfl ?_
                refine wl_nil ?_
                refine wk_prune [(9, .bool x3), (10, .pointer x9.1), (14, .slice s26.1.a s26.1.n s26.1.c), (15, .int .i64 s26.2.1), (24, .pointer x88), (25, .bool x90), (26, .int .i64 0)] ⟨rfl, rfl, rfl, rfl, rfl, rfl, rfl, trivial⟩ (fun f1 => ?_)
                refine wk_then ?_
                refine wc_block ?_
                obtain ⟨k92, h⟩ := h
                refine wc_loop (fun k a w => ∃ (s94 : Int) (f1 : Nat → Value), a = ac 186 (en f1 [(9, .bool x3), (10, .pointer x9.1), (14, .slice s26.1.a s26.1.n s26.1.c), (15, .int .i64 s26.2.1), (24, .pointer x88), (25, .bool x90), (26, .int .i64 s94)]) [] ∧ Sm w0 w ∧ Fix _ k s94 w.heap) k92 ⟨(0), _, ac_again ⟨rfl, rfl, rfl, rfl, rfl, rfl, rfl, trivial⟩, so, h⟩ ?_
                rintro k93 a96 w95 ⟨s94, f1, rfl, so, h⟩
                rcases k93 with _ | k93
                · exact h.elim
                replace h := Fix.un h; refine wc_in ?_
                refine wc_seq ?_
                refine wc_seq ?_
                refine wc_region ?_
                refine wl_val (at_move rfl) rfl ?_
                refine wl_val (at_move rfl) rfl ?_
                refine wl_val (at_lenL Try.underlying23 rfl) rfl ?_
                refine wl_val (at_lss rfl rfl) rfl ?_
                refine wl_nil ?_
                refine wk_prune [(9, .bool x3), (10, .pointer x9.1), (14, .slice s26.1.a s26.1.n s26.1.c), (15, .int .i64 s26.2.1), (24, .pointer x88), (25, .bool x90), (26, .int .i64 s94), (138, .bool (decide (s94 < (s26.1.n : Int))))] ⟨rfl, rfl, rfl, rfl, rfl, rfl, rfl, rfl, trivial⟩ (fun f1 => ?_)
                refine wk_then ?_
                refine wc_cond rfl h (fun h => ?_) (fun h => ?_)
                · refine wc_skip ?_
                  refine wk_prune [(9, .bool x3), (10, .pointer x9.1), (14, .slice s26.1.a s26.1.n s26.1.c), (15, .int .i64 s26.2.1), (24, .pointer x88), (25, .bool x90), (26, .int .i64 s94)] ⟨rfl, rfl, rfl, rfl, rfl, rfl, rfl, trivial⟩ (fun f1 => ?_)
                  refine wk_then ?_
                  refine wc_seq ?_
                  refine wc_block ?_
                  refine wc_seq ?_
                  refine wc_region ?_
                  refine wl_val (at_move rfl) rfl ?_
                  refine wl_callF (bits_Source_Used.calls _ _ _ h) enter45 rfl trivial so ?_; intro x98 w99 h so
                  refine wl_val (at_assign rfl) rfl ?_
                  refine wl_nil ?_
                  refine wk_prune [(9, .bool x3), (10, .pointer x9.1), (14, .slice s26.1.a s26.1.n s26.1.c), (15, .int .i64 s26.2.1), (24, .pointer x88), (25, .bool x90), (26, .int .i64 s94), (27, .int .i64 x98)] ⟨rfl, rfl, rfl, rfl, rfl, rfl, rfl, rfl, trivial⟩ (fun f1 => ?_)
                  refine wk_then ?_
                  refine wc_seq ?_
                  refine wc_region ?_
                  refine wl_val (at_move rfl) rfl ?_
                  refine wl_val (at_move rfl) rfl ?_
                  refine wl_callF (huff_Table_Read.calls _ _ _ _ h) enter30 rfl trivial so ?_; intro x100 w101 h so
                  refine wl_val (at_move rfl) rfl ?_
                  refine wl_val (at_extract rfl rfl) rfl ?_
                  refine wl_val (at_extract rfl rfl) rfl ?_
                  refine wl_val (at_assign rfl) rfl ?_
                  refine wl_val (at_assign rfl) rfl ?_
                  refine wl_nil ?_
                  refine wk_prune [(9, .bool x3), (10, .pointer x9.1), (14, .slice s26.1.a s26.1.n s26.1.c), (15, .int .i64 s26.2.1), (24, .pointer x88), (25, .bool x90), (26, .int .i64 s94), (27, .int .i64 x98), (28, .int .u8 x100.1), (29, .int .i64 x100.2)] ⟨rfl, rfl, rfl, rfl, rfl, rfl, rfl, rfl, rfl, rfl, trivial⟩ (fun f1 => ?_)
                  refine wk_then ?_
                  refine wc_seq ?_
                  refine wc_region ?_
                  refine wl_val (at_move rfl) rfl ?_
                  refine wl_val (at_move rfl) rfl ?_
                  refine wl_val (at_move rfl) rfl ?_
                  obtain ⟨q102, q103, p104, q105, h⟩ := h
                  refine wl_val (at_ixAddrL Try.underlying23 sz5 (sl_some q105) rfl q102 q103) rfl ?_
                  obtain ⟨x106, q107, h⟩ := h
                  refine wl_val (at_load Try.underlying5 rfl rfl q107) rfl ?_
                  refine wl_callF (huff_Table_Code.calls _ _ _ _ h) enter42 rfl trivial so ?_; intro x108 w109 h so
                  refine wl_val (at_move rfl) rfl ?_
                  refine wl_val (at_extract rfl rfl) rfl ?_
                  refine wl_val (at_extract rfl rfl) rfl ?_
                  refine wl_val (at_assign rfl) rfl ?_
                  refine wl_val (at_assign rfl) rfl ?_
                  refine wl_nil ?_
                  refine wk_prune [(9, .bool x3), (10, .pointer x9.1), (14, .slice s26.1.a s26.1.n s26.1.c), (15, .int .i64 s26.2.1), (24, .pointer x88), (25, .bool x90), (26, .int .i64 s94), (27, .int .i64 x98), (28, .int .u8 x100.1), (29, .int .i64 x100.2), (31, .int .i64 x108.2)] ⟨rfl, rfl, rfl, rfl, rfl, rfl, rfl, rfl, rfl, rfl, rfl, trivial⟩ (fun f1 => ?_)
                  refine wk_then ?_
                  refine wc_seq ?_
                  refine wc_join (w0 := w0) (fun (s111 : Bool) => [(9, .bool x3), (10, .pointer x9.1), (14, .slice s26.1.a s26.1.n s26.1.c), (15, .int .i64 s26.2.1), (24, .pointer x88), (25, .bool x90), (26, .int .i64 s94), (175, .bool s111)]) h ?_ ?_
                  · rintro s111 w112 f1 h so; refine wk_then ?_
                    refine wc_cond rfl h (fun h => ?_) (fun h => ?_)
                    · refine wc_seq ?_
                      refine wc_region ?_
                      refine wl_val (at_assign rfl) rfl ?_
                      refine wl_nil ?_
                      refine wk_prune [(8, .bool false)] ⟨rfl, trivial⟩ (fun f1 => ?_)
                      refine wk_then ?_
                      refine wc_ret ?_
                      refine wk_blkR ?_
                      refine wk_thenR ?_
                      refine wk_thenR ?_
                      refine wk_blkR ?_
                      refine wk_thenR ?_
                      exact wk_ret1 (x := false) rfl (by decide) rfl so h
                    · refine wc_skip ?_
                      refine wk_blkN ?_
                      refine wk_prune [(9, .bool x3), (10, .pointer x9.1), (14, .slice s26.1.a s26.1.n s26.1.c), (15, .int .i64 s26.2.1), (24, .pointer x88), (25, .bool x90), (26, .int .i64 s94)] ⟨rfl, rfl, rfl, rfl, rfl, rfl, rfl, trivial⟩ (fun f1 => ?_)
                      refine wk_then ?_
                      refine wc_region ?_
                      refine wl_val (at_move rfl) rfl ?_
                      refine wl_val (at_add rfl rfl) rfl ?_
                      refine wl_val (at_assign rfl) rfl ?_
                      refine wl_nil ?_
                      exact wk_again ⟨((IntKind.wrap .i64 (s94 + 1))), _, ac_again ⟨rfl, rfl, rfl, rfl, rfl, rfl, rfl, trivial⟩, so, h⟩
                  · intro J110 h hJ110
                    refine wc_region ?_
                    refine wl_val (at_move rfl) rfl ?_
                    refine wl_val (at_move rfl) rfl ?_
                    refine wl_val (at_move rfl) rfl ?_
                    obtain ⟨q113, q114, h⟩ := h
                    refine wl_val (at_ixAddrL Try.underlying23 sz5 (sl_some q105) rfl q113 q114) rfl ?_
                    obtain ⟨x115, q116, h⟩ := h
                    refine wl_val (at_load Try.underlying5 rfl rfl q116) rfl ?_
                    refine wl_val (at_neq rfl rfl) rfl ?_
                    refine wl_val (at_move rfl) rfl ?_
                    refine bif_ h (fun hb h => ?_) (fun hb h => ?_)
                    · refine wl_set (t := 164) (v := .bool true) (congrArg Value.bool hb) ?_; clear hb
                      refine wl_off (t := 164) rfl (by decide) rfl ?_
                      refine wl_off (t := 164) rfl (by decide) rfl ?_
                      refine wl_val (at_pick_t rfl rfl) rfl ?_
                      refine wl_val (at_move rfl) rfl ?_
                      refine wl_off (t := 168) rfl (by decide) rfl ?_
                      refine wl_off (t := 168) rfl (by decide) rfl ?_
                      refine wl_off (t := 168) rfl (by decide) rfl ?_
                      refine wl_off (t := 168) rfl (by decide) rfl ?_
                      refine wl_off (t := 168) rfl (by decide) rfl ?_
                      refine wl_off (t := 168) rfl (by decide) rfl ?_
                      refine wl_val (at_pick_t rfl rfl) rfl ?_
                      refine wl_nil ?_
                      exact wk_prune [(9, .bool x3), (10, .pointer x9.1), (14, .slice s26.1.a s26.1.n s26.1.c), (15, .int .i64 s26.2.1), (24, .pointer x88), (25, .bool x90), (26, .int .i64 s94), (175, .bool true)] ⟨rfl, rfl, rfl, rfl, rfl, rfl, rfl, rfl, trivial⟩ (fun f1 => hJ110 (true) _ f1 h so)
                    · refine wl_set (t := 164) (v := .bool false) (congrArg Value.bool hb) ?_; clear hb
                      refine wl_on (t := 164) rfl (by decide) rfl ?_
                      refine wl_val (at_move rfl) rfl ?_
                      refine wl_on (t := 164) rfl (by decide) rfl ?_
                      refine wl_val (at_neq rfl rfl) rfl ?_
                      refine wl_val (at_pick_f rfl rfl) rfl ?_
                      refine wl_val (at_move rfl) rfl ?_
                      refine bif_ h (fun hb h => ?_) (fun hb h => ?_)
                      · refine wl_set (t := 168) (v := .bool true) (congrArg Value.bool hb) ?_; clear hb
                        refine wl_off (t := 168) rfl (by decide) rfl ?_
                        refine wl_off (t := 168) rfl (by decide) rfl ?_
                        refine wl_off (t := 168) rfl (by decide) rfl ?_
                        refine wl_off (t := 168) rfl (by decide) rfl ?_
                        refine wl_off (t := 168) rfl (by decide) rfl ?_
                        refine wl_off (t := 168) rfl (by decide) rfl ?_
                        refine wl_val (at_pick_t rfl rfl) rfl ?_
                        refine wl_nil ?_
                        exact wk_prune [(9, .bool x3), (10, .pointer x9.1), (14, .slice s26.1.a s26.1.n s26.1.c), (15, .int .i64 s26.2.1), (24, .pointer x88), (25, .bool x90), (26, .int .i64 s94), (175, .bool true)] ⟨rfl, rfl, rfl, rfl, rfl, rfl, rfl, rfl, trivial⟩ (fun f1 => hJ110 (true) _ f1 h so)
                      · refine wl_set (t := 168) (v := .bool false) (congrArg Value.bool hb) ?_; clear hb
                        refine wl_on (t := 168) rfl (by decide) rfl ?_
                        refine wl_val (at_move rfl) rfl ?_
                        refine wl_on (t := 168) rfl (by decide) rfl ?_
                        refine wl_callF (bits_Source_Used.calls _ _ _ h) enter45 rfl trivial so ?_; intro x117 w118 h so
                        refine wl_on (t := 168) rfl (by decide) rfl ?_
                        refine wl_val (at_move rfl) rfl ?_
                        refine wl_on (t := 168) rfl (by decide) rfl ?_
                        refine wl_val (at_move rfl) rfl ?_
                        refine wl_on (t := 168) rfl (by decide) rfl ?_
                        refine wl_val (at_add rfl rfl) rfl ?_
                        refine wl_on (t := 168) rfl (by decide) rfl ?_
                        refine wl_val (at_neq rfl rfl) rfl ?_
                        refine wl_val (at_pick_f rfl rfl) rfl ?_
                        refine wl_nil ?_
                        exact wk_prune [(9, .bool x3), (10, .pointer x9.1), (14, .slice s26.1.a s26.1.n s26.1.c), (15, .int .i64 s26.2.1), (24, .pointer x88), (25, .bool x90), (26, .int .i64 s94), (175, .bool (x117 != (IntKind.wrap .i64 (x98 + x108.2))))] ⟨rfl, rfl, rfl, rfl, rfl, rfl, rfl, rfl, trivial⟩ (fun f1 => hJ110 ((x117 != (IntKind.wrap .i64 (x98 + x108.2)))) _ f1 h so)
                · refine wc_exit ?_
                  refine wk_thenE ?_
                  refine wk_thenE ?_
                  refine wk_blkE ?_
                  refine wk_prune [(9, .bool x3), (15, .int .i64 s26.2.1), (24, .pointer x88), (25, .bool x90)] ⟨rfl, rfl, rfl, rfl, trivial⟩ (fun f1 => ?_)
                  refine wk_then ?_
                  refine wc_seq ?_
                  refine wc_region ?_
                  refine wl_val (at_move rfl) rfl ?_
                  refine wl_val (at_move rfl) rfl ?_
                  refine bif_ h (fun hb h => ?_) (fun hb h => ?_)
                  · refine wl_set (t := 177) (v := .bool true) (congrArg Value.bool hb) ?_; clear hb
                    refine wl_on (t := 177) rfl (by decide) rfl ?_
                    refine wl_val (at_move rfl) rfl ?_
                    refine wl_val (at_pick_t rfl rfl) rfl ?_
                    refine wl_val (at_move rfl) rfl ?_
                    refine bif_ h (fun hb h => ?_) (fun hb h => ?_)
                    · refine wl_set (t := 180) (v := .bool true) (congrArg Value.bool hb) ?_; clear hb
                      refine wl_on (t := 180) rfl (by decide) rfl ?_
                      refine wl_val (at_move rfl) rfl ?_
                      refine wl_on (t := 180) rfl (by decide) rfl ?_
                      refine wl_callF (bits_Source_Used.calls _ _ _ h) enter45 rfl trivial so ?_; intro x119 w120 h so
                      refine wl_on (t := 180) rfl (by decide) rfl ?_
                      refine wl_val (at_move rfl) rfl ?_
                      refine wl_on (t := 180) rfl (by decide) rfl ?_
                      refine wl_val (at_eql rfl rfl) rfl ?_
                      refine wl_val (at_pick_t rfl rfl) rfl ?_
                      refine wl_val (at_assign rfl) rfl ?_
                      refine wl_nil ?_
                      refine wk_prune [(8, .bool (x119 == s26.2.1))] ⟨rfl, trivial⟩ (fun f1 => ?_)
                      refine wk_then ?_
                      refine wc_ret ?_
                      exact wk_ret1 (x := (x119 == s26.2.1)) rfl (by decide) rfl so h
                    · refine wl_set (t := 180) (v := .bool false) (congrArg Value.bool hb) ?_; clear hb
                      refine wl_off (t := 180) rfl (by decide) rfl ?_
                      refine wl_off (t := 180) rfl (by decide) rfl ?_
                      refine wl_off (t := 180) rfl (by decide) rfl ?_
                      refine wl_off (t := 180) rfl (by decide) rfl ?_
                      refine wl_val (at_pick_f rfl rfl) rfl ?_
                      refine wl_val (at_assign rfl) rfl ?_
                      refine wl_nil ?_
                      refine wk_prune [(8, .bool false)] ⟨rfl, trivial⟩ (fun f1 => ?_)
                      refine wk_then ?_
                      refine wc_ret ?_
                      exact wk_ret1 (x := false) rfl (by decide) rfl so h
                  · refine wl_set (t := 177) (v := .bool false) (congrArg Value.bool hb) ?_; clear hb
                    refine wl_off (t := 177) rfl (by decide) rfl ?_
                    refine wl_val (at_pick_f rfl rfl) rfl ?_
                    refine wl_val (at_move rfl) rfl ?_
                    refine wl_off (t := 180) rfl (by decide) rfl ?_
                    refine wl_off (t := 180) rfl (by decide) rfl ?_
                    refine wl_off (t := 180) rfl (by decide) rfl ?_
                    refine wl_off (t := 180) rfl (by decide) rfl ?_
                    refine wl_val (at_pick_f rfl rfl) rfl ?_
                    refine wl_val (at_assign rfl) rfl ?_
                    refine wl_nil ?_
                    refine wk_prune [(8, .bool false)] ⟨rfl, trivial⟩ (fun f1 => ?_)
                    refine wk_then ?_
                    refine wc_ret ?_
                    exact wk_ret1 (x := false) rfl (by decide) rfl so h
        · intro J18 h hJ18
          refine wc_seq ?_
          refine wc_region ?_
          refine wl_val (at_move rfl) rfl ?_
          refine wl_val (at_lss rfl rfl) rfl ?_
          refine wl_nil ?_
          refine wk_prune [(1, .slice a1.a a1.n a1.c), (3, .slice a3.a a3.n a3.c), (4, .pointer (some (⟨b1, 0, none⟩ : Addr))), (9, .bool x3), (10, .pointer x9.1), (12, .pointer x12), (13, .int .i64 (Int.tmod a2 17)), (52, .bool (decide ((Int.tmod a2 17) < 0)))] ⟨rfl, rfl, rfl, rfl, rfl, rfl, rfl, rfl, trivial⟩ (fun f1 => ?_)
          refine wk_then ?_
          refine wc_cond rfl h (fun h => ?_) (fun h => ?_)
          · refine wc_region ?_
            refine wl_val (at_move rfl) rfl ?_
            refine wl_val (at_add rfl rfl) rfl ?_
            refine wl_val (at_assign rfl) rfl ?_
            refine wl_nil ?_
            exact wk_prune [(1, .slice a1.a a1.n a1.c), (3, .slice a3.a a3.n a3.c), (4, .pointer (some (⟨b1, 0, none⟩ : Addr))), (9, .bool x3), (10, .pointer x9.1), (12, .pointer x12), (13, .int .i64 (IntKind.wrap .i64 ((Int.tmod a2 17) + 17)))] ⟨rfl, rfl, rfl, rfl, rfl, rfl, rfl, trivial⟩ (fun f1 => hJ18 ((IntKind.wrap .i64 ((Int.tmod a2 17) + 17))) _ f1 h ⟨t_b1, trivial⟩ so)
          · refine wc_skip ?_
            exact wk_prune [(1, .slice a1.a a1.n a1.c), (3, .slice a3.a a3.n a3.c), (4, .pointer (some (⟨b1, 0, none⟩ : Addr))), (9, .bool x3), (10, .pointer x9.1), (12, .pointer x12), (13, .int .i64 (Int.tmod a2 17))] ⟨rfl, rfl, rfl, rfl, rfl, rfl, rfl, trivial⟩ (fun f1 => hJ18 ((Int.tmod a2 17)) _ f1 h ⟨t_b1, trivial⟩ so)
    · intro J15 h hJ15
      refine wc_region ?_
      refine wl_val (at_move rfl) rfl ?_
      refine wl_val (at_eqlP Try.underlying40 rfl rfl) rfl ?_
      refine wl_val (at_move rfl) rfl ?_
      refine bif_ h (fun hb h => ?_) (fun hb h => ?_)
      · refine wl_set (t := 45) (v := .bool true) (congrArg Value.bool hb) ?_; clear hb
        refine wl_off (t := 45) rfl (by decide) rfl ?_
        refine wl_off (t := 45) rfl (by decide) rfl ?_
        refine wl_val (at_pick_t rfl rfl) rfl ?_
        refine wl_nil ?_
        exact wk_prune [(1, .slice a1.a a1.n a1.c), (2, .int .i64 a2), (3, .slice a3.a a3.n a3.c), (4, .pointer (some (⟨b1, 0, none⟩ : Addr))), (9, .bool x3), (10, .pointer x9.1), (12, .pointer x12), (48, .bool true)] ⟨rfl, rfl, rfl, rfl, rfl, rfl, rfl, rfl, trivial⟩ (fun f1 => hJ15 (true) _ f1 h ⟨t_b1, trivial⟩ so)
      · refine wl_set (t := 45) (v := .bool false) (congrArg Value.bool hb) ?_; clear hb
        refine wl_on (t := 45) rfl (by decide) rfl ?_
        refine wl_val (at_move rfl) rfl ?_
        refine wl_on (t := 45) rfl (by decide) rfl ?_
        refine wl_val (at_eqlP Try.underlying32 rfl rfl) rfl ?_
        refine wl_val (at_pick_f rfl rfl) rfl ?_
        refine wl_nil ?_
        exact wk_prune [(1, .slice a1.a a1.n a1.c), (2, .int .i64 a2), (3, .slice a3.a a3.n a3.c), (4, .pointer (some (⟨b1, 0, none⟩ : Addr))), (9, .bool x3), (10, .pointer x9.1), (12, .pointer x12), (48, .bool x9.1.isNone)] ⟨rfl, rfl, rfl, rfl, rfl, rfl, rfl, rfl, trivial⟩ (fun f1 => hJ15 (x9.1.isNone) _ f1 h ⟨t_b1, trivial⟩ so)
end Go.Proofs.Ytbefacccdaafeaa.G
