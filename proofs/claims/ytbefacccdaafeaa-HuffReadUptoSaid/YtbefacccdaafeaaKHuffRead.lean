import Derived.Test.YtbefacccdaafeaaGF
import Derived.Test.YtbefacccdaafeaaKbits
import Derived.Test.YtbefacccdaafeaaKhuff
import Derived.Test.YtbefacccdaafeaaKmosaiclaw04
import Derived.Test.YtbefacccdaafeaaKmosaicref01
import Derived.Test.YtbefacccdaafeaaKmosaicref04
namespace Go.Proofs.Ytbefacccdaafeaa.G
open Go.RowKit
set_option linter.unusedVariables false
set_option linter.unusedSimpArgs false
/-- mosaic/mosaiclaw04.HuffRead -/
def mosaiclaw04_HuffRead.enc : Bool → Value := fun r => .bool r
def mosaiclaw04_HuffRead.s (a0_0 : Ints 16) (a0_1 : Sl) (a1_0 : Ints 16) (a1_1 : Sl) (a2 : ByteArray) (a3 : Int) (a4 : Int) (H0 : Hp) (Q : Bool → Hp → Prop) : Prop :=
  Gn [] H0 (fun (b1 : Nat) (H2 : Hp) => Gn [] H2 (fun (b3 : Nat) (H4 : Hp) => mosaiclaw04_twin.s a0_0 a0_1 H4 (fun x5 H6 => Pv [b1, b3] H4 H6 ∧ (huff_New.s x5.1 x5.2 H6 (fun x8 H9 => Pv [b1, b3] H6 H9 ∧ (mosaiclaw04_twin.s a1_0 a1_1 H9 (fun x11 H12 => Pv [b1, b3] H9 H12 ∧ (huff_New.s x11.1 x11.2 H12 (fun x14 H15 => Pv [b1, b3] H12 H15 ∧ (mosaicref04_New.s a0_0 a0_1 H15 (fun x17 H18 => Pv [b3] H15 H18 ∧ (mosaicref04_New.s a1_0 a1_1 H18 (fun x20 H21 => Join (fun (s23 : Bool) (H24 : Hp) => if s23 = true then (Q false H24) else (Join (fun (s26 : Bool) (H27 : Hp) => if s26 = true then (Q true H27) else (Join (fun (s29 : Bool) (H30 : Hp) => if s29 = true then (Q false H30) else (huff_Table_Read.s x8.1 none H30 (fun x31 H32 => bits_Open.s a2 0 (a2.size : Int) H32 (fun x33 H34 => mosaicref01_Open.s a2 0 (a2.size : Int) H34 (fun x35 H36 => Join (fun (s38 : Bool) (H39 : Hp) => if s38 = true then (Q false H39) else (∃ k40, Fix (fun (rec45 : Int → Hp → Prop) (s42 : Int) (H43 : Hp) => if decide (s42 < a4) = true then (Join (fun (s47 : Int × Int × Int × Int) (H48 : Hp) => Join (fun (s50 : Bool) (H51 : Hp) => if s50 = true then (Q false H51) else (Join (fun (s53 : Bool) (H54 : Hp) => if s53 = true then (Q true H54) else (rec45 ((IntKind.wrap .i64 (s42 + 1))) H54)) (fun (J52 : Bool → Hp → Prop) => if (s47.2.2.2 != 0) = true then (J52 ((decide ((2 : Int) < s42))) H51) else (J52 (false) H51)))) (fun (J49 : Bool → Hp → Prop) => if (s47.1 != s47.2.1) = true then (J49 (true) H48) else (if (s47.2.2.1 != s47.2.2.2) = true then (J49 (true) H48) else (bits_Source_Left.s x33 H48 (fun x55 H56 => mosaicref01_Source_Left.s x35 H56 (fun x57 H58 => if (x55 != x57) = true then (J49 (true) H58) else (bits_Source_At.s x33 H58 (fun x59 H60 => mosaicref01_Source_At.s x35 H60 (fun x61 H62 => J49 ((x59 != x61)) H62))))))))) (fun (J46 : (Int × Int × Int × Int) → Hp → Prop) => if ((Int.tmod s42 2) == 0) = true then (huff_Table_Read.s x8.1 x33 H43 (fun x63 H64 => mosaicref04_Table_Read.s x17.1 x35 H64 (fun x65 H66 => J46 (x63.1, x65.1, x63.2, x65.2) H66))) else (huff_Table_Read.s x14.1 x33 H43 (fun x67 H68 => mosaicref04_Table_Read.s x20.1 x35 H68 (fun x69 H70 => J46 (x67.1, x69.1, x67.2, x69.2) H70))))) else (Q true H43)) k40 (0) H39)) (fun (J37 : Bool → Hp → Prop) => if x33.isNone = true then (J37 (true) H36) else (if (x31.2 != 2) = true then (J37 (true) H36) else (bits_Source_Skip.s x33 a3 H36 (fun x71 H72 => mosaicref01_Source_Skip.s x35 a3 H72 (fun x73 H74 => J37 ((!(x71 == x73))) H74)))))))))) (fun (J28 : Bool → Hp → Prop) => if x8.1.isNone = true then (J28 (true) H27) else (J28 (x14.1.isNone) H27)))) (fun (J25 : Bool → Hp → Prop) => if (x17.2 != 0) = true then (J25 (true) H24) else (J25 ((x20.2 != 0)) H24)))) (fun (J22 : Bool → Hp → Prop) => if (x8.2 != x17.2) = true then (J22 (true) H21) else (J22 ((x14.2 != x20.2)) H21)))))))))))))))
set_option maxRecDepth 20000 in
set_option maxHeartbeats 4000000 in
theorem mosaiclaw04_HuffRead.calls (a0_0 : Ints 16) (a0_1 : Sl) (a1_0 : Ints 16) (a1_1 : Sl) (a2 : ByteArray) (a3 : Int) (a4 : Int) (w0 : World) (Q : Bool → Hp → Prop) (h : mosaiclaw04_HuffRead.s a0_0 a0_1 a1_0 a1_1 a2 a3 a4 w0.heap Q) :
    Ca Try.prog 6 #[.agg (c25 a0_0 a0_1).toArray, .agg (c25 a1_0 a1_1).toArray, .string a2, .int .i64 a3, .int .i64 a4] w0 (Rt mosaiclaw04_HuffRead.enc Q w0) := by
  refine ca_start (c := _) Try.func6 rfl Try.ntmps6 rfl ?_
  have so : Sm w0 w0 := Sm.refl w0
  unfold mosaiclaw04_HuffRead.s at h
  refine wc_prune [(0, .agg (c25 a0_0 a0_1).toArray), (1, .agg (c25 a1_0 a1_1).toArray), (2, .string a2), (3, .int .i64 a3), (4, .int .i64 a4)] ⟨rfl, rfl, rfl, rfl, rfl, trivial⟩ (fun f1 => ?_)
  refine wc_seq ?_
  refine wc_region ?_
  refine wl_newT (T := 25) (cs := (c25 a0_0 a0_1)) (ef_box rfl rfl) rfl so ?_; intro b1 w2 hb_b1 t_b1 k_b1 so
  have g_b1 := Nat.le_of_eq hb_b1.symm
  have hc := k_b1.ch (F := [])
  replace h := h b1 _ hc g_b1 t_b1.lt; clear hc
  refine wl_newT (T := 25) (cs := (c25 a1_0 a1_1)) (ef_box rfl rfl) rfl so ?_; intro b3 w4 hb_b3 t_b3 k_b3 so
  have g_b3 := Nat.le_of_eq hb_b3.symm
  have hc := k_b3.ch (F := [])
  have n_b1_b3 : b1 ≠ b3 := fun e => by have := t_b1.lt; omega
  replace t_b1 := t_b1.keep k_b3
  refine wl_val (at_assign rfl) rfl ?_
  refine wl_nil ?_
  refine wk_prune [(2, .string a2), (3, .int .i64 a3), (4, .int .i64 a4), (5, .pointer (some (⟨b1, 0, none⟩ : Addr))), (6, .pointer (some (⟨b3, 0, none⟩ : Addr)))] ⟨rfl, rfl, rfl, rfl, rfl, trivial⟩ (fun f1 => ?_)
  refine wk_then ?_
  refine wc_seq ?_
  refine wc_region ?_
  refine wl_val (at_loadA (cs := (c25 a0_0 a0_1)) Try.underlying25 rfl (by rw [len25]; exact sz25) rfl (ldA_full t_b1)) rfl ?_
  replace h := h b3 _ hc g_b3 t_b3.lt; clear hc
  refine wl_callF (mosaiclaw04_twin.calls _ _ _ _ h) enter11 rfl trivial so ?_; intro x5 w6 h so
  obtain ⟨q7, h⟩ := h
  replace t_b1 := pv_bk q7 t_b1 (by simp)
  replace t_b3 := pv_bk q7 t_b3 (by simp)
  refine wl_callF (huff_New.calls _ _ _ _ h) enter17 rfl trivial so ?_; intro x8 w9 h so
  obtain ⟨q10, h⟩ := h
  replace t_b1 := pv_bk q10 t_b1 (by simp)
  replace t_b3 := pv_bk q10 t_b3 (by simp)
  refine wl_val (at_move rfl) rfl ?_
  refine wl_val (at_extract rfl rfl) rfl ?_
  refine wl_val (at_extract rfl rfl) rfl ?_
  refine wl_val (at_assign rfl) rfl ?_
  refine wl_val (at_assign rfl) rfl ?_
  refine wl_nil ?_
  refine wk_prune [(2, .string a2), (3, .int .i64 a3), (4, .int .i64 a4), (5, .pointer (some (⟨b1, 0, none⟩ : Addr))), (6, .pointer (some (⟨b3, 0, none⟩ : Addr))), (11, .pointer x8.1), (12, .int .i64 x8.2)] ⟨rfl, rfl, rfl, rfl, rfl, rfl, rfl, trivial⟩ (fun f1 => ?_)
  refine wk_then ?_
  refine wc_seq ?_
  refine wc_region ?_
  refine wl_val (at_loadA (cs := (c25 a1_0 a1_1)) Try.underlying25 rfl (by rw [len25]; exact sz25) rfl (ldA_full t_b3)) rfl ?_
  refine wl_callF (mosaiclaw04_twin.calls _ _ _ _ h) enter11 rfl trivial so ?_; intro x11 w12 h so
  obtain ⟨q13, h⟩ := h
  replace t_b1 := pv_bk q13 t_b1 (by simp)
  replace t_b3 := pv_bk q13 t_b3 (by simp)
  refine wl_callF (huff_New.calls _ _ _ _ h) enter17 rfl trivial so ?_; intro x14 w15 h so
  obtain ⟨q16, h⟩ := h
  replace t_b1 := pv_bk q16 t_b1 (by simp)
  replace t_b3 := pv_bk q16 t_b3 (by simp)
  refine wl_val (at_move rfl) rfl ?_
  refine wl_val (at_extract rfl rfl) rfl ?_
  refine wl_val (at_extract rfl rfl) rfl ?_
  refine wl_val (at_assign rfl) rfl ?_
  refine wl_val (at_assign rfl) rfl ?_
  refine wl_nil ?_
  refine wk_prune [(2, .string a2), (3, .int .i64 a3), (4, .int .i64 a4), (5, .pointer (some (⟨b1, 0, none⟩ : Addr))), (6, .pointer (some (⟨b3, 0, none⟩ : Addr))), (11, .pointer x8.1), (12, .int .i64 x8.2), (13, .pointer x14.1), (14, .int .i64 x14.2)] ⟨rfl, rfl, rfl, rfl, rfl, rfl, rfl, rfl, rfl, trivial⟩ (fun f1 => ?_)
  refine wk_then ?_
  refine wc_seq ?_
  refine wc_region ?_
  refine wl_val (at_loadA (cs := (c25 a0_0 a0_1)) Try.underlying25 rfl (by rw [len25]; exact sz25) rfl (ldA_full t_b1)) rfl ?_
  refine wl_callF (mosaicref04_New.calls _ _ _ _ h) enter18 rfl trivial so ?_; intro x17 w18 h so
  obtain ⟨q19, h⟩ := h
  replace t_b3 := pv_bk q19 t_b3 (by simp)
  refine wl_val (at_move rfl) rfl ?_
  refine wl_val (at_extract rfl rfl) rfl ?_
  refine wl_val (at_extract rfl rfl) rfl ?_
  refine wl_val (at_assign rfl) rfl ?_
  refine wl_val (at_assign rfl) rfl ?_
  refine wl_nil ?_
  refine wk_prune [(2, .string a2), (3, .int .i64 a3), (4, .int .i64 a4), (6, .pointer (some (⟨b3, 0, none⟩ : Addr))), (11, .pointer x8.1), (12, .int .i64 x8.2), (13, .pointer x14.1), (14, .int .i64 x14.2), (15, .pointer x17.1), (16, .int .i64 x17.2)] ⟨rfl, rfl, rfl, rfl, rfl, rfl, rfl, rfl, rfl, rfl, trivial⟩ (fun f1 => ?_)
  refine wk_then ?_
  refine wc_seq ?_
  refine wc_region ?_
  refine wl_val (at_loadA (cs := (c25 a1_0 a1_1)) Try.underlying25 rfl (by rw [len25]; exact sz25) rfl (ldA_full t_b3)) rfl ?_
  refine wl_callF (mosaicref04_New.calls _ _ _ _ h) enter18 rfl trivial so ?_; intro x20 w21 h so
  refine wl_val (at_move rfl) rfl ?_
  refine wl_val (at_extract rfl rfl) rfl ?_
  refine wl_val (at_extract rfl rfl) rfl ?_
  refine wl_val (at_assign rfl) rfl ?_
  refine wl_val (at_assign rfl) rfl ?_
  refine wl_nil ?_
  refine wk_prune [(2, .string a2), (3, .int .i64 a3), (4, .int .i64 a4), (11, .pointer x8.1), (12, .int .i64 x8.2), (13, .pointer x14.1), (14, .int .i64 x14.2), (15, .pointer x17.1), (16, .int .i64 x17.2), (17, .pointer x20.1), (18, .int .i64 x20.2)] ⟨rfl, rfl, rfl, rfl, rfl, rfl, rfl, rfl, rfl, rfl, rfl, trivial⟩ (fun f1 => ?_)
  refine wk_then ?_
  refine wc_seq ?_
  refine wc_seq ?_
  refine wc_join (w0 := w0) (fun (s23 : Bool) => [(2, .string a2), (3, .int .i64 a3), (4, .int .i64 a4), (11, .pointer x8.1), (13, .pointer x14.1), (15, .pointer x17.1), (16, .int .i64 x17.2), (17, .pointer x20.1), (18, .int .i64 x20.2), (57, .bool s23)]) h ?_ ?_
  · rintro s23 w24 f1 h so; refine wk_then ?_
    refine wc_cond rfl h (fun h => ?_) (fun h => ?_)
    · refine wc_seq ?_
      refine wc_region ?_
      refine wl_val (at_assign rfl) rfl ?_
      refine wl_nil ?_
      refine wk_prune [(10, .bool false)] ⟨rfl, trivial⟩ (fun f1 => ?_)
      refine wk_then ?_
      refine wc_ret ?_
      refine wk_thenR ?_
      exact wk_ret1 (x := false) rfl (by decide) rfl so h
    · refine wc_skip ?_
      refine wk_prune [(2, .string a2), (3, .int .i64 a3), (4, .int .i64 a4), (11, .pointer x8.1), (13, .pointer x14.1), (15, .pointer x17.1), (16, .int .i64 x17.2), (17, .pointer x20.1), (18, .int .i64 x20.2)] ⟨rfl, rfl, rfl, rfl, rfl, rfl, rfl, rfl, rfl, trivial⟩ (fun f1 => ?_)
      refine wk_then ?_
      refine wc_seq ?_
      refine wc_seq ?_
      refine wc_join (w0 := w0) (fun (s26 : Bool) => [(2, .string a2), (3, .int .i64 a3), (4, .int .i64 a4), (11, .pointer x8.1), (13, .pointer x14.1), (15, .pointer x17.1), (17, .pointer x20.1), (63, .bool s26)]) h ?_ ?_
      · rintro s26 w27 f1 h so; refine wk_then ?_
        refine wc_cond rfl h (fun h => ?_) (fun h => ?_)
        · refine wc_seq ?_
          refine wc_region ?_
          refine wl_val (at_assign rfl) rfl ?_
          refine wl_nil ?_
          refine wk_prune [(10, .bool true)] ⟨rfl, trivial⟩ (fun f1 => ?_)
          refine wk_then ?_
          refine wc_ret ?_
          refine wk_thenR ?_
          exact wk_ret1 (x := true) rfl (by decide) rfl so h
        · refine wc_skip ?_
          refine wk_prune [(2, .string a2), (3, .int .i64 a3), (4, .int .i64 a4), (11, .pointer x8.1), (13, .pointer x14.1), (15, .pointer x17.1), (17, .pointer x20.1)] ⟨rfl, rfl, rfl, rfl, rfl, rfl, rfl, trivial⟩ (fun f1 => ?_)
          refine wk_then ?_
          refine wc_seq ?_
          refine wc_seq ?_
          refine wc_join (w0 := w0) (fun (s29 : Bool) => [(2, .string a2), (3, .int .i64 a3), (4, .int .i64 a4), (11, .pointer x8.1), (13, .pointer x14.1), (15, .pointer x17.1), (17, .pointer x20.1), (69, .bool s29)]) h ?_ ?_
          · rintro s29 w30 f1 h so; refine wk_then ?_
            refine wc_cond rfl h (fun h => ?_) (fun h => ?_)
            · refine wc_seq ?_
              refine wc_region ?_
              refine wl_val (at_assign rfl) rfl ?_
              refine wl_nil ?_
              refine wk_prune [(10, .bool false)] ⟨rfl, trivial⟩ (fun f1 => ?_)
              refine wk_then ?_
              refine wc_ret ?_
              refine wk_thenR ?_
              exact wk_ret1 (x := false) rfl (by decide) rfl so h
            · refine wc_skip ?_
              refine wk_prune [(2, .string a2), (3, .int .i64 a3), (4, .int .i64 a4), (11, .pointer x8.1), (13, .pointer x14.1), (15, .pointer x17.1), (17, .pointer x20.1)] ⟨rfl, rfl, rfl, rfl, rfl, rfl, rfl, trivial⟩ (fun f1 => ?_)
              refine wk_then ?_
              refine wc_seq ?_
              refine wc_region ?_
              refine wl_val (at_move rfl) rfl ?_
              refine wl_callF (huff_Table_Read.calls _ _ _ _ h) enter30 rfl trivial so ?_; intro x31 w32 h so
              refine wl_val (at_move rfl) rfl ?_
              refine wl_val (at_extract rfl rfl) rfl ?_
              refine wl_val (at_extract rfl rfl) rfl ?_
              refine wl_val (at_assign rfl) rfl ?_
              refine wl_val (at_assign rfl) rfl ?_
              refine wl_nil ?_
              refine wk_prune [(2, .string a2), (3, .int .i64 a3), (4, .int .i64 a4), (11, .pointer x8.1), (13, .pointer x14.1), (15, .pointer x17.1), (17, .pointer x20.1), (20, .int .i64 x31.2)] ⟨rfl, rfl, rfl, rfl, rfl, rfl, rfl, rfl, trivial⟩ (fun f1 => ?_)
              refine wk_then ?_
              refine wc_seq ?_
              refine wc_region ?_
              refine wl_val (at_move rfl) rfl ?_
              refine wl_val (at_move rfl) rfl ?_
              refine wl_val (at_lenS Try.underlying9 rfl) rfl ?_
              refine wl_callF (bits_Open.calls _ _ _ _ _ h) enter31 rfl trivial so ?_; intro x33 w34 h so
              refine wl_val (at_assign rfl) rfl ?_
              refine wl_nil ?_
              refine wk_prune [(2, .string a2), (3, .int .i64 a3), (4, .int .i64 a4), (11, .pointer x8.1), (13, .pointer x14.1), (15, .pointer x17.1), (17, .pointer x20.1), (20, .int .i64 x31.2), (21, .pointer x33)] ⟨rfl, rfl, rfl, rfl, rfl, rfl, rfl, rfl, rfl, trivial⟩ (fun f1 => ?_)
              refine wk_then ?_
              refine wc_seq ?_
              refine wc_region ?_
              refine wl_val (at_move rfl) rfl ?_
              refine wl_val (at_move rfl) rfl ?_
              refine wl_val (at_lenS Try.underlying9 rfl) rfl ?_
              refine wl_callF (mosaicref01_Open.calls _ _ _ _ _ h) enter32 rfl trivial so ?_; intro x35 w36 h so
              refine wl_val (at_assign rfl) rfl ?_
              refine wl_nil ?_
              refine wk_prune [(3, .int .i64 a3), (4, .int .i64 a4), (11, .pointer x8.1), (13, .pointer x14.1), (15, .pointer x17.1), (17, .pointer x20.1), (20, .int .i64 x31.2), (21, .pointer x33), (22, .pointer x35)] ⟨rfl, rfl, rfl, rfl, rfl, rfl, rfl, rfl, rfl, trivial⟩ (fun f1 => ?_)
              refine wk_then ?_
              refine wc_seq ?_
              refine wc_seq ?_
              refine wc_join (w0 := w0) (fun (s38 : Bool) => [(4, .int .i64 a4), (11, .pointer x8.1), (13, .pointer x14.1), (15, .pointer x17.1), (17, .pointer x20.1), (21, .pointer x33), (22, .pointer x35), (97, .bool s38)]) h ?_ ?_
              · rintro s38 w39 f1 h so; refine wk_then ?_
                refine wc_cond rfl h (fun h => ?_) (fun h => ?_)
                · refine wc_seq ?_
                  refine wc_region ?_
                  refine wl_val (at_assign rfl) rfl ?_
                  refine wl_nil ?_
                  refine wk_prune [(10, .bool false)] ⟨rfl, trivial⟩ (fun f1 => ?_)
                  refine wk_then ?_
                  refine wc_ret ?_
                  refine wk_thenR ?_
                  exact wk_ret1 (x := false) rfl (by decide) rfl so h
                · refine wc_skip ?_
                  refine wk_prune [(4, .int .i64 a4), (11, .pointer x8.1), (13, .pointer x14.1), (15, .pointer x17.1), (17, .pointer x20.1), (21, .pointer x33), (22, .pointer x35)] ⟨rfl, rfl, rfl, rfl, rfl, rfl, rfl, trivial⟩ (fun f1 => ?_)
                  refine wk_then ?_
                  refine wc_seq ?_
                  refine wc_seq ?_
                  refine wc_region ?_
                  refine wl_val (at_assign rfl) rfl ?_
                  refine wl_nil ?_
                  refine wk_prune [(4, .int .i64 a4), (11, .pointer x8.1), (13, .pointer x14.1), (15, .pointer x17.1), (17, .pointer x20.1), (21, .pointer x33), (22, .pointer x35), (23, .int .i64 0)] ⟨rfl, rfl, rfl, rfl, rfl, rfl, rfl, rfl, trivial⟩ (fun f1 => ?_)
                  refine wk_then ?_
                  refine wc_block ?_
                  obtain ⟨k40, h⟩ := h
                  refine wc_loop (fun k a w => ∃ (s42 : Int) (f1 : Nat → Value), a = ac 158 (en f1 [(4, .int .i64 a4), (11, .pointer x8.1), (13, .pointer x14.1), (15, .pointer x17.1), (17, .pointer x20.1), (21, .pointer x33), (22, .pointer x35), (23, .int .i64 s42)]) [] ∧ Sm w0 w ∧ Fix _ k s42 w.heap) k40 ⟨(0), _, ac_again ⟨rfl, rfl, rfl, rfl, rfl, rfl, rfl, rfl, trivial⟩, so, h⟩ ?_
                  rintro k41 a44 w43 ⟨s42, f1, rfl, so, h⟩
                  rcases k41 with _ | k41
                  · exact h.elim
                  replace h := Fix.un h; refine wc_in ?_
                  refine wc_seq ?_
                  refine wc_seq ?_
                  refine wc_region ?_
                  refine wl_val (at_move rfl) rfl ?_
                  refine wl_val (at_move rfl) rfl ?_
                  refine wl_val (at_lss rfl rfl) rfl ?_
                  refine wl_nil ?_
                  refine wk_prune [(4, .int .i64 a4), (11, .pointer x8.1), (13, .pointer x14.1), (15, .pointer x17.1), (17, .pointer x20.1), (21, .pointer x33), (22, .pointer x35), (23, .int .i64 s42), (100, .bool (decide (s42 < a4)))] ⟨rfl, rfl, rfl, rfl, rfl, rfl, rfl, rfl, rfl, trivial⟩ (fun f1 => ?_)
                  refine wk_then ?_
                  refine wc_cond rfl h (fun h => ?_) (fun h => ?_)
                  · refine wc_skip ?_
                    refine wk_prune [(4, .int .i64 a4), (11, .pointer x8.1), (13, .pointer x14.1), (15, .pointer x17.1), (17, .pointer x20.1), (21, .pointer x33), (22, .pointer x35), (23, .int .i64 s42)] ⟨rfl, rfl, rfl, rfl, rfl, rfl, rfl, rfl, trivial⟩ (fun f1 => ?_)
                    refine wk_then ?_
                    refine wc_seq ?_
                    refine wc_block ?_
                    refine wc_seq ?_
                    refine wc_region ?_
                    refine wl_val (at_assign rfl) rfl ?_
                    refine wl_val (at_assign rfl) rfl ?_
                    refine wl_nil ?_
                    refine wk_prune [(4, .int .i64 a4), (11, .pointer x8.1), (13, .pointer x14.1), (15, .pointer x17.1), (17, .pointer x20.1), (21, .pointer x33), (22, .pointer x35), (23, .int .i64 s42)] ⟨rfl, rfl, rfl, rfl, rfl, rfl, rfl, rfl, trivial⟩ (fun f1 => ?_)
                    refine wk_then ?_
                    refine wc_seq ?_
                    refine wc_region ?_
                    refine wl_val (at_assign rfl) rfl ?_
                    refine wl_val (at_assign rfl) rfl ?_
                    refine wl_nil ?_
                    refine wk_prune [(4, .int .i64 a4), (11, .pointer x8.1), (13, .pointer x14.1), (15, .pointer x17.1), (17, .pointer x20.1), (21, .pointer x33), (22, .pointer x35), (23, .int .i64 s42)] ⟨rfl, rfl, rfl, rfl, rfl, rfl, rfl, rfl, trivial⟩ (fun f1 => ?_)
                    refine wk_then ?_
                    refine wc_seq ?_
                    refine wc_join (w0 := w0) (fun (s47 : Int × Int × Int × Int) => [(4, .int .i64 a4), (11, .pointer x8.1), (13, .pointer x14.1), (15, .pointer x17.1), (17, .pointer x20.1), (21, .pointer x33), (22, .pointer x35), (23, .int .i64 s42), (24, .int .u8 s47.1), (25, .int .u8 s47.2.1), (26, .int .i64 s47.2.2.1), (27, .int .i64 s47.2.2.2)]) h ?_ ?_
                    · rintro s47 w48 f1 h so; refine wk_then ?_
                      refine wc_seq ?_
                      refine wc_seq ?_
                      refine wc_join (w0 := w0) (fun (s50 : Bool) => [(4, .int .i64 a4), (11, .pointer x8.1), (13, .pointer x14.1), (15, .pointer x17.1), (17, .pointer x20.1), (21, .pointer x33), (22, .pointer x35), (23, .int .i64 s42), (27, .int .i64 s47.2.2.2), (151, .bool s50)]) h ?_ ?_
                      · rintro s50 w51 f1 h so; refine wk_then ?_
                        refine wc_cond rfl h (fun h => ?_) (fun h => ?_)
                        · refine wc_seq ?_
                          refine wc_region ?_
                          refine wl_val (at_assign rfl) rfl ?_
                          refine wl_nil ?_
                          refine wk_prune [(10, .bool false)] ⟨rfl, trivial⟩ (fun f1 => ?_)
                          refine wk_then ?_
                          refine wc_ret ?_
                          refine wk_thenR ?_
                          refine wk_blkR ?_
                          refine wk_thenR ?_
                          refine wk_thenR ?_
                          refine wk_blkR ?_
                          refine wk_thenR ?_
                          exact wk_ret1 (x := false) rfl (by decide) rfl so h
                        · refine wc_skip ?_
                          refine wk_prune [(4, .int .i64 a4), (11, .pointer x8.1), (13, .pointer x14.1), (15, .pointer x17.1), (17, .pointer x20.1), (21, .pointer x33), (22, .pointer x35), (23, .int .i64 s42), (27, .int .i64 s47.2.2.2)] ⟨rfl, rfl, rfl, rfl, rfl, rfl, rfl, rfl, rfl, trivial⟩ (fun f1 => ?_)
                          refine wk_then ?_
                          refine wc_seq ?_
                          refine wc_join (w0 := w0) (fun (s53 : Bool) => [(4, .int .i64 a4), (11, .pointer x8.1), (13, .pointer x14.1), (15, .pointer x17.1), (17, .pointer x20.1), (21, .pointer x33), (22, .pointer x35), (23, .int .i64 s42), (157, .bool s53)]) h ?_ ?_
                          · rintro s53 w54 f1 h so; refine wk_then ?_
                            refine wc_cond rfl h (fun h => ?_) (fun h => ?_)
                            · refine wc_seq ?_
                              refine wc_region ?_
                              refine wl_val (at_assign rfl) rfl ?_
                              refine wl_nil ?_
                              refine wk_prune [(10, .bool true)] ⟨rfl, trivial⟩ (fun f1 => ?_)
                              refine wk_then ?_
                              refine wc_ret ?_
                              refine wk_blkR ?_
                              refine wk_thenR ?_
                              refine wk_thenR ?_
                              refine wk_blkR ?_
                              refine wk_thenR ?_
                              exact wk_ret1 (x := true) rfl (by decide) rfl so h
                            · refine wc_skip ?_
                              refine wk_blkN ?_
                              refine wk_prune [(4, .int .i64 a4), (11, .pointer x8.1), (13, .pointer x14.1), (15, .pointer x17.1), (17, .pointer x20.1), (21, .pointer x33), (22, .pointer x35), (23, .int .i64 s42)] ⟨rfl, rfl, rfl, rfl, rfl, rfl, rfl, rfl, trivial⟩ (fun f1 => ?_)
                              refine wk_then ?_
                              refine wc_region ?_
                              refine wl_val (at_move rfl) rfl ?_
                              refine wl_val (at_add rfl rfl) rfl ?_
                              refine wl_val (at_assign rfl) rfl ?_
                              refine wl_nil ?_
                              exact wk_again ⟨((IntKind.wrap .i64 (s42 + 1))), _, ac_again ⟨rfl, rfl, rfl, rfl, rfl, rfl, rfl, rfl, trivial⟩, so, h⟩
                          · intro J52 h hJ52
                            refine wc_region ?_
                            refine wl_val (at_move rfl) rfl ?_
                            refine wl_val (at_neq rfl rfl) rfl ?_
                            refine wl_val (at_move rfl) rfl ?_
                            refine bif_ h (fun hb h => ?_) (fun hb h => ?_)
                            · refine wl_set (t := 154) (v := .bool true) (congrArg Value.bool hb) ?_; clear hb
                              refine wl_on (t := 154) rfl (by decide) rfl ?_
                              refine wl_val (at_move rfl) rfl ?_
                              refine wl_on (t := 154) rfl (by decide) rfl ?_
                              refine wl_val (at_gtr rfl rfl) rfl ?_
                              refine wl_val (at_pick_t rfl rfl) rfl ?_
                              refine wl_nil ?_
                              exact wk_prune [(4, .int .i64 a4), (11, .pointer x8.1), (13, .pointer x14.1), (15, .pointer x17.1), (17, .pointer x20.1), (21, .pointer x33), (22, .pointer x35), (23, .int .i64 s42), (157, .bool (decide ((2 : Int) < s42)))] ⟨rfl, rfl, rfl, rfl, rfl, rfl, rfl, rfl, rfl, trivial⟩ (fun f1 => hJ52 ((decide ((2 : Int) < s42))) _ f1 h so)
                            · refine wl_set (t := 154) (v := .bool false) (congrArg Value.bool hb) ?_; clear hb
                              refine wl_off (t := 154) rfl (by decide) rfl ?_
                              refine wl_off (t := 154) rfl (by decide) rfl ?_
                              refine wl_val (at_pick_f rfl rfl) rfl ?_
                              refine wl_nil ?_
                              exact wk_prune [(4, .int .i64 a4), (11, .pointer x8.1), (13, .pointer x14.1), (15, .pointer x17.1), (17, .pointer x20.1), (21, .pointer x33), (22, .pointer x35), (23, .int .i64 s42), (157, .bool false)] ⟨rfl, rfl, rfl, rfl, rfl, rfl, rfl, rfl, rfl, trivial⟩ (fun f1 => hJ52 (false) _ f1 h so)
                      · intro J49 h hJ49
                        refine wc_region ?_
                        refine wl_val (at_move rfl) rfl ?_
                        refine wl_val (at_move rfl) rfl ?_
                        refine wl_val (at_neq rfl rfl) rfl ?_
                        refine wl_val (at_move rfl) rfl ?_
                        refine bif_ h (fun hb h => ?_) (fun hb h => ?_)
                        · refine wl_set (t := 133) (v := .bool true) (congrArg Value.bool hb) ?_; clear hb
                          refine wl_off (t := 133) rfl (by decide) rfl ?_
                          refine wl_off (t := 133) rfl (by decide) rfl ?_
                          refine wl_off (t := 133) rfl (by decide) rfl ?_
                          refine wl_val (at_pick_t rfl rfl) rfl ?_
                          refine wl_val (at_move rfl) rfl ?_
                          refine wl_off (t := 138) rfl (by decide) rfl ?_
                          refine wl_off (t := 138) rfl (by decide) rfl ?_
                          refine wl_off (t := 138) rfl (by decide) rfl ?_
                          refine wl_off (t := 138) rfl (by decide) rfl ?_
                          refine wl_off (t := 138) rfl (by decide) rfl ?_
                          refine wl_val (at_pick_t rfl rfl) rfl ?_
                          refine wl_val (at_move rfl) rfl ?_
                          refine wl_off (t := 145) rfl (by decide) rfl ?_
                          refine wl_off (t := 145) rfl (by decide) rfl ?_
                          refine wl_off (t := 145) rfl (by decide) rfl ?_
                          refine wl_off (t := 145) rfl (by decide) rfl ?_
                          refine wl_off (t := 145) rfl (by decide) rfl ?_
                          refine wl_val (at_pick_t rfl rfl) rfl ?_
                          refine wl_nil ?_
                          exact wk_prune [(4, .int .i64 a4), (11, .pointer x8.1), (13, .pointer x14.1), (15, .pointer x17.1), (17, .pointer x20.1), (21, .pointer x33), (22, .pointer x35), (23, .int .i64 s42), (27, .int .i64 s47.2.2.2), (151, .bool true)] ⟨rfl, rfl, rfl, rfl, rfl, rfl, rfl, rfl, rfl, rfl, trivial⟩ (fun f1 => hJ49 (true) _ f1 h so)
                        · refine wl_set (t := 133) (v := .bool false) (congrArg Value.bool hb) ?_; clear hb
                          refine wl_on (t := 133) rfl (by decide) rfl ?_
                          refine wl_val (at_move rfl) rfl ?_
                          refine wl_on (t := 133) rfl (by decide) rfl ?_
                          refine wl_val (at_move rfl) rfl ?_
                          refine wl_on (t := 133) rfl (by decide) rfl ?_
                          refine wl_val (at_neq rfl rfl) rfl ?_
                          refine wl_val (at_pick_f rfl rfl) rfl ?_
                          refine wl_val (at_move rfl) rfl ?_
                          refine bif_ h (fun hb h => ?_) (fun hb h => ?_)
                          · refine wl_set (t := 138) (v := .bool true) (congrArg Value.bool hb) ?_; clear hb
                            refine wl_off (t := 138) rfl (by decide) rfl ?_
                            refine wl_off (t := 138) rfl (by decide) rfl ?_
                            refine wl_off (t := 138) rfl (by decide) rfl ?_
                            refine wl_off (t := 138) rfl (by decide) rfl ?_
                            refine wl_off (t := 138) rfl (by decide) rfl ?_
                            refine wl_val (at_pick_t rfl rfl) rfl ?_
                            refine wl_val (at_move rfl) rfl ?_
                            refine wl_off (t := 145) rfl (by decide) rfl ?_
                            refine wl_off (t := 145) rfl (by decide) rfl ?_
                            refine wl_off (t := 145) rfl (by decide) rfl ?_
                            refine wl_off (t := 145) rfl (by decide) rfl ?_
                            refine wl_off (t := 145) rfl (by decide) rfl ?_
                            refine wl_val (at_pick_t rfl rfl) rfl ?_
                            refine wl_nil ?_
                            exact wk_prune [(4, .int .i64 a4), (11, .pointer x8.1), (13, .pointer x14.1), (15, .pointer x17.1), (17, .pointer x20.1), (21, .pointer x33), (22, .pointer x35), (23, .int .i64 s42), (27, .int .i64 s47.2.2.2), (151, .bool true)] ⟨rfl, rfl, rfl, rfl, rfl, rfl, rfl, rfl, rfl, rfl, trivial⟩ (fun f1 => hJ49 (true) _ f1 h so)
                          · refine wl_set (t := 138) (v := .bool false) (congrArg Value.bool hb) ?_; clear hb
                            refine wl_on (t := 138) rfl (by decide) rfl ?_
                            refine wl_val (at_move rfl) rfl ?_
                            refine wl_on (t := 138) rfl (by decide) rfl ?_
                            refine wl_callF (bits_Source_Left.calls _ _ _ h) enter36 rfl trivial so ?_; intro x55 w56 h so
                            refine wl_on (t := 138) rfl (by decide) rfl ?_
                            refine wl_val (at_move rfl) rfl ?_
                            refine wl_on (t := 138) rfl (by decide) rfl ?_
                            refine wl_callF (mosaicref01_Source_Left.calls _ _ _ h) enter37 rfl trivial so ?_; intro x57 w58 h so
                            refine wl_on (t := 138) rfl (by decide) rfl ?_
                            refine wl_val (at_neq rfl rfl) rfl ?_
                            refine wl_val (at_pick_f rfl rfl) rfl ?_
                            refine wl_val (at_move rfl) rfl ?_
                            refine bif_ h (fun hb h => ?_) (fun hb h => ?_)
                            · refine wl_set (t := 145) (v := .bool true) (congrArg Value.bool hb) ?_; clear hb
                              refine wl_off (t := 145) rfl (by decide) rfl ?_
                              refine wl_off (t := 145) rfl (by decide) rfl ?_
                              refine wl_off (t := 145) rfl (by decide) rfl ?_
                              refine wl_off (t := 145) rfl (by decide) rfl ?_
                              refine wl_off (t := 145) rfl (by decide) rfl ?_
                              refine wl_val (at_pick_t rfl rfl) rfl ?_
                              refine wl_nil ?_
                              exact wk_prune [(4, .int .i64 a4), (11, .pointer x8.1), (13, .pointer x14.1), (15, .pointer x17.1), (17, .pointer x20.1), (21, .pointer x33), (22, .pointer x35), (23, .int .i64 s42), (27, .int .i64 s47.2.2.2), (151, .bool true)] ⟨rfl, rfl, rfl, rfl, rfl, rfl, rfl, rfl, rfl, rfl, trivial⟩ (fun f1 => hJ49 (true) _ f1 h so)
                            · refine wl_set (t := 145) (v := .bool false) (congrArg Value.bool hb) ?_; clear hb
                              refine wl_on (t := 145) rfl (by decide) rfl ?_
                              refine wl_val (at_move rfl) rfl ?_
                              refine wl_on (t := 145) rfl (by decide) rfl ?_
                              refine wl_callF (bits_Source_At.calls _ _ _ h) enter38 rfl trivial so ?_; intro x59 w60 h so
                              refine wl_on (t := 145) rfl (by decide) rfl ?_
                              refine wl_val (at_move rfl) rfl ?_
                              refine wl_on (t := 145) rfl (by decide) rfl ?_
                              refine wl_callF (mosaicref01_Source_At.calls _ _ _ h) enter39 rfl trivial so ?_; intro x61 w62 h so
                              refine wl_on (t := 145) rfl (by decide) rfl ?_
                              refine wl_val (at_neq rfl rfl) rfl ?_
                              refine wl_val (at_pick_f rfl rfl) rfl ?_
                              refine wl_nil ?_
                              exact wk_prune [(4, .int .i64 a4), (11, .pointer x8.1), (13, .pointer x14.1), (15, .pointer x17.1), (17, .pointer x20.1), (21, .pointer x33), (22, .pointer x35), (23, .int .i64 s42), (27, .int .i64 s47.2.2.2), (151, .bool (x59 != x61))] ⟨rfl, rfl, rfl, rfl, rfl, rfl, rfl, rfl, rfl, rfl, trivial⟩ (fun f1 => hJ49 ((x59 != x61)) _ f1 h so)
                    · intro J46 h hJ46
                      refine wc_seq ?_
                      refine wc_region ?_
                      refine wl_val (at_move rfl) rfl ?_
                      refine wl_val (at_rem rfl rfl (by decide)) rfl ?_
                      refine wl_val (at_eql rfl rfl) rfl ?_
                      refine wl_nil ?_
                      refine wk_prune [(4, .int .i64 a4), (11, .pointer x8.1), (13, .pointer x14.1), (15, .pointer x17.1), (17, .pointer x20.1), (21, .pointer x33), (22, .pointer x35), (23, .int .i64 s42), (105, .bool ((Int.tmod s42 2) == 0))] ⟨rfl, rfl, rfl, rfl, rfl, rfl, rfl, rfl, rfl, trivial⟩ (fun f1 => ?_)
                      refine wk_then ?_
                      refine wc_cond rfl h (fun h => ?_) (fun h => ?_)
                      · refine wc_seq ?_
                        refine wc_region ?_
                        refine wl_val (at_move rfl) rfl ?_
                        refine wl_val (at_move rfl) rfl ?_
                        refine wl_callF (huff_Table_Read.calls _ _ _ _ h) enter30 rfl trivial so ?_; intro x63 w64 h so
                        refine wl_val (at_move rfl) rfl ?_
                        refine wl_val (at_extract rfl rfl) rfl ?_
                        refine wl_val (at_extract rfl rfl) rfl ?_
                        refine wl_val (at_assign rfl) rfl ?_
                        refine wl_val (at_assign rfl) rfl ?_
                        refine wl_nil ?_
                        refine wk_prune [(4, .int .i64 a4), (11, .pointer x8.1), (13, .pointer x14.1), (15, .pointer x17.1), (17, .pointer x20.1), (21, .pointer x33), (22, .pointer x35), (23, .int .i64 s42), (24, .int .u8 x63.1), (26, .int .i64 x63.2)] ⟨rfl, rfl, rfl, rfl, rfl, rfl, rfl, rfl, rfl, rfl, trivial⟩ (fun f1 => ?_)
                        refine wk_then ?_
                        refine wc_region ?_
                        refine wl_val (at_move rfl) rfl ?_
                        refine wl_val (at_move rfl) rfl ?_
                        refine wl_callF (mosaicref04_Table_Read.calls _ _ _ _ h) enter35 rfl trivial so ?_; intro x65 w66 h so
                        refine wl_val (at_move rfl) rfl ?_
                        refine wl_val (at_extract rfl rfl) rfl ?_
                        refine wl_val (at_extract rfl rfl) rfl ?_
                        refine wl_val (at_assign rfl) rfl ?_
                        refine wl_val (at_assign rfl) rfl ?_
                        refine wl_nil ?_
                        exact wk_prune [(4, .int .i64 a4), (11, .pointer x8.1), (13, .pointer x14.1), (15, .pointer x17.1), (17, .pointer x20.1), (21, .pointer x33), (22, .pointer x35), (23, .int .i64 s42), (24, .int .u8 x63.1), (25, .int .u8 x65.1), (26, .int .i64 x63.2), (27, .int .i64 x65.2)] ⟨rfl, rfl, rfl, rfl, rfl, rfl, rfl, rfl, rfl, rfl, rfl, rfl, trivial⟩ (fun f1 => hJ46 (x63.1, x65.1, x63.2, x65.2) _ f1 h so)
                      · refine wc_seq ?_
                        refine wc_region ?_
                        refine wl_val (at_move rfl) rfl ?_
                        refine wl_val (at_move rfl) rfl ?_
                        refine wl_callF (huff_Table_Read.calls _ _ _ _ h) enter30 rfl trivial so ?_; intro x67 w68 h so
                        refine wl_val (at_move rfl) rfl ?_
                        refine wl_val (at_extract rfl rfl) rfl ?_
                        refine wl_val (at_extract rfl rfl) rfl ?_
                        refine wl_val (at_assign rfl) rfl ?_
                        refine wl_val (at_assign rfl) rfl ?_
                        refine wl_nil ?_
                        refine wk_prune [(4, .int .i64 a4), (11, .pointer x8.1), (13, .pointer x14.1), (15, .pointer x17.1), (17, .pointer x20.1), (21, .pointer x33), (22, .pointer x35), (23, .int .i64 s42), (24, .int .u8 x67.1), (26, .int .i64 x67.2)] ⟨rfl, rfl, rfl, rfl, rfl, rfl, rfl, rfl, rfl, rfl, trivial⟩ (fun f1 => ?_)
                        refine wk_then ?_
                        refine wc_region ?_
                        refine wl_val (at_move rfl) rfl ?_
                        refine wl_val (at_move rfl) rfl ?_
                        refine wl_callF (mosaicref04_Table_Read.calls _ _ _ _ h) enter35 rfl trivial so ?_; intro x69 w70 h so
                        refine wl_val (at_move rfl) rfl ?_
                        refine wl_val (at_extract rfl rfl) rfl ?_
                        refine wl_val (at_extract rfl rfl) rfl ?_
                        refine wl_val (at_assign rfl) rfl ?_
                        refine wl_val (at_assign rfl) rfl ?_
                        refine wl_nil ?_
                        exact wk_prune [(4, .int .i64 a4), (11, .pointer x8.1), (13, .pointer x14.1), (15, .pointer x17.1), (17, .pointer x20.1), (21, .pointer x33), (22, .pointer x35), (23, .int .i64 s42), (24, .int .u8 x67.1), (25, .int .u8 x69.1), (26, .int .i64 x67.2), (27, .int .i64 x69.2)] ⟨rfl, rfl, rfl, rfl, rfl, rfl, rfl, rfl, rfl, rfl, rfl, rfl, trivial⟩ (fun f1 => hJ46 (x67.1, x69.1, x67.2, x69.2) _ f1 h so)
                  · refine wc_exit ?_
                    refine wk_thenE ?_
                    refine wk_thenE ?_
                    refine wk_blkE ?_
                    refine wk_prune [] trivial (fun f1 => ?_)
                    refine wk_then ?_
                    refine wc_seq ?_
                    refine wc_region ?_
                    refine wl_val (at_assign rfl) rfl ?_
                    refine wl_nil ?_
                    refine wk_prune [(10, .bool true)] ⟨rfl, trivial⟩ (fun f1 => ?_)
                    refine wk_then ?_
                    refine wc_ret ?_
                    exact wk_ret1 (x := true) rfl (by decide) rfl so h
              · intro J37 h hJ37
                refine wc_region ?_
                refine wl_val (at_move rfl) rfl ?_
                refine wl_val (at_eqlP Try.underlying51 rfl rfl) rfl ?_
                refine wl_val (at_move rfl) rfl ?_
                refine bif_ h (fun hb h => ?_) (fun hb h => ?_)
                · refine wl_set (t := 85) (v := .bool true) (congrArg Value.bool hb) ?_; clear hb
                  refine wl_off (t := 85) rfl (by decide) rfl ?_
                  refine wl_off (t := 85) rfl (by decide) rfl ?_
                  refine wl_val (at_pick_t rfl rfl) rfl ?_
                  refine wl_val (at_move rfl) rfl ?_
                  refine wl_off (t := 89) rfl (by decide) rfl ?_
                  refine wl_off (t := 89) rfl (by decide) rfl ?_
                  refine wl_off (t := 89) rfl (by decide) rfl ?_
                  refine wl_off (t := 89) rfl (by decide) rfl ?_
                  refine wl_off (t := 89) rfl (by decide) rfl ?_
                  refine wl_off (t := 89) rfl (by decide) rfl ?_
                  refine wl_off (t := 89) rfl (by decide) rfl ?_
                  refine wl_val (at_pick_t rfl rfl) rfl ?_
                  refine wl_nil ?_
                  exact wk_prune [(4, .int .i64 a4), (11, .pointer x8.1), (13, .pointer x14.1), (15, .pointer x17.1), (17, .pointer x20.1), (21, .pointer x33), (22, .pointer x35), (97, .bool true)] ⟨rfl, rfl, rfl, rfl, rfl, rfl, rfl, rfl, trivial⟩ (fun f1 => hJ37 (true) _ f1 h so)
                · refine wl_set (t := 85) (v := .bool false) (congrArg Value.bool hb) ?_; clear hb
                  refine wl_on (t := 85) rfl (by decide) rfl ?_
                  refine wl_val (at_move rfl) rfl ?_
                  refine wl_on (t := 85) rfl (by decide) rfl ?_
                  refine wl_val (at_neq rfl rfl) rfl ?_
                  refine wl_val (at_pick_f rfl rfl) rfl ?_
                  refine wl_val (at_move rfl) rfl ?_
                  refine bif_ h (fun hb h => ?_) (fun hb h => ?_)
                  · refine wl_set (t := 89) (v := .bool true) (congrArg Value.bool hb) ?_; clear hb
                    refine wl_off (t := 89) rfl (by decide) rfl ?_
                    refine wl_off (t := 89) rfl (by decide) rfl ?_
                    refine wl_off (t := 89) rfl (by decide) rfl ?_
                    refine wl_off (t := 89) rfl (by decide) rfl ?_
                    refine wl_off (t := 89) rfl (by decide) rfl ?_
                    refine wl_off (t := 89) rfl (by decide) rfl ?_
                    refine wl_off (t := 89) rfl (by decide) rfl ?_
                    refine wl_val (at_pick_t rfl rfl) rfl ?_
                    refine wl_nil ?_
                    exact wk_prune [(4, .int .i64 a4), (11, .pointer x8.1), (13, .pointer x14.1), (15, .pointer x17.1), (17, .pointer x20.1), (21, .pointer x33), (22, .pointer x35), (97, .bool true)] ⟨rfl, rfl, rfl, rfl, rfl, rfl, rfl, rfl, trivial⟩ (fun f1 => hJ37 (true) _ f1 h so)
                  · refine wl_set (t := 89) (v := .bool false) (congrArg Value.bool hb) ?_; clear hb
                    refine wl_on (t := 89) rfl (by decide) rfl ?_
                    refine wl_val (at_move rfl) rfl ?_
                    refine wl_on (t := 89) rfl (by decide) rfl ?_
                    refine wl_val (at_move rfl) rfl ?_
                    refine wl_on (t := 89) rfl (by decide) rfl ?_
                    refine wl_callF (bits_Source_Skip.calls _ _ _ _ h) enter33 rfl trivial so ?_; intro x71 w72 h so
                    refine wl_on (t := 89) rfl (by decide) rfl ?_
                    refine wl_val (at_move rfl) rfl ?_
                    refine wl_on (t := 89) rfl (by decide) rfl ?_
                    refine wl_val (at_move rfl) rfl ?_
                    refine wl_on (t := 89) rfl (by decide) rfl ?_
                    refine wl_callF (mosaicref01_Source_Skip.calls _ _ _ _ h) enter34 rfl trivial so ?_; intro x73 w74 h so
                    refine wl_on (t := 89) rfl (by decide) rfl ?_
                    refine wl_val (at_neqB Try.underlying4 rfl rfl) rfl ?_
                    refine wl_val (at_pick_f rfl rfl) rfl ?_
                    refine wl_nil ?_
                    exact wk_prune [(4, .int .i64 a4), (11, .pointer x8.1), (13, .pointer x14.1), (15, .pointer x17.1), (17, .pointer x20.1), (21, .pointer x33), (22, .pointer x35), (97, .bool (!(x71 == x73)))] ⟨rfl, rfl, rfl, rfl, rfl, rfl, rfl, rfl, trivial⟩ (fun f1 => hJ37 ((!(x71 == x73))) _ f1 h so)
          · intro J28 h hJ28
            refine wc_region ?_
            refine wl_val (at_move rfl) rfl ?_
            refine wl_val (at_eqlP Try.underlying32 rfl rfl) rfl ?_
            refine wl_val (at_move rfl) rfl ?_
            refine bif_ h (fun hb h => ?_) (fun hb h => ?_)
            · refine wl_set (t := 66) (v := .bool true) (congrArg Value.bool hb) ?_; clear hb
              refine wl_off (t := 66) rfl (by decide) rfl ?_
              refine wl_off (t := 66) rfl (by decide) rfl ?_
              refine wl_val (at_pick_t rfl rfl) rfl ?_
              refine wl_nil ?_
              exact wk_prune [(2, .string a2), (3, .int .i64 a3), (4, .int .i64 a4), (11, .pointer x8.1), (13, .pointer x14.1), (15, .pointer x17.1), (17, .pointer x20.1), (69, .bool true)] ⟨rfl, rfl, rfl, rfl, rfl, rfl, rfl, rfl, trivial⟩ (fun f1 => hJ28 (true) _ f1 h so)
            · refine wl_set (t := 66) (v := .bool false) (congrArg Value.bool hb) ?_; clear hb
              refine wl_on (t := 66) rfl (by decide) rfl ?_
              refine wl_val (at_move rfl) rfl ?_
              refine wl_on (t := 66) rfl (by decide) rfl ?_
              refine wl_val (at_eqlP Try.underlying32 rfl rfl) rfl ?_
              refine wl_val (at_pick_f rfl rfl) rfl ?_
              refine wl_nil ?_
              exact wk_prune [(2, .string a2), (3, .int .i64 a3), (4, .int .i64 a4), (11, .pointer x8.1), (13, .pointer x14.1), (15, .pointer x17.1), (17, .pointer x20.1), (69, .bool x14.1.isNone)] ⟨rfl, rfl, rfl, rfl, rfl, rfl, rfl, rfl, trivial⟩ (fun f1 => hJ28 (x14.1.isNone) _ f1 h so)
      · intro J25 h hJ25
        refine wc_region ?_
        refine wl_val (at_move rfl) rfl ?_
        refine wl_val (at_neq rfl rfl) rfl ?_
        refine wl_val (at_move rfl) rfl ?_
        refine bif_ h (fun hb h => ?_) (fun hb h => ?_)
        · refine wl_set (t := 60) (v := .bool true) (congrArg Value.bool hb) ?_; clear hb
          refine wl_off (t := 60) rfl (by decide) rfl ?_
          refine wl_off (t := 60) rfl (by decide) rfl ?_
          refine wl_val (at_pick_t rfl rfl) rfl ?_
          refine wl_nil ?_
          exact wk_prune [(2, .string a2), (3, .int .i64 a3), (4, .int .i64 a4), (11, .pointer x8.1), (13, .pointer x14.1), (15, .pointer x17.1), (17, .pointer x20.1), (63, .bool true)] ⟨rfl, rfl, rfl, rfl, rfl, rfl, rfl, rfl, trivial⟩ (fun f1 => hJ25 (true) _ f1 h so)
        · refine wl_set (t := 60) (v := .bool false) (congrArg Value.bool hb) ?_; clear hb
          refine wl_on (t := 60) rfl (by decide) rfl ?_
          refine wl_val (at_move rfl) rfl ?_
          refine wl_on (t := 60) rfl (by decide) rfl ?_
          refine wl_val (at_neq rfl rfl) rfl ?_
          refine wl_val (at_pick_f rfl rfl) rfl ?_
          refine wl_nil ?_
          exact wk_prune [(2, .string a2), (3, .int .i64 a3), (4, .int .i64 a4), (11, .pointer x8.1), (13, .pointer x14.1), (15, .pointer x17.1), (17, .pointer x20.1), (63, .bool (x20.2 != 0))] ⟨rfl, rfl, rfl, rfl, rfl, rfl, rfl, rfl, trivial⟩ (fun f1 => hJ25 ((x20.2 != 0)) _ f1 h so)
  · intro J22 h hJ22
    refine wc_region ?_
    refine wl_val (at_move rfl) rfl ?_
    refine wl_val (at_move rfl) rfl ?_
    refine wl_val (at_neq rfl rfl) rfl ?_
    refine wl_val (at_move rfl) rfl ?_
    refine bif_ h (fun hb h => ?_) (fun hb h => ?_)
    · refine wl_set (t := 53) (v := .bool true) (congrArg Value.bool hb) ?_; clear hb
      refine wl_off (t := 53) rfl (by decide) rfl ?_
      refine wl_off (t := 53) rfl (by decide) rfl ?_
      refine wl_off (t := 53) rfl (by decide) rfl ?_
      refine wl_val (at_pick_t rfl rfl) rfl ?_
      refine wl_nil ?_
      exact wk_prune [(2, .string a2), (3, .int .i64 a3), (4, .int .i64 a4), (11, .pointer x8.1), (13, .pointer x14.1), (15, .pointer x17.1), (16, .int .i64 x17.2), (17, .pointer x20.1), (18, .int .i64 x20.2), (57, .bool true)] ⟨rfl, rfl, rfl, rfl, rfl, rfl, rfl, rfl, rfl, rfl, trivial⟩ (fun f1 => hJ22 (true) _ f1 h so)
    · refine wl_set (t := 53) (v := .bool false) (congrArg Value.bool hb) ?_; clear hb
      refine wl_on (t := 53) rfl (by decide) rfl ?_
      refine wl_val (at_move rfl) rfl ?_
      refine wl_on (t := 53) rfl (by decide) rfl ?_
      refine wl_val (at_move rfl) rfl ?_
      refine wl_on (t := 53) rfl (by decide) rfl ?_
      refine wl_val (at_neq rfl rfl) rfl ?_
      refine wl_val (at_pick_f rfl rfl) rfl ?_
      refine wl_nil ?_
      exact wk_prune [(2, .string a2), (3, .int .i64 a3), (4, .int .i64 a4), (11, .pointer x8.1), (13, .pointer x14.1), (15, .pointer x17.1), (16, .int .i64 x17.2), (17, .pointer x20.1), (18, .int .i64 x20.2), (57, .bool (x14.2 != x20.2))] ⟨rfl, rfl, rfl, rfl, rfl, rfl, rfl, rfl, rfl, rfl, trivial⟩ (fun f1 => hJ22 ((x14.2 != x20.2)) _ f1 h so)
end Go.Proofs.Ytbefacccdaafeaa.G
