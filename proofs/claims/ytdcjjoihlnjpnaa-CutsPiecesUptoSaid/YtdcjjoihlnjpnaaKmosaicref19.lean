import Derived.Test.YtdcjjoihlnjpnaaKshelf
namespace Go.Proofs.Ytdcjjoihlnjpnaa.G
open Go.RowKit
set_option linter.unusedVariables false
set_option linter.unusedSimpArgs false
/-- mosaic/mosaicref19.All -/
def mosaicref19_All.enc : Sl → Value := fun r => .slice r.a r.n r.c
def mosaicref19_All.s (a0 : ByteArray) (a1 : Int) (H0 : Hp) (Q : Sl → Hp → Prop) : Prop :=
  Join (fun (s2 : Int) (H3 : Hp) => Join (fun (s5 : Int) (H6 : Hp) => Gn [] H6 (fun (b7 : Nat) (H9 : Hp) => Bk H9 b7 29 (c29 s5 0 0 0) → (∃ k10, Fix (fun (rec15 : (Sl × Int × Int) → Hp → Prop) (s12 : Sl × Int × Int) (H13 : Hp) => if decide (s12.2.2 < (a0.size : Int)) = true then (Join (fun (s17 : Sl × Int) (H18 : Hp) => rec15 (s17.1, s17.2, (IntKind.wrap .i64 (s12.2.2 + 1))) H18) (fun (J16 : (Sl × Int) → Hp → Prop) => 0 ≤ s12.2.2 ∧ s12.2.2 < (a0.size : Int) ∧ (if ((IntKind.wrap .i64 (bt a0 s12.2.2)) == 255) = true then (J16 (s12.1, (IntKind.wrap .i64 (s12.2.1 + 1))) H13) else (Join (fun (s22 : Bool) (H23 : Hp) => if s22 = true then (st H23 (⟨b7, 1, none⟩ : Addr) (.int .i64 (IntKind.wrap .i64 (s12.2.2 - s12.2.1))) (fun H24 => st H24 (⟨b7, 2, none⟩ : Addr) (.int .i8 (IntKind.wrap .i8 (IntKind.wrap .i64 ((IntKind.wrap .i64 (bt a0 s12.2.2)) - 208)))) (fun H25 => st H25 (⟨b7, 3, none⟩ : Addr) (.int .i64 (IntKind.wrap .i64 (s12.2.2 + 1))) (fun H26 => ∃ x27 : Int, ∃ x28 : Int, ∃ x29 : Int, ∃ x30 : Int, ldA H26 (⟨b7, 0, none⟩ : Addr) (c29 x27 x28 x29 x30) ∧ (nw H26 29 (c29 x27 x28 x29 x30) (fun p32 H33 => apS H33 s12.1 29 4 32 z29.cells 1 (c29 x27 x28 x29 x30) (fun l37 H38 => stA H38 (⟨b7, 0, none⟩ : Addr) (c29 (IntKind.wrap .i64 (s12.2.2 + 1)) 0 0 0) (fun H39 => J16 (l37, 0) H39)))))))) else (Join (fun (s41 : Bool) (H42 : Hp) => if s41 = true then (st H42 (⟨b7, 1, none⟩ : Addr) (.int .i64 (IntKind.wrap .i64 (s12.2.2 - s12.2.1))) (fun H43 => st H43 (⟨b7, 2, none⟩ : Addr) (.int .i8 (-1)) (fun H44 => st H44 (⟨b7, 3, none⟩ : Addr) (.int .i64 (IntKind.wrap .i64 (s12.2.2 - 1))) (fun H45 => ∃ x46 : Int, ∃ x47 : Int, ∃ x48 : Int, ∃ x49 : Int, ldA H45 (⟨b7, 0, none⟩ : Addr) (c29 x46 x47 x48 x49) ∧ (nw H45 29 (c29 x46 x47 x48 x49) (fun p51 H52 => apS H52 s12.1 29 4 32 z29.cells 1 (c29 x46 x47 x48 x49) (fun l56 H57 => Q l56 H57))))))) else (J16 (s12.1, 0) H42)) (fun (J40 : Bool → Hp → Prop) => if decide ((0 : Int) < s12.2.1) = true then (J40 (((IntKind.wrap .i64 (bt a0 s12.2.2)) != 0)) H23) else (J40 (false) H23)))) (fun (J21 : Bool → Hp → Prop) => if decide ((0 : Int) < s12.2.1) = true then (if decide ((208 : Int) ≤ (IntKind.wrap .i64 (bt a0 s12.2.2))) = true then (J21 ((decide ((IntKind.wrap .i64 (bt a0 s12.2.2)) ≤ 215))) H13) else (J21 (false) H13)) else (J21 (false) H13)))))) else (st H13 (⟨b7, 1, none⟩ : Addr) (.int .i64 (IntKind.wrap .i64 ((a0.size : Int) - s12.2.1))) (fun H58 => st H58 (⟨b7, 2, none⟩ : Addr) (.int .i8 (-2)) (fun H59 => st H59 (⟨b7, 3, none⟩ : Addr) (.int .i64 (a0.size : Int)) (fun H60 => ∃ x61 : Int, ∃ x62 : Int, ∃ x63 : Int, ∃ x64 : Int, ldA H60 (⟨b7, 0, none⟩ : Addr) (c29 x61 x62 x63 x64) ∧ (nw H60 29 (c29 x61 x62 x63 x64) (fun p66 H67 => apS H67 s12.1 29 4 32 z29.cells 1 (c29 x61 x62 x63 x64) (fun l71 H72 => Q l71 H72)))))))) k10 (⟨none, 0, 0⟩, 0, s5) H9))) (fun (J4 : Int → Hp → Prop) => if decide ((a0.size : Int) < s2) = true then (J4 ((a0.size : Int)) H3) else (J4 (s2) H3))) (fun (J1 : Int → Hp → Prop) => if decide (a1 < 0) = true then (J1 (0) H0) else (J1 (a1) H0))
set_option maxRecDepth 20000 in
set_option maxHeartbeats 4000000 in
theorem mosaicref19_All.calls (a0 : ByteArray) (a1 : Int) (w0 : World) (Q : Sl → Hp → Prop) (h : mosaicref19_All.s a0 a1 w0.heap Q) :
    Ca Try.prog 7 #[.string a0, .int .i64 a1] w0 (Rt mosaicref19_All.enc Q w0) := by
  refine ca_start (c := _) Try.func7 rfl Try.ntmps7 rfl ?_
  have so : Sm w0 w0 := Sm.refl w0
  unfold mosaicref19_All.s at h
  refine wc_prune [(0, .string a0), (1, .int .i64 a1)] ⟨rfl, rfl, trivial⟩ (fun f1 => ?_)
  refine wc_seq ?_
  refine wc_region ?_
  refine wl_val (at_assign rfl) rfl ?_
  refine wl_nil ?_
  refine wk_prune [(0, .string a0), (1, .int .i64 a1)] ⟨rfl, rfl, trivial⟩ (fun f1 => ?_)
  refine wk_then ?_
  refine wc_seq ?_
  refine wc_join (w0 := w0) (fun (s2 : Int) => [(0, .string a0), (1, .int .i64 s2)]) h ?_ ?_
  · rintro s2 w3 f1 h so; refine wk_then ?_
    refine wc_seq ?_
    refine wc_join (w0 := w0) (fun (s5 : Int) => [(0, .string a0), (1, .int .i64 s5)]) h ?_ ?_
    · rintro s5 w6 f1 h so; refine wk_then ?_
      refine wc_seq ?_
      refine wc_region ?_
      refine wl_val (at_assign rfl) rfl ?_
      refine wl_nil ?_
      refine wk_prune [(0, .string a0), (1, .int .i64 s5), (5, .slice none 0 0)] ⟨rfl, rfl, rfl, trivial⟩ (fun f1 => ?_)
      refine wk_then ?_
      refine wc_seq ?_
      refine wc_region ?_
      refine wl_val (at_move rfl) rfl ?_
      refine wl_val (at_build (cs := (c29 s5 0 0 0)) (ps := [(0, .int .i64 s5)]) rfl (fun w => by simp [Instr.build, Instr.fill, go_sem, Try.underlying29, z29])) rfl ?_
      refine wl_newT (T := 29) (cs := (c29 0 0 0 0)) (ef_alloc zero29 rfl) rfl so ?_; intro b7 w8 hb_b7 t_b7 k_b7 so
      have g_b7 := Nat.le_of_eq hb_b7.symm
      have hc := k_b7.ch (F := [])
      refine wl_stWT (vs := (c29 s5 0 0 0)) t_b7 (by first | (rw [len29, len29]) | (rw [len29]) | rfl) rfl so (fun q => ef_storeA (p := (⟨b7, 0, none⟩ : Addr)) (cs := (c29 s5 0 0 0)) (by rw [len29]; exact sz29) rfl rfl (one29 _ _ _ _) q) ?_; intro w9 t_b7 s_w9 so
      replace hc := ch_same hc s_w9 (.inr g_b7)
      refine wl_nil ?_
      refine wk_prune [(0, .string a0), (1, .int .i64 s5), (5, .slice none 0 0), (6, .pointer (some (⟨b7, 0, none⟩ : Addr)))] ⟨rfl, rfl, rfl, rfl, trivial⟩ (fun f1 => ?_)
      refine wk_then ?_
      refine wc_seq ?_
      refine wc_region ?_
      refine wl_val (at_assign rfl) rfl ?_
      refine wl_nil ?_
      refine wk_prune [(0, .string a0), (1, .int .i64 s5), (5, .slice none 0 0), (6, .pointer (some (⟨b7, 0, none⟩ : Addr))), (7, .int .i64 0)] ⟨rfl, rfl, rfl, rfl, rfl, trivial⟩ (fun f1 => ?_)
      refine wk_then ?_
      refine wc_seq ?_
      refine wc_seq ?_
      refine wc_region ?_
      refine wl_val (at_move rfl) rfl ?_
      refine wl_val (at_assign rfl) rfl ?_
      refine wl_nil ?_
      refine wk_prune [(0, .string a0), (5, .slice none 0 0), (6, .pointer (some (⟨b7, 0, none⟩ : Addr))), (7, .int .i64 0), (8, .int .i64 s5)] ⟨rfl, rfl, rfl, rfl, rfl, trivial⟩ (fun f1 => ?_)
      refine wk_then ?_
      refine wc_block ?_
      replace h := h b7 _ hc g_b7 t_b7.lt; clear hc
      replace h := h t_b7
      obtain ⟨k10, h⟩ := h
      refine wc_loop (fun k a w => ∃ (s12 : Sl × Int × Int) (f1 : Nat → Value), a = ac 97 (en f1 [(0, .string a0), (5, .slice s12.1.a s12.1.n s12.1.c), (6, .pointer (some (⟨b7, 0, none⟩ : Addr))), (7, .int .i64 s12.2.1), (8, .int .i64 s12.2.2)]) [] ∧ Sm w0 w ∧ Fix _ k s12 w.heap) k10 ⟨(⟨none, 0, 0⟩, 0, s5), _, ac_again ⟨rfl, rfl, rfl, rfl, rfl, trivial⟩, so, h⟩ ?_
      rintro k11 a14 w13 ⟨s12, f1, rfl, so, h⟩
      rcases k11 with _ | k11
      · exact h.elim
      replace h := Fix.un h; refine wc_in ?_
      refine wc_seq ?_
      refine wc_seq ?_
      refine wc_region ?_
      refine wl_val (at_move rfl) rfl ?_
      refine wl_val (at_move rfl) rfl ?_
      refine wl_val (at_lenS Try.underlying9 rfl) rfl ?_
      refine wl_val (at_lss rfl rfl) rfl ?_
      refine wl_nil ?_
      refine wk_prune [(0, .string a0), (5, .slice s12.1.a s12.1.n s12.1.c), (6, .pointer (some (⟨b7, 0, none⟩ : Addr))), (7, .int .i64 s12.2.1), (8, .int .i64 s12.2.2), (24, .bool (decide (s12.2.2 < (a0.size : Int))))] ⟨rfl, rfl, rfl, rfl, rfl, rfl, trivial⟩ (fun f1 => ?_)
      refine wk_then ?_
      refine wc_cond rfl h (fun h => ?_) (fun h => ?_)
      · refine wc_skip ?_
        refine wk_prune [(0, .string a0), (5, .slice s12.1.a s12.1.n s12.1.c), (6, .pointer (some (⟨b7, 0, none⟩ : Addr))), (7, .int .i64 s12.2.1), (8, .int .i64 s12.2.2)] ⟨rfl, rfl, rfl, rfl, rfl, trivial⟩ (fun f1 => ?_)
        refine wk_then ?_
        refine wc_seq ?_
        refine wc_join (w0 := w0) (fun (s17 : Sl × Int) => [(0, .string a0), (5, .slice s17.1.a s17.1.n s17.1.c), (6, .pointer (some (⟨b7, 0, none⟩ : Addr))), (7, .int .i64 s17.2), (8, .int .i64 s12.2.2)]) h ?_ ?_
        · rintro s17 w18 f1 h so; refine wk_then ?_
          refine wc_region ?_
          refine wl_val (at_move rfl) rfl ?_
          refine wl_val (at_add rfl rfl) rfl ?_
          refine wl_val (at_assign rfl) rfl ?_
          refine wl_nil ?_
          exact wk_again ⟨(s17.1, s17.2, (IntKind.wrap .i64 (s12.2.2 + 1))), _, ac_again ⟨rfl, rfl, rfl, rfl, rfl, trivial⟩, so, h⟩
        · intro J16 h hJ16
          refine wc_block ?_
          refine wc_seq ?_
          refine wc_region ?_
          refine wl_val (at_move rfl) rfl ?_
          refine wl_val (at_move rfl) rfl ?_
          obtain ⟨q19, q20, h⟩ := h
          refine wl_val (at_ixS Try.underlying9 rfl rfl q19 q20) rfl ?_
          refine wl_val (at_conv Try.underlying5 Try.underlying3 rfl) rfl ?_
          refine wl_val (at_assign rfl) rfl ?_
          refine wl_nil ?_
          refine wk_prune [(0, .string a0), (5, .slice s12.1.a s12.1.n s12.1.c), (6, .pointer (some (⟨b7, 0, none⟩ : Addr))), (7, .int .i64 s12.2.1), (8, .int .i64 s12.2.2), (9, .int .i64 (IntKind.wrap .i64 (bt a0 s12.2.2)))] ⟨rfl, rfl, rfl, rfl, rfl, rfl, trivial⟩ (fun f1 => ?_)
          refine wk_then ?_
          refine wc_block ?_
          refine wc_seq ?_
          refine wc_region ?_
          refine wl_val (at_move rfl) rfl ?_
          refine wl_val (at_eql rfl rfl) rfl ?_
          refine wl_val (at_assign rfl) rfl ?_
          refine wl_nil ?_
          refine wk_prune [(0, .string a0), (5, .slice s12.1.a s12.1.n s12.1.c), (6, .pointer (some (⟨b7, 0, none⟩ : Addr))), (7, .int .i64 s12.2.1), (8, .int .i64 s12.2.2), (9, .int .i64 (IntKind.wrap .i64 (bt a0 s12.2.2))), (31, .bool ((IntKind.wrap .i64 (bt a0 s12.2.2)) == 255))] ⟨rfl, rfl, rfl, rfl, rfl, rfl, rfl, trivial⟩ (fun f1 => ?_)
          refine wk_then ?_
          refine wc_cond rfl h (fun h => ?_) (fun h => ?_)
          · refine wc_region ?_
            refine wl_val (at_move rfl) rfl ?_
            refine wl_val (at_add rfl rfl) rfl ?_
            refine wl_val (at_assign rfl) rfl ?_
            refine wl_nil ?_
            refine wk_blkN ?_
            refine wk_blkN ?_
            exact wk_prune [(0, .string a0), (5, .slice s12.1.a s12.1.n s12.1.c), (6, .pointer (some (⟨b7, 0, none⟩ : Addr))), (7, .int .i64 (IntKind.wrap .i64 (s12.2.1 + 1))), (8, .int .i64 s12.2.2)] ⟨rfl, rfl, rfl, rfl, rfl, trivial⟩ (fun f1 => hJ16 (s12.1, (IntKind.wrap .i64 (s12.2.1 + 1))) _ f1 h so)
          · refine wc_seq ?_
            refine wc_join (w0 := w0) (fun (s22 : Bool) => [(0, .string a0), (5, .slice s12.1.a s12.1.n s12.1.c), (6, .pointer (some (⟨b7, 0, none⟩ : Addr))), (7, .int .i64 s12.2.1), (8, .int .i64 s12.2.2), (9, .int .i64 (IntKind.wrap .i64 (bt a0 s12.2.2))), (36, .bool s22)]) h ?_ ?_
            · rintro s22 w23 f1 h so; refine wk_then ?_
              refine wc_cond rfl h (fun h => ?_) (fun h => ?_)
              · refine wc_seq ?_
                refine wc_region ?_
                refine wl_val (at_move rfl) rfl ?_
                refine wl_val (at_move rfl) rfl ?_
                refine wl_val (at_sub rfl rfl) rfl ?_
                refine wl_val (at_fieldAddr Try.underlying29 rfl rfl sz3 (by decide) rfl) rfl ?_
                refine wl_st (v := .int .i64 (IntKind.wrap .i64 (s12.2.2 - s12.2.1))) h rfl so (fun q1 q2 => ef_store (sz := sz3) rfl rfl rfl q1 q2) ?_; intro w24 h so
                refine wl_nil ?_
                refine wk_prune [(0, .string a0), (5, .slice s12.1.a s12.1.n s12.1.c), (6, .pointer (some (⟨b7, 0, none⟩ : Addr))), (8, .int .i64 s12.2.2), (9, .int .i64 (IntKind.wrap .i64 (bt a0 s12.2.2)))] ⟨rfl, rfl, rfl, rfl, rfl, trivial⟩ (fun f1 => ?_)
                refine wk_then ?_
                refine wc_seq ?_
                refine wc_region ?_
                refine wl_val (at_move rfl) rfl ?_
                refine wl_val (at_sub rfl rfl) rfl ?_
                refine wl_val (at_conv Try.underlying3 Try.underlying27 rfl) rfl ?_
                refine wl_val (at_fieldAddr Try.underlying29 rfl rfl sz27 (by decide) rfl) rfl ?_
                refine wl_st (v := .int .i8 (IntKind.wrap .i8 (IntKind.wrap .i64 ((IntKind.wrap .i64 (bt a0 s12.2.2)) - 208)))) h rfl so (fun q1 q2 => ef_store (sz := sz27) rfl rfl rfl q1 q2) ?_; intro w25 h so
                refine wl_nil ?_
                refine wk_prune [(0, .string a0), (5, .slice s12.1.a s12.1.n s12.1.c), (6, .pointer (some (⟨b7, 0, none⟩ : Addr))), (8, .int .i64 s12.2.2)] ⟨rfl, rfl, rfl, rfl, trivial⟩ (fun f1 => ?_)
                refine wk_then ?_
                refine wc_seq ?_
                refine wc_region ?_
                refine wl_val (at_move rfl) rfl ?_
                refine wl_val (at_add rfl rfl) rfl ?_
                refine wl_val (at_fieldAddr Try.underlying29 rfl rfl sz3 (by decide) rfl) rfl ?_
                refine wl_st (v := .int .i64 (IntKind.wrap .i64 (s12.2.2 + 1))) h rfl so (fun q1 q2 => ef_store (sz := sz3) rfl rfl rfl q1 q2) ?_; intro w26 h so
                refine wl_nil ?_
                refine wk_prune [(0, .string a0), (5, .slice s12.1.a s12.1.n s12.1.c), (6, .pointer (some (⟨b7, 0, none⟩ : Addr))), (8, .int .i64 s12.2.2)] ⟨rfl, rfl, rfl, rfl, trivial⟩ (fun f1 => ?_)
                refine wk_then ?_
                refine wc_seq ?_
                refine wc_region ?_
                refine wl_val (at_move rfl) rfl ?_
                obtain ⟨x27, x28, x29, x30, q31, h⟩ := h
                refine wl_val (at_loadA (cs := (c29 x27 x28 x29 x30)) Try.underlying29 rfl (by rw [len29]; exact sz29) rfl q31) rfl ?_
                obtain ⟨i35, i35a, i35b, i35c, i35d⟩ := info29
                refine wl_newS (ef_buildSlice (cs := (c29 x27 x28 x29 x30)) (ps := [(0, .agg (c29 x27 x28 x29 x30).toArray)]) Try.underlying22 i35a i35b rfl (by rw [i35c]; decide) (by rw [i35c]; exact fill_full (vs := [.agg (c29 x27 x28 x29 x30).toArray]) rfl (by simp [Value.cells]) (by simp [Value.cells, len29]) rfl (by simp))) rfl so (one29 _ _ _ _) h ?_; intro p32 w33 h r34 so
                obtain ⟨i36, i36a, i36b, i36c, i36d⟩ := info29
                refine wl_ap (fx_append (s := s12.1) (t := ⟨(some p32), 1, 1⟩) (m := 1) (xs := (c29 x27 x28 x29 x30)) Try.underlying22 Try.underlying22 i36a i36b i36c i36d rfl rfl rfl (by first | rfl | simp [len29]) r34 h) rfl so ?_; intro l37 w38 h so
                refine wl_val (at_assign rfl) rfl ?_
                refine wl_nil ?_
                refine wk_prune [(0, .string a0), (5, .slice l37.a l37.n l37.c), (6, .pointer (some (⟨b7, 0, none⟩ : Addr))), (8, .int .i64 s12.2.2)] ⟨rfl, rfl, rfl, rfl, trivial⟩ (fun f1 => ?_)
                refine wk_then ?_
                refine wc_seq ?_
                refine wc_region ?_
                refine wl_val (at_move rfl) rfl ?_
                refine wl_val (at_add rfl rfl) rfl ?_
                refine wl_val (at_build (cs := (c29 (IntKind.wrap .i64 (s12.2.2 + 1)) 0 0 0)) (ps := [(0, .int .i64 (IntKind.wrap .i64 (s12.2.2 + 1)))]) rfl (fun w => by simp [Instr.build, Instr.fill, go_sem, Try.underlying29, z29])) rfl ?_
                refine wl_stA h rfl so (fun q => ef_storeA (by rw [len29]; exact sz29) rfl rfl (one29 _ _ _ _) q) ?_; intro w39 h so
                refine wl_nil ?_
                refine wk_prune [(0, .string a0), (5, .slice l37.a l37.n l37.c), (6, .pointer (some (⟨b7, 0, none⟩ : Addr))), (8, .int .i64 s12.2.2)] ⟨rfl, rfl, rfl, rfl, trivial⟩ (fun f1 => ?_)
                refine wk_then ?_
                refine wc_region ?_
                refine wl_val (at_assign rfl) rfl ?_
                refine wl_nil ?_
                refine wk_blkN ?_
                refine wk_blkN ?_
                exact wk_prune [(0, .string a0), (5, .slice l37.a l37.n l37.c), (6, .pointer (some (⟨b7, 0, none⟩ : Addr))), (7, .int .i64 0), (8, .int .i64 s12.2.2)] ⟨rfl, rfl, rfl, rfl, rfl, trivial⟩ (fun f1 => hJ16 (l37, 0) _ f1 h so)
              · refine wc_seq ?_
                refine wc_join (w0 := w0) (fun (s41 : Bool) => [(0, .string a0), (5, .slice s12.1.a s12.1.n s12.1.c), (6, .pointer (some (⟨b7, 0, none⟩ : Addr))), (7, .int .i64 s12.2.1), (8, .int .i64 s12.2.2), (65, .bool s41)]) h ?_ ?_
                · rintro s41 w42 f1 h so; refine wk_then ?_
                  refine wc_cond rfl h (fun h => ?_) (fun h => ?_)
                  · refine wc_seq ?_
                    refine wc_region ?_
                    refine wl_val (at_move rfl) rfl ?_
                    refine wl_val (at_move rfl) rfl ?_
                    refine wl_val (at_sub rfl rfl) rfl ?_
                    refine wl_val (at_fieldAddr Try.underlying29 rfl rfl sz3 (by decide) rfl) rfl ?_
                    refine wl_st (v := .int .i64 (IntKind.wrap .i64 (s12.2.2 - s12.2.1))) h rfl so (fun q1 q2 => ef_store (sz := sz3) rfl rfl rfl q1 q2) ?_; intro w43 h so
                    refine wl_nil ?_
                    refine wk_prune [(5, .slice s12.1.a s12.1.n s12.1.c), (6, .pointer (some (⟨b7, 0, none⟩ : Addr))), (8, .int .i64 s12.2.2)] ⟨rfl, rfl, rfl, trivial⟩ (fun f1 => ?_)
                    refine wk_then ?_
                    refine wc_seq ?_
                    refine wc_region ?_
                    refine wl_val (at_fieldAddr Try.underlying29 rfl rfl sz27 (by decide) rfl) rfl ?_
                    refine wl_st (v := .int .i8 (-1)) h rfl so (fun q1 q2 => ef_store (sz := sz27) rfl rfl rfl q1 q2) ?_; intro w44 h so
                    refine wl_nil ?_
                    refine wk_prune [(5, .slice s12.1.a s12.1.n s12.1.c), (6, .pointer (some (⟨b7, 0, none⟩ : Addr))), (8, .int .i64 s12.2.2)] ⟨rfl, rfl, rfl, trivial⟩ (fun f1 => ?_)
                    refine wk_then ?_
                    refine wc_seq ?_
                    refine wc_region ?_
                    refine wl_val (at_move rfl) rfl ?_
                    refine wl_val (at_sub rfl rfl) rfl ?_
                    refine wl_val (at_fieldAddr Try.underlying29 rfl rfl sz3 (by decide) rfl) rfl ?_
                    refine wl_st (v := .int .i64 (IntKind.wrap .i64 (s12.2.2 - 1))) h rfl so (fun q1 q2 => ef_store (sz := sz3) rfl rfl rfl q1 q2) ?_; intro w45 h so
                    refine wl_nil ?_
                    refine wk_prune [(5, .slice s12.1.a s12.1.n s12.1.c), (6, .pointer (some (⟨b7, 0, none⟩ : Addr)))] ⟨rfl, rfl, trivial⟩ (fun f1 => ?_)
                    refine wk_then ?_
                    refine wc_seq ?_
                    refine wc_region ?_
                    refine wl_val (at_move rfl) rfl ?_
                    obtain ⟨x46, x47, x48, x49, q50, h⟩ := h
                    refine wl_val (at_loadA (cs := (c29 x46 x47 x48 x49)) Try.underlying29 rfl (by rw [len29]; exact sz29) rfl q50) rfl ?_
                    obtain ⟨i54, i54a, i54b, i54c, i54d⟩ := info29
                    refine wl_newS (ef_buildSlice (cs := (c29 x46 x47 x48 x49)) (ps := [(0, .agg (c29 x46 x47 x48 x49).toArray)]) Try.underlying22 i54a i54b rfl (by rw [i54c]; decide) (by rw [i54c]; exact fill_full (vs := [.agg (c29 x46 x47 x48 x49).toArray]) rfl (by simp [Value.cells]) (by simp [Value.cells, len29]) rfl (by simp))) rfl so (one29 _ _ _ _) h ?_; intro p51 w52 h r53 so
                    obtain ⟨i55, i55a, i55b, i55c, i55d⟩ := info29
                    refine wl_ap (fx_append (s := s12.1) (t := ⟨(some p51), 1, 1⟩) (m := 1) (xs := (c29 x46 x47 x48 x49)) Try.underlying22 Try.underlying22 i55a i55b i55c i55d rfl rfl rfl (by first | rfl | simp [len29]) r53 h) rfl so ?_; intro l56 w57 h so
                    refine wl_val (at_assign rfl) rfl ?_
                    refine wl_nil ?_
                    refine wk_prune [(4, .slice l56.a l56.n l56.c)] ⟨rfl, trivial⟩ (fun f1 => ?_)
                    refine wk_then ?_
                    refine wc_ret ?_
                    refine wk_blkR ?_
                    refine wk_blkR ?_
                    refine wk_thenR ?_
                    refine wk_thenR ?_
                    refine wk_blkR ?_
                    refine wk_thenR ?_
                    exact wk_ret1 (x := l56) rfl (by decide) rfl so h
                  · refine wc_region ?_
                    refine wl_val (at_assign rfl) rfl ?_
                    refine wl_nil ?_
                    refine wk_blkN ?_
                    refine wk_blkN ?_
                    exact wk_prune [(0, .string a0), (5, .slice s12.1.a s12.1.n s12.1.c), (6, .pointer (some (⟨b7, 0, none⟩ : Addr))), (7, .int .i64 0), (8, .int .i64 s12.2.2)] ⟨rfl, rfl, rfl, rfl, rfl, trivial⟩ (fun f1 => hJ16 (s12.1, 0) _ f1 h so)
                · intro J40 h hJ40
                  refine wc_region ?_
                  refine wl_val (at_move rfl) rfl ?_
                  refine wl_val (at_gtr rfl rfl) rfl ?_
                  refine wl_val (at_move rfl) rfl ?_
                  refine bif_ h (fun hb h => ?_) (fun hb h => ?_)
                  · refine wl_set (t := 68) (v := .bool true) (congrArg Value.bool hb) ?_; clear hb
                    refine wl_on (t := 68) rfl (by decide) rfl ?_
                    refine wl_val (at_move rfl) rfl ?_
                    refine wl_on (t := 68) rfl (by decide) rfl ?_
                    refine wl_val (at_neq rfl rfl) rfl ?_
                    refine wl_val (at_pick_t rfl rfl) rfl ?_
                    refine wl_val (at_assign rfl) rfl ?_
                    refine wl_nil ?_
                    exact wk_prune [(0, .string a0), (5, .slice s12.1.a s12.1.n s12.1.c), (6, .pointer (some (⟨b7, 0, none⟩ : Addr))), (7, .int .i64 s12.2.1), (8, .int .i64 s12.2.2), (65, .bool ((IntKind.wrap .i64 (bt a0 s12.2.2)) != 0))] ⟨rfl, rfl, rfl, rfl, rfl, rfl, trivial⟩ (fun f1 => hJ40 (((IntKind.wrap .i64 (bt a0 s12.2.2)) != 0)) _ f1 h so)
                  · refine wl_set (t := 68) (v := .bool false) (congrArg Value.bool hb) ?_; clear hb
                    refine wl_off (t := 68) rfl (by decide) rfl ?_
                    refine wl_off (t := 68) rfl (by decide) rfl ?_
                    refine wl_val (at_pick_f rfl rfl) rfl ?_
                    refine wl_val (at_assign rfl) rfl ?_
                    refine wl_nil ?_
                    exact wk_prune [(0, .string a0), (5, .slice s12.1.a s12.1.n s12.1.c), (6, .pointer (some (⟨b7, 0, none⟩ : Addr))), (7, .int .i64 s12.2.1), (8, .int .i64 s12.2.2), (65, .bool false)] ⟨rfl, rfl, rfl, rfl, rfl, rfl, trivial⟩ (fun f1 => hJ40 (false) _ f1 h so)
            · intro J21 h hJ21
              refine wc_region ?_
              refine wl_val (at_move rfl) rfl ?_
              refine wl_val (at_gtr rfl rfl) rfl ?_
              refine wl_val (at_move rfl) rfl ?_
              refine bif_ h (fun hb h => ?_) (fun hb h => ?_)
              · refine wl_set (t := 39) (v := .bool true) (congrArg Value.bool hb) ?_; clear hb
                refine wl_on (t := 39) rfl (by decide) rfl ?_
                refine wl_val (at_move rfl) rfl ?_
                refine wl_on (t := 39) rfl (by decide) rfl ?_
                refine wl_val (at_geq rfl rfl) rfl ?_
                refine wl_val (at_pick_t rfl rfl) rfl ?_
                refine wl_val (at_move rfl) rfl ?_
                refine bif_ h (fun hb h => ?_) (fun hb h => ?_)
                · refine wl_set (t := 43) (v := .bool true) (congrArg Value.bool hb) ?_; clear hb
                  refine wl_on (t := 43) rfl (by decide) rfl ?_
                  refine wl_val (at_move rfl) rfl ?_
                  refine wl_on (t := 43) rfl (by decide) rfl ?_
                  refine wl_val (at_leq rfl rfl) rfl ?_
                  refine wl_val (at_pick_t rfl rfl) rfl ?_
                  refine wl_val (at_assign rfl) rfl ?_
                  refine wl_nil ?_
                  exact wk_prune [(0, .string a0), (5, .slice s12.1.a s12.1.n s12.1.c), (6, .pointer (some (⟨b7, 0, none⟩ : Addr))), (7, .int .i64 s12.2.1), (8, .int .i64 s12.2.2), (9, .int .i64 (IntKind.wrap .i64 (bt a0 s12.2.2))), (36, .bool (decide ((IntKind.wrap .i64 (bt a0 s12.2.2)) ≤ 215)))] ⟨rfl, rfl, rfl, rfl, rfl, rfl, rfl, trivial⟩ (fun f1 => hJ21 ((decide ((IntKind.wrap .i64 (bt a0 s12.2.2)) ≤ 215))) _ f1 h so)
                · refine wl_set (t := 43) (v := .bool false) (congrArg Value.bool hb) ?_; clear hb
                  refine wl_off (t := 43) rfl (by decide) rfl ?_
                  refine wl_off (t := 43) rfl (by decide) rfl ?_
                  refine wl_val (at_pick_f rfl rfl) rfl ?_
                  refine wl_val (at_assign rfl) rfl ?_
                  refine wl_nil ?_
                  exact wk_prune [(0, .string a0), (5, .slice s12.1.a s12.1.n s12.1.c), (6, .pointer (some (⟨b7, 0, none⟩ : Addr))), (7, .int .i64 s12.2.1), (8, .int .i64 s12.2.2), (9, .int .i64 (IntKind.wrap .i64 (bt a0 s12.2.2))), (36, .bool false)] ⟨rfl, rfl, rfl, rfl, rfl, rfl, rfl, trivial⟩ (fun f1 => hJ21 (false) _ f1 h so)
              · refine wl_set (t := 39) (v := .bool false) (congrArg Value.bool hb) ?_; clear hb
                refine wl_off (t := 39) rfl (by decide) rfl ?_
                refine wl_off (t := 39) rfl (by decide) rfl ?_
                refine wl_val (at_pick_f rfl rfl) rfl ?_
                refine wl_val (at_move rfl) rfl ?_
                refine wl_off (t := 43) rfl (by decide) rfl ?_
                refine wl_off (t := 43) rfl (by decide) rfl ?_
                refine wl_val (at_pick_f rfl rfl) rfl ?_
                refine wl_val (at_assign rfl) rfl ?_
                refine wl_nil ?_
                exact wk_prune [(0, .string a0), (5, .slice s12.1.a s12.1.n s12.1.c), (6, .pointer (some (⟨b7, 0, none⟩ : Addr))), (7, .int .i64 s12.2.1), (8, .int .i64 s12.2.2), (9, .int .i64 (IntKind.wrap .i64 (bt a0 s12.2.2))), (36, .bool false)] ⟨rfl, rfl, rfl, rfl, rfl, rfl, rfl, trivial⟩ (fun f1 => hJ21 (false) _ f1 h so)
      · refine wc_exit ?_
        refine wk_thenE ?_
        refine wk_thenE ?_
        refine wk_blkE ?_
        refine wk_prune [(0, .string a0), (5, .slice s12.1.a s12.1.n s12.1.c), (6, .pointer (some (⟨b7, 0, none⟩ : Addr))), (7, .int .i64 s12.2.1)] ⟨rfl, rfl, rfl, rfl, trivial⟩ (fun f1 => ?_)
        refine wk_then ?_
        refine wc_seq ?_
        refine wc_region ?_
        refine wl_val (at_move rfl) rfl ?_
        refine wl_val (at_lenS Try.underlying9 rfl) rfl ?_
        refine wl_val (at_move rfl) rfl ?_
        refine wl_val (at_sub rfl rfl) rfl ?_
        refine wl_val (at_fieldAddr Try.underlying29 rfl rfl sz3 (by decide) rfl) rfl ?_
        refine wl_st (v := .int .i64 (IntKind.wrap .i64 ((a0.size : Int) - s12.2.1))) h rfl so (fun q1 q2 => ef_store (sz := sz3) rfl rfl rfl q1 q2) ?_; intro w58 h so
        refine wl_nil ?_
        refine wk_prune [(0, .string a0), (5, .slice s12.1.a s12.1.n s12.1.c), (6, .pointer (some (⟨b7, 0, none⟩ : Addr)))] ⟨rfl, rfl, rfl, trivial⟩ (fun f1 => ?_)
        refine wk_then ?_
        refine wc_seq ?_
        refine wc_region ?_
        refine wl_val (at_fieldAddr Try.underlying29 rfl rfl sz27 (by decide) rfl) rfl ?_
        refine wl_st (v := .int .i8 (-2)) h rfl so (fun q1 q2 => ef_store (sz := sz27) rfl rfl rfl q1 q2) ?_; intro w59 h so
        refine wl_nil ?_
        refine wk_prune [(0, .string a0), (5, .slice s12.1.a s12.1.n s12.1.c), (6, .pointer (some (⟨b7, 0, none⟩ : Addr)))] ⟨rfl, rfl, rfl, trivial⟩ (fun f1 => ?_)
        refine wk_then ?_
        refine wc_seq ?_
        refine wc_region ?_
        refine wl_val (at_move rfl) rfl ?_
        refine wl_val (at_lenS Try.underlying9 rfl) rfl ?_
        refine wl_val (at_fieldAddr Try.underlying29 rfl rfl sz3 (by decide) rfl) rfl ?_
        refine wl_st (v := .int .i64 (a0.size : Int)) h rfl so (fun q1 q2 => ef_store (sz := sz3) rfl rfl rfl q1 q2) ?_; intro w60 h so
        refine wl_nil ?_
        refine wk_prune [(5, .slice s12.1.a s12.1.n s12.1.c), (6, .pointer (some (⟨b7, 0, none⟩ : Addr)))] ⟨rfl, rfl, trivial⟩ (fun f1 => ?_)
        refine wk_then ?_
        refine wc_seq ?_
        refine wc_region ?_
        refine wl_val (at_move rfl) rfl ?_
        obtain ⟨x61, x62, x63, x64, q65, h⟩ := h
        refine wl_val (at_loadA (cs := (c29 x61 x62 x63 x64)) Try.underlying29 rfl (by rw [len29]; exact sz29) rfl q65) rfl ?_
        obtain ⟨i69, i69a, i69b, i69c, i69d⟩ := info29
        refine wl_newS (ef_buildSlice (cs := (c29 x61 x62 x63 x64)) (ps := [(0, .agg (c29 x61 x62 x63 x64).toArray)]) Try.underlying22 i69a i69b rfl (by rw [i69c]; decide) (by rw [i69c]; exact fill_full (vs := [.agg (c29 x61 x62 x63 x64).toArray]) rfl (by simp [Value.cells]) (by simp [Value.cells, len29]) rfl (by simp))) rfl so (one29 _ _ _ _) h ?_; intro p66 w67 h r68 so
        obtain ⟨i70, i70a, i70b, i70c, i70d⟩ := info29
        refine wl_ap (fx_append (s := s12.1) (t := ⟨(some p66), 1, 1⟩) (m := 1) (xs := (c29 x61 x62 x63 x64)) Try.underlying22 Try.underlying22 i70a i70b i70c i70d rfl rfl rfl (by first | rfl | simp [len29]) r68 h) rfl so ?_; intro l71 w72 h so
        refine wl_val (at_assign rfl) rfl ?_
        refine wl_nil ?_
        refine wk_prune [(4, .slice l71.a l71.n l71.c)] ⟨rfl, trivial⟩ (fun f1 => ?_)
        refine wk_then ?_
        refine wc_ret ?_
        exact wk_ret1 (x := l71) rfl (by decide) rfl so h
    · intro J4 h hJ4
      refine wc_seq ?_
      refine wc_region ?_
      refine wl_val (at_move rfl) rfl ?_
      refine wl_val (at_move rfl) rfl ?_
      refine wl_val (at_lenS Try.underlying9 rfl) rfl ?_
      refine wl_val (at_gtr rfl rfl) rfl ?_
      refine wl_nil ?_
      refine wk_prune [(0, .string a0), (1, .int .i64 s2), (15, .bool (decide ((a0.size : Int) < s2)))] ⟨rfl, rfl, rfl, trivial⟩ (fun f1 => ?_)
      refine wk_then ?_
      refine wc_cond rfl h (fun h => ?_) (fun h => ?_)
      · refine wc_region ?_
        refine wl_val (at_move rfl) rfl ?_
        refine wl_val (at_lenS Try.underlying9 rfl) rfl ?_
        refine wl_val (at_assign rfl) rfl ?_
        refine wl_nil ?_
        exact wk_prune [(0, .string a0), (1, .int .i64 (a0.size : Int))] ⟨rfl, rfl, trivial⟩ (fun f1 => hJ4 ((a0.size : Int)) _ f1 h so)
      · refine wc_skip ?_
        exact wk_prune [(0, .string a0), (1, .int .i64 s2)] ⟨rfl, rfl, trivial⟩ (fun f1 => hJ4 (s2) _ f1 h so)
  · intro J1 h hJ1
    refine wc_seq ?_
    refine wc_region ?_
    refine wl_val (at_move rfl) rfl ?_
    refine wl_val (at_lss rfl rfl) rfl ?_
    refine wl_nil ?_
    refine wk_prune [(0, .string a0), (1, .int .i64 a1), (11, .bool (decide (a1 < 0)))] ⟨rfl, rfl, rfl, trivial⟩ (fun f1 => ?_)
    refine wk_then ?_
    refine wc_cond rfl h (fun h => ?_) (fun h => ?_)
    · refine wc_region ?_
      refine wl_val (at_assign rfl) rfl ?_
      refine wl_nil ?_
      exact wk_prune [(0, .string a0), (1, .int .i64 0)] ⟨rfl, rfl, trivial⟩ (fun f1 => hJ1 (0) _ f1 h so)
    · refine wc_skip ?_
      exact wk_prune [(0, .string a0), (1, .int .i64 a1)] ⟨rfl, rfl, trivial⟩ (fun f1 => hJ1 (a1) _ f1 h so)

/-- mosaic/mosaicref19.Same -/
def mosaicref19_Same.enc : Bool → Value := fun r => .bool r
def mosaicref19_Same.s (a0 : Sl) (a1 : Sl) (H0 : Hp) (Q : Bool → Hp → Prop) : Prop :=
  if ((a0.n : Int) != (a1.n : Int)) = true then (Q false H0) else (∃ k1, Fix (fun (rec6 : Int → Hp → Prop) (s3 : Int) (H4 : Hp) => if decide (s3 < (a0.n : Int)) = true then (0 ≤ s3 ∧ s3 < (a0.n : Int) ∧ someA a0.a (fun p9 => ∃ x11 : Int, ∃ x12 : Int, ∃ x13 : Int, ∃ x14 : Int, ldA H4 (p9.add (Int.toNat s3 * 4)) (c29 x11 x12 x13 x14) ∧ (0 ≤ s3 ∧ s3 < (a1.n : Int) ∧ someA a1.a (fun p18 => ∃ x20 : Int, ∃ x21 : Int, ∃ x22 : Int, ∃ x23 : Int, ldA H4 (p18.add (Int.toNat s3 * 4)) (c29 x20 x21 x22 x23) ∧ (if (!((x11 == x20) && ((x12 == x21) && ((x13 == x22) && (x14 == x23))))) = true then (Q false H4) else (rec6 ((IntKind.wrap .i64 (s3 + 1))) H4)))))) else (Q true H4)) k1 (0) H0)
set_option maxRecDepth 20000 in
set_option maxHeartbeats 4000000 in
theorem mosaicref19_Same.calls (a0 : Sl) (a1 : Sl) (w0 : World) (Q : Bool → Hp → Prop) (h : mosaicref19_Same.s a0 a1 w0.heap Q) :
    Ca Try.prog 9 #[.slice a0.a a0.n a0.c, .slice a1.a a1.n a1.c] w0 (Rt mosaicref19_Same.enc Q w0) := by
  refine ca_start (c := _) Try.func9 rfl Try.ntmps9 rfl ?_
  have so : Sm w0 w0 := Sm.refl w0
  unfold mosaicref19_Same.s at h
  refine wc_prune [(0, .slice a0.a a0.n a0.c), (1, .slice a1.a a1.n a1.c)] ⟨rfl, rfl, trivial⟩ (fun f1 => ?_)
  refine wc_seq ?_
  refine wc_region ?_
  refine wl_val (at_assign rfl) rfl ?_
  refine wl_nil ?_
  refine wk_prune [(0, .slice a0.a a0.n a0.c), (1, .slice a1.a a1.n a1.c)] ⟨rfl, rfl, trivial⟩ (fun f1 => ?_)
  refine wk_then ?_
  refine wc_seq ?_
  refine wc_seq ?_
  refine wc_region ?_
  refine wl_val (at_move rfl) rfl ?_
  refine wl_val (at_lenL Try.underlying22 rfl) rfl ?_
  refine wl_val (at_move rfl) rfl ?_
  refine wl_val (at_lenL Try.underlying22 rfl) rfl ?_
  refine wl_val (at_neq rfl rfl) rfl ?_
  refine wl_nil ?_
  refine wk_prune [(0, .slice a0.a a0.n a0.c), (1, .slice a1.a a1.n a1.c), (10, .bool ((a0.n : Int) != (a1.n : Int)))] ⟨rfl, rfl, rfl, trivial⟩ (fun f1 => ?_)
  refine wk_then ?_
  refine wc_cond rfl h (fun h => ?_) (fun h => ?_)
  · refine wc_seq ?_
    refine wc_region ?_
    refine wl_val (at_assign rfl) rfl ?_
    refine wl_nil ?_
    refine wk_prune [(4, .bool false)] ⟨rfl, trivial⟩ (fun f1 => ?_)
    refine wk_then ?_
    refine wc_ret ?_
    refine wk_thenR ?_
    exact wk_ret1 (x := false) rfl (by decide) rfl so h
  · refine wc_skip ?_
    refine wk_prune [(0, .slice a0.a a0.n a0.c), (1, .slice a1.a a1.n a1.c)] ⟨rfl, rfl, trivial⟩ (fun f1 => ?_)
    refine wk_then ?_
    refine wc_seq ?_
    refine wc_seq ?_
    refine wc_region ?_
    refine wl_val (at_assign rfl) rfl ?_
    refine wl_nil ?_
    refine wk_prune [(0, .slice a0.a a0.n a0.c), (1, .slice a1.a a1.n a1.c), (5, .int .i64 0)] ⟨rfl, rfl, rfl, trivial⟩ (fun f1 => ?_)
    refine wk_then ?_
    refine wc_block ?_
    obtain ⟨k1, h⟩ := h
    refine wc_loop (fun k a w => ∃ (s3 : Int) (f1 : Nat → Value), a = ac 26 (en f1 [(0, .slice a0.a a0.n a0.c), (1, .slice a1.a a1.n a1.c), (5, .int .i64 s3)]) [] ∧ Sm w0 w ∧ Fix _ k s3 w.heap) k1 ⟨(0), _, ac_again ⟨rfl, rfl, rfl, trivial⟩, so, h⟩ ?_
    rintro k2 a5 w4 ⟨s3, f1, rfl, so, h⟩
    rcases k2 with _ | k2
    · exact h.elim
    replace h := Fix.un h; refine wc_in ?_
    refine wc_seq ?_
    refine wc_seq ?_
    refine wc_region ?_
    refine wl_val (at_move rfl) rfl ?_
    refine wl_val (at_move rfl) rfl ?_
    refine wl_val (at_lenL Try.underlying22 rfl) rfl ?_
    refine wl_val (at_lss rfl rfl) rfl ?_
    refine wl_nil ?_
    refine wk_prune [(0, .slice a0.a a0.n a0.c), (1, .slice a1.a a1.n a1.c), (5, .int .i64 s3), (14, .bool (decide (s3 < (a0.n : Int))))] ⟨rfl, rfl, rfl, rfl, trivial⟩ (fun f1 => ?_)
    refine wk_then ?_
    refine wc_cond rfl h (fun h => ?_) (fun h => ?_)
    · refine wc_skip ?_
      refine wk_prune [(0, .slice a0.a a0.n a0.c), (1, .slice a1.a a1.n a1.c), (5, .int .i64 s3)] ⟨rfl, rfl, rfl, trivial⟩ (fun f1 => ?_)
      refine wk_then ?_
      refine wc_seq ?_
      refine wc_block ?_
      refine wc_seq ?_
      refine wc_draw mixed (by kernel_rfl) so ?_
      refine wq_val (at_move rfl) rfl ?_
      refine wq_val (at_move rfl) rfl ?_
      obtain ⟨q7, q8, p9, q10, h⟩ := h
      refine wq_val (at_ixAddrL Try.underlying22 sz29 (sl_some q10) rfl q7 q8) rfl ?_
      obtain ⟨x11, x12, x13, x14, q15, h⟩ := h
      refine wq_val (at_loadA (cs := (c29 x11 x12 x13 x14)) Try.underlying29 rfl (by rw [len29]; exact sz29) rfl q15) rfl ?_
      refine wq_val (at_move rfl) rfl ?_
      refine wq_val (at_move rfl) rfl ?_
      obtain ⟨q16, q17, p18, q19, h⟩ := h
      refine wq_val (at_ixAddrL Try.underlying22 sz29 (sl_some q19) rfl q16 q17) rfl ?_
      obtain ⟨x20, x21, x22, x23, q24, h⟩ := h
      refine wq_val (at_loadA (cs := (c29 x20 x21 x22 x23)) Try.underlying29 rfl (by rw [len29]; exact sz29) rfl q24) rfl ?_
      refine wq_val (at_neqA (xs := (c29 x11 x12 x13 x14)) (ys := (c29 x20 x21 x22 x23)) rfl rfl (by kernel_rfl) (eqv_struct Try.underlying29 (by kernel_rfl) (eqf_cons rfl (pt_one (v := .int .i64 x11) Try.underlying3 rfl rfl) (pt_one (v := .int .i64 x20) Try.underlying3 rfl rfl) (eqv_int Try.underlying3) (eqf_cons rfl (pt_one (v := .int .i64 x12) Try.underlying3 rfl rfl) (pt_one (v := .int .i64 x21) Try.underlying3 rfl rfl) (eqv_int Try.underlying3) (eqf_cons rfl (pt_one (v := .int .i8 x13) Try.underlying27 rfl rfl) (pt_one (v := .int .i8 x22) Try.underlying27 rfl rfl) (eqv_int Try.underlying27) (eqf_last rfl (pt_one (v := .int .i64 x14) Try.underlying3 rfl rfl) (pt_one (v := .int .i64 x23) Try.underlying3 rfl rfl) (eqv_int Try.underlying3))))))) rfl ?_
      refine wq_nil ?_; intro w25 hw so; rw [← hw] at h; clear hw
      refine wk_prune [(0, .slice a0.a a0.n a0.c), (1, .slice a1.a a1.n a1.c), (5, .int .i64 s3), (25, .bool (!((x11 == x20) && ((x12 == x21) && ((x13 == x22) && (x14 == x23))))))] ⟨rfl, rfl, rfl, rfl, trivial⟩ (fun f1 => ?_)
      refine wk_then ?_
      refine wc_cond rfl h (fun h => ?_) (fun h => ?_)
      · refine wc_seq ?_
        refine wc_region ?_
        refine wl_val (at_assign rfl) rfl ?_
        refine wl_nil ?_
        refine wk_prune [(4, .bool false)] ⟨rfl, trivial⟩ (fun f1 => ?_)
        refine wk_then ?_
        refine wc_ret ?_
        refine wk_blkR ?_
        refine wk_thenR ?_
        refine wk_thenR ?_
        refine wk_blkR ?_
        refine wk_thenR ?_
        exact wk_ret1 (x := false) rfl (by decide) rfl so h
      · refine wc_skip ?_
        refine wk_blkN ?_
        refine wk_prune [(0, .slice a0.a a0.n a0.c), (1, .slice a1.a a1.n a1.c), (5, .int .i64 s3)] ⟨rfl, rfl, rfl, trivial⟩ (fun f1 => ?_)
        refine wk_then ?_
        refine wc_region ?_
        refine wl_val (at_move rfl) rfl ?_
        refine wl_val (at_add rfl rfl) rfl ?_
        refine wl_val (at_assign rfl) rfl ?_
        refine wl_nil ?_
        exact wk_again ⟨((IntKind.wrap .i64 (s3 + 1))), _, ac_again ⟨rfl, rfl, rfl, trivial⟩, so, h⟩
    · refine wc_exit ?_
      refine wk_thenE ?_
      refine wk_thenE ?_
      refine wk_blkE ?_
      refine wk_prune [] trivial (fun f1 => ?_)
      refine wk_then ?_
      refine wc_seq ?_
      refine wc_region ?_
      refine wl_val (at_assign rfl) rfl ?_
      refine wl_nil ?_
      refine wk_prune [(4, .bool true)] ⟨rfl, trivial⟩ (fun f1 => ?_)
      refine wk_then ?_
      refine wc_ret ?_
      exact wk_ret1 (x := true) rfl (by decide) rfl so h

/-- mosaic/mosaicref19.Pieces -/
def mosaicref19_Pieces.enc : Sl × Int × Int → Value := fun r => .tuple #[.slice r.1.a r.1.n r.1.c, .int .i64 r.2.1, .int .i64 r.2.2]
def mosaicref19_Pieces.s (a0 : ByteArray) (a1 : Int) (a2 : Int) (H0 : Hp) (Q : (Sl × Int × Int) → Hp → Prop) : Prop :=
  mosaicref19_All.s a0 a1 H0 (fun x1 H2 => if decide (a2 < (x1.n : Int)) = true then (Q (⟨none, 0, 0⟩, 0, 5) H2) else (0 ≤ (IntKind.wrap .i64 ((x1.n : Int) - 1)) ∧ (IntKind.wrap .i64 ((x1.n : Int) - 1)) < (x1.n : Int) ∧ someA x1.a (fun p5 => ldI .i64 H2 ((p5.add (Int.toNat (IntKind.wrap .i64 ((x1.n : Int) - 1)) * 4)).add 3) (fun x7 => Q (x1, x7, 0) H2))))
set_option maxRecDepth 20000 in
set_option maxHeartbeats 4000000 in
theorem mosaicref19_Pieces.calls (a0 : ByteArray) (a1 : Int) (a2 : Int) (w0 : World) (Q : (Sl × Int × Int) → Hp → Prop) (h : mosaicref19_Pieces.s a0 a1 a2 w0.heap Q) :
    Ca Try.prog 10 #[.string a0, .int .i64 a1, .int .i64 a2] w0 (Rt mosaicref19_Pieces.enc Q w0) := by
  refine ca_start (c := _) Try.func10 rfl Try.ntmps10 rfl ?_
  have so : Sm w0 w0 := Sm.refl w0
  unfold mosaicref19_Pieces.s at h
  refine wc_prune [(0, .string a0), (1, .int .i64 a1), (2, .int .i64 a2)] ⟨rfl, rfl, rfl, trivial⟩ (fun f1 => ?_)
  refine wc_seq ?_
  refine wc_region ?_
  refine wl_val (at_assign rfl) rfl ?_
  refine wl_val (at_assign rfl) rfl ?_
  refine wl_val (at_assign rfl) rfl ?_
  refine wl_nil ?_
  refine wk_prune [(0, .string a0), (1, .int .i64 a1), (2, .int .i64 a2)] ⟨rfl, rfl, rfl, trivial⟩ (fun f1 => ?_)
  refine wk_then ?_
  refine wc_seq ?_
  refine wc_region ?_
  refine wl_val (at_move rfl) rfl ?_
  refine wl_val (at_move rfl) rfl ?_
  refine wl_callF (mosaicref19_All.calls _ _ _ _ h) enter7 rfl trivial so ?_; intro x1 w2 h so
  refine wl_val (at_assign rfl) rfl ?_
  refine wl_nil ?_
  refine wk_prune [(2, .int .i64 a2), (9, .slice x1.a x1.n x1.c)] ⟨rfl, rfl, trivial⟩ (fun f1 => ?_)
  refine wk_then ?_
  refine wc_seq ?_
  refine wc_seq ?_
  refine wc_region ?_
  refine wl_val (at_move rfl) rfl ?_
  refine wl_val (at_lenL Try.underlying22 rfl) rfl ?_
  refine wl_val (at_move rfl) rfl ?_
  refine wl_val (at_gtr rfl rfl) rfl ?_
  refine wl_nil ?_
  refine wk_prune [(9, .slice x1.a x1.n x1.c), (16, .bool (decide (a2 < (x1.n : Int))))] ⟨rfl, rfl, trivial⟩ (fun f1 => ?_)
  refine wk_then ?_
  refine wc_cond rfl h (fun h => ?_) (fun h => ?_)
  · refine wc_seq ?_
    refine wc_region ?_
    refine wl_val (at_assign rfl) rfl ?_
    refine wl_val (at_assign rfl) rfl ?_
    refine wl_val (at_assign rfl) rfl ?_
    refine wl_nil ?_
    refine wk_prune [(6, .slice none 0 0), (7, .int .i64 0), (8, .int .i64 5)] ⟨rfl, rfl, rfl, trivial⟩ (fun f1 => ?_)
    refine wk_then ?_
    refine wc_ret ?_
    refine wk_thenR ?_
    exact wk_ret3 (x := (⟨none, 0, 0⟩, 0, 5)) rfl (by decide) (by decide) (by decide) rfl so h
  · refine wc_skip ?_
    refine wk_prune [(9, .slice x1.a x1.n x1.c)] ⟨rfl, trivial⟩ (fun f1 => ?_)
    refine wk_then ?_
    refine wc_seq ?_
    refine wc_draw mixed (by kernel_rfl) so ?_
    refine wq_val (at_move rfl) rfl ?_
    refine wq_val (at_move rfl) rfl ?_
    refine wq_val (at_move rfl) rfl ?_
    refine wq_val (at_lenL Try.underlying22 rfl) rfl ?_
    refine wq_val (at_sub rfl rfl) rfl ?_
    obtain ⟨q3, q4, p5, q6, h⟩ := h
    refine wq_val (at_ixAddrL Try.underlying22 sz29 (sl_some q6) rfl q3 q4) rfl ?_
    refine wq_val (at_fieldAddr Try.underlying29 rfl rfl sz3 (by decide) rfl) rfl ?_
    obtain ⟨x7, q8, h⟩ := h
    refine wq_val (at_load Try.underlying3 rfl rfl q8) rfl ?_
    refine wq_val (at_assign rfl) rfl ?_
    refine wq_val (at_assign rfl) rfl ?_
    refine wq_val (at_assign rfl) rfl ?_
    refine wq_nil ?_; intro w9 hw so; rw [← hw] at h; clear hw
    refine wk_prune [(6, .slice x1.a x1.n x1.c), (7, .int .i64 x7), (8, .int .i64 0)] ⟨rfl, rfl, rfl, trivial⟩ (fun f1 => ?_)
    refine wk_then ?_
    refine wc_ret ?_
    exact wk_ret3 (x := (x1, x7, 0)) rfl (by decide) (by decide) (by decide) rfl so h
end Go.Proofs.Ytdcjjoihlnjpnaa.G
