import Derived.Test.YtlonijlcddlhjaaGF
import Derived.Test.YtlonijlcddlhjaaKgeom
import Derived.Test.YtlonijlcddlhjaaKmosaiclaw14
namespace Go.Proofs.Ytlonijlcddlhjaa.G
open Go.RowKit
set_option linter.unusedVariables false
set_option linter.unusedSimpArgs false
/-- mosaic/mosaiclaw14.GeomSizes -/
def mosaiclaw14_GeomSizes.enc : Bool → Value := fun r => .bool r
def mosaiclaw14_GeomSizes.s (a0_0 : Int) (a0_1 : Int) (a0_2 : Int) (a0_3 : Sl) (a1 : Int) (H0 : Hp) (Q : Bool → Hp → Prop) : Prop :=
  Gn [] H0 (fun (b1 : Nat) (H2 : Hp) => mosaiclaw14_alive.s H2 (fun x3 H4 => Pv [b1] H2 H4 ∧ (geom_Most.s a0_0 a0_1 a0_2 a0_3 H4 (fun x6 H7 => Pv [b1] H4 H7 ∧ (geom_Samples.s a0_0 a0_1 a0_2 a0_3 a1 H7 (fun x9 H10 => Pv [b1] H7 H10 ∧ (geom_Blocks.s a0_0 a0_1 a0_2 a0_3 a1 H10 (fun x12 H13 => Pv [b1] H10 H13 ∧ (Join (fun (s16 : Bool) (H17 : Hp) => if s16 = true then (Join (fun (s19 : Bool) (H20 : Hp) => Join (fun (s22 : Bool) (H23 : Hp) => Q s22 H23) (fun (J21 : Bool → Hp → Prop) => if x3 = true then (if s19 = true then (if (x9.1 == 0) = true then (if (x9.2 == 0) = true then (if (x12.1 == 0) = true then (J21 ((x12.2 == 0)) H20) else (J21 (false) H20)) else (J21 (false) H20)) else (J21 (false) H20)) else (J21 (false) H20)) else (J21 (false) H20))) (fun (J18 : Bool → Hp → Prop) => geom_Check.s a0_0 a0_1 a0_2 a0_3 H17 (fun x24 H25 => if (x24 == 0) = true then (J18 (true) H25) else (if (x6.1 == 0) = true then (J18 ((x6.2 == 0)) H25) else (J18 (false) H25))))) else (0 ≤ a1 ∧ a1 < (a0_3.n : Int) ∧ someA a0_3.a (fun p28 => ∃ x30 : Int, ∃ x31 : Int, ∃ x32 : Int, ∃ x33 : Int, ldA H17 (p28.add (Int.toNat a1 * 4)) (c23 x30 x31 x32 x33) ∧ (Gn [] H17 (fun (b35 : Nat) (H37 : Hp) => Join (fun (s39 : Bool) (H40 : Hp) => Join (fun (s42 : Bool) (H43 : Hp) => Join (fun (s45 : Bool) (H46 : Hp) => if x3 = true then (if s39 = true then (if s42 = true then (if s45 = true then ((IntKind.wrap .i64 x31) ≠ 0 ∧ (if ((Int.tmod x6.1 (IntKind.wrap .i64 x31)) == 0) = true then ((IntKind.wrap .i64 x32) ≠ 0 ∧ (if ((Int.tmod x6.2 (IntKind.wrap .i64 x32)) == 0) = true then (if decide (x6.1 ≤ 4) = true then (Q (decide (x6.2 ≤ 4)) H46) else (Q false H46)) else (Q false H46))) else (Q false H46))) else (Q false H46)) else (Q false H46)) else (Q false H46)) else (Q false H46)) (fun (J44 : Bool → Hp → Prop) => if decide (x9.1 ≤ (IntKind.wrap .i64 ((8 : Int) * x12.1))) = true then (if decide ((IntKind.wrap .i64 ((8 : Int) * x12.1)) < (IntKind.wrap .i64 (x9.1 + 8))) = true then (if decide (x9.2 ≤ (IntKind.wrap .i64 ((8 : Int) * x12.2))) = true then (J44 ((decide ((IntKind.wrap .i64 ((8 : Int) * x12.2)) < (IntKind.wrap .i64 (x9.2 + 8))))) H43) else (J44 (false) H43)) else (J44 (false) H43)) else (J44 (false) H43))) (fun (J41 : Bool → Hp → Prop) => if decide ((IntKind.wrap .i64 (a0_2 * (IntKind.wrap .i64 x32))) ≤ (IntKind.wrap .i64 (x9.2 * x6.2))) = true then (J41 ((decide ((IntKind.wrap .i64 ((IntKind.wrap .i64 (x9.2 - 1)) * x6.2)) < (IntKind.wrap .i64 (a0_2 * (IntKind.wrap .i64 x32)))))) H40) else (J41 (false) H40))) (fun (J38 : Bool → Hp → Prop) => if decide ((IntKind.wrap .i64 (a0_1 * (IntKind.wrap .i64 x31))) ≤ (IntKind.wrap .i64 (x9.1 * x6.1))) = true then (J38 ((decide ((IntKind.wrap .i64 ((IntKind.wrap .i64 (x9.1 - 1)) * x6.1)) < (IntKind.wrap .i64 (a0_1 * (IntKind.wrap .i64 x31)))))) H37) else (J38 (false) H37))))))) (fun (J15 : Bool → Hp → Prop) => geom_Check.s a0_0 a0_1 a0_2 a0_3 H13 (fun x49 H50 => Pv [b1] H13 H50 ∧ (if (x49 != 0) = true then (J15 (true) H50) else (if decide (a1 < 0) = true then (J15 (true) H50) else (J15 ((decide ((a0_3.n : Int) ≤ a1))) H50))))))))))))))
set_option maxRecDepth 20000 in
set_option maxHeartbeats 4000000 in
theorem mosaiclaw14_GeomSizes.calls (a0_0 : Int) (a0_1 : Int) (a0_2 : Int) (a0_3 : Sl) (a1 : Int) (w0 : World) (Q : Bool → Hp → Prop) (h : mosaiclaw14_GeomSizes.s a0_0 a0_1 a0_2 a0_3 a1 w0.heap Q) :
    Ca Try.prog 7 #[.agg (c26 a0_0 a0_1 a0_2 a0_3).toArray, .int .i64 a1] w0 (Rt mosaiclaw14_GeomSizes.enc Q w0) := by
  refine ca_start (c := _) Try.func7 rfl Try.ntmps7 rfl ?_
  have so : Sm w0 w0 := Sm.refl w0
  unfold mosaiclaw14_GeomSizes.s at h
  refine wc_prune [(0, .agg (c26 a0_0 a0_1 a0_2 a0_3).toArray), (1, .int .i64 a1)] ⟨rfl, rfl, trivial⟩ (fun f1 => ?_)
  refine wc_seq ?_
  refine wc_region ?_
  refine wl_newT (T := 26) (cs := (c26 a0_0 a0_1 a0_2 a0_3)) (ef_box rfl rfl) rfl so ?_; intro b1 w2 hb_b1 t_b1 k_b1 so
  have g_b1 := Nat.le_of_eq hb_b1.symm
  have hc := k_b1.ch (F := [])
  refine wl_val (at_assign rfl) rfl ?_
  refine wl_nil ?_
  refine wk_prune [(1, .int .i64 a1), (2, .pointer (some (⟨b1, 0, none⟩ : Addr)))] ⟨rfl, rfl, trivial⟩ (fun f1 => ?_)
  refine wk_then ?_
  refine wc_seq ?_
  refine wc_region ?_
  replace h := h b1 _ hc g_b1 t_b1.lt; clear hc
  refine wl_callF (mosaiclaw14_alive.calls _ _ h) enter28 rfl trivial so ?_; intro x3 w4 h so
  obtain ⟨q5, h⟩ := h
  replace t_b1 := pv_bk q5 t_b1 (by simp)
  refine wl_val (at_assign rfl) rfl ?_
  refine wl_nil ?_
  refine wk_prune [(1, .int .i64 a1), (2, .pointer (some (⟨b1, 0, none⟩ : Addr))), (5, .bool x3)] ⟨rfl, rfl, rfl, trivial⟩ (fun f1 => ?_)
  refine wk_then ?_
  refine wc_seq ?_
  refine wc_region ?_
  refine wl_val (at_loadA (cs := (c26 a0_0 a0_1 a0_2 a0_3)) Try.underlying26 rfl (by rw [len26]; exact sz26) rfl (ldA_full t_b1)) rfl ?_
  refine wl_callF (geom_Most.calls _ _ _ _ _ _ h) enter15 rfl trivial so ?_; intro x6 w7 h so
  obtain ⟨q8, h⟩ := h
  replace t_b1 := pv_bk q8 t_b1 (by simp)
  refine wl_val (at_move rfl) rfl ?_
  refine wl_val (at_extract rfl rfl) rfl ?_
  refine wl_val (at_extract rfl rfl) rfl ?_
  refine wl_val (at_assign rfl) rfl ?_
  refine wl_val (at_assign rfl) rfl ?_
  refine wl_nil ?_
  refine wk_prune [(1, .int .i64 a1), (2, .pointer (some (⟨b1, 0, none⟩ : Addr))), (5, .bool x3), (6, .int .i64 x6.1), (7, .int .i64 x6.2)] ⟨rfl, rfl, rfl, rfl, rfl, trivial⟩ (fun f1 => ?_)
  refine wk_then ?_
  refine wc_seq ?_
  refine wc_region ?_
  refine wl_val (at_loadA (cs := (c26 a0_0 a0_1 a0_2 a0_3)) Try.underlying26 rfl (by rw [len26]; exact sz26) rfl (ldA_full t_b1)) rfl ?_
  refine wl_val (at_move rfl) rfl ?_
  refine wl_callF (geom_Samples.calls _ _ _ _ _ _ _ h) enter17 rfl trivial so ?_; intro x9 w10 h so
  obtain ⟨q11, h⟩ := h
  replace t_b1 := pv_bk q11 t_b1 (by simp)
  refine wl_val (at_move rfl) rfl ?_
  refine wl_val (at_extract rfl rfl) rfl ?_
  refine wl_val (at_extract rfl rfl) rfl ?_
  refine wl_val (at_assign rfl) rfl ?_
  refine wl_val (at_assign rfl) rfl ?_
  refine wl_nil ?_
  refine wk_prune [(1, .int .i64 a1), (2, .pointer (some (⟨b1, 0, none⟩ : Addr))), (5, .bool x3), (6, .int .i64 x6.1), (7, .int .i64 x6.2), (8, .int .i64 x9.1), (9, .int .i64 x9.2)] ⟨rfl, rfl, rfl, rfl, rfl, rfl, rfl, trivial⟩ (fun f1 => ?_)
  refine wk_then ?_
  refine wc_seq ?_
  refine wc_region ?_
  refine wl_val (at_loadA (cs := (c26 a0_0 a0_1 a0_2 a0_3)) Try.underlying26 rfl (by rw [len26]; exact sz26) rfl (ldA_full t_b1)) rfl ?_
  refine wl_val (at_move rfl) rfl ?_
  refine wl_callF (geom_Blocks.calls _ _ _ _ _ _ _ h) enter9 rfl trivial so ?_; intro x12 w13 h so
  obtain ⟨q14, h⟩ := h
  replace t_b1 := pv_bk q14 t_b1 (by simp)
  refine wl_val (at_move rfl) rfl ?_
  refine wl_val (at_extract rfl rfl) rfl ?_
  refine wl_val (at_extract rfl rfl) rfl ?_
  refine wl_val (at_assign rfl) rfl ?_
  refine wl_val (at_assign rfl) rfl ?_
  refine wl_nil ?_
  refine wk_prune [(1, .int .i64 a1), (2, .pointer (some (⟨b1, 0, none⟩ : Addr))), (5, .bool x3), (6, .int .i64 x6.1), (7, .int .i64 x6.2), (8, .int .i64 x9.1), (9, .int .i64 x9.2), (10, .int .i64 x12.1), (11, .int .i64 x12.2)] ⟨rfl, rfl, rfl, rfl, rfl, rfl, rfl, rfl, rfl, trivial⟩ (fun f1 => ?_)
  refine wk_then ?_
  refine wc_seq ?_
  refine wc_seq ?_
  refine wc_joinG (w0 := w0) (fun (H : Hp) => Bk H b1 26 (c26 a0_0 a0_1 a0_2 a0_3) ∧ True) (fun (s16 : Bool) => [(1, .int .i64 a1), (2, .pointer (some (⟨b1, 0, none⟩ : Addr))), (5, .bool x3), (6, .int .i64 x6.1), (7, .int .i64 x6.2), (8, .int .i64 x9.1), (9, .int .i64 x9.2), (10, .int .i64 x12.1), (11, .int .i64 x12.2), (48, .bool s16)]) (fun (s16 : Bool) => []) h ?_ ?_
  · rintro s16 w17 f1 h ⟨t_b1, _⟩ so; refine wk_then ?_
    refine wc_cond rfl h (fun h => ?_) (fun h => ?_)
    · refine wc_seq ?_
      refine wc_join (w0 := w0) (fun (s19 : Bool) => [(5, .bool x3), (8, .int .i64 x9.1), (9, .int .i64 x9.2), (10, .int .i64 x12.1), (11, .int .i64 x12.2), (12, .bool s19)]) h ?_ ?_
      · rintro s19 w20 f1 h so; refine wk_then ?_
        refine wc_seq ?_
        refine wc_join (w0 := w0) (fun (s22 : Bool) => [(4, .bool s22)]) h ?_ ?_
        · rintro s22 w23 f1 h so; refine wk_then ?_
          refine wc_ret ?_
          refine wk_thenR ?_
          exact wk_ret1 (x := s22) rfl (by decide) rfl so h
        · intro J21 h hJ21
          refine wc_region ?_
          refine wl_val (at_move rfl) rfl ?_
          refine wl_val (at_move rfl) rfl ?_
          refine bif_ h (fun hb h => ?_) (fun hb h => ?_)
          · refine wl_set (t := 61) (v := .bool true) (congrArg Value.bool hb) ?_; clear hb
            refine wl_on (t := 61) rfl (by decide) rfl ?_
            refine wl_val (at_move rfl) rfl ?_
            refine wl_val (at_pick_t rfl rfl) rfl ?_
            refine wl_val (at_move rfl) rfl ?_
            refine bif_ h (fun hb h => ?_) (fun hb h => ?_)
            · refine wl_set (t := 64) (v := .bool true) (congrArg Value.bool hb) ?_; clear hb
              refine wl_on (t := 64) rfl (by decide) rfl ?_
              refine wl_val (at_move rfl) rfl ?_
              refine wl_on (t := 64) rfl (by decide) rfl ?_
              refine wl_val (at_eql rfl rfl) rfl ?_
              refine wl_val (at_pick_t rfl rfl) rfl ?_
              refine wl_val (at_move rfl) rfl ?_
              refine bif_ h (fun hb h => ?_) (fun hb h => ?_)
              · refine wl_set (t := 68) (v := .bool true) (congrArg Value.bool hb) ?_; clear hb
                refine wl_on (t := 68) rfl (by decide) rfl ?_
                refine wl_val (at_move rfl) rfl ?_
                refine wl_on (t := 68) rfl (by decide) rfl ?_
                refine wl_val (at_eql rfl rfl) rfl ?_
                refine wl_val (at_pick_t rfl rfl) rfl ?_
                refine wl_val (at_move rfl) rfl ?_
                refine bif_ h (fun hb h => ?_) (fun hb h => ?_)
                · refine wl_set (t := 72) (v := .bool true) (congrArg Value.bool hb) ?_; clear hb
                  refine wl_on (t := 72) rfl (by decide) rfl ?_
                  refine wl_val (at_move rfl) rfl ?_
                  refine wl_on (t := 72) rfl (by decide) rfl ?_
                  refine wl_val (at_eql rfl rfl) rfl ?_
                  refine wl_val (at_pick_t rfl rfl) rfl ?_
                  refine wl_val (at_move rfl) rfl ?_
                  refine bif_ h (fun hb h => ?_) (fun hb h => ?_)
                  · refine wl_set (t := 76) (v := .bool true) (congrArg Value.bool hb) ?_; clear hb
                    refine wl_on (t := 76) rfl (by decide) rfl ?_
                    refine wl_val (at_move rfl) rfl ?_
                    refine wl_on (t := 76) rfl (by decide) rfl ?_
                    refine wl_val (at_eql rfl rfl) rfl ?_
                    refine wl_val (at_pick_t rfl rfl) rfl ?_
                    refine wl_val (at_assign rfl) rfl ?_
                    refine wl_nil ?_
                    exact wk_prune [(4, .bool (x12.2 == 0))] ⟨rfl, trivial⟩ (fun f1 => hJ21 ((x12.2 == 0)) _ f1 h so)
                  · refine wl_set (t := 76) (v := .bool false) (congrArg Value.bool hb) ?_; clear hb
                    refine wl_off (t := 76) rfl (by decide) rfl ?_
                    refine wl_off (t := 76) rfl (by decide) rfl ?_
                    refine wl_val (at_pick_f rfl rfl) rfl ?_
                    refine wl_val (at_assign rfl) rfl ?_
                    refine wl_nil ?_
                    exact wk_prune [(4, .bool false)] ⟨rfl, trivial⟩ (fun f1 => hJ21 (false) _ f1 h so)
                · refine wl_set (t := 72) (v := .bool false) (congrArg Value.bool hb) ?_; clear hb
                  refine wl_off (t := 72) rfl (by decide) rfl ?_
                  refine wl_off (t := 72) rfl (by decide) rfl ?_
                  refine wl_val (at_pick_f rfl rfl) rfl ?_
                  refine wl_val (at_move rfl) rfl ?_
                  refine wl_off (t := 76) rfl (by decide) rfl ?_
                  refine wl_off (t := 76) rfl (by decide) rfl ?_
                  refine wl_val (at_pick_f rfl rfl) rfl ?_
                  refine wl_val (at_assign rfl) rfl ?_
                  refine wl_nil ?_
                  exact wk_prune [(4, .bool false)] ⟨rfl, trivial⟩ (fun f1 => hJ21 (false) _ f1 h so)
              · refine wl_set (t := 68) (v := .bool false) (congrArg Value.bool hb) ?_; clear hb
                refine wl_off (t := 68) rfl (by decide) rfl ?_
                refine wl_off (t := 68) rfl (by decide) rfl ?_
                refine wl_val (at_pick_f rfl rfl) rfl ?_
                refine wl_val (at_move rfl) rfl ?_
                refine wl_off (t := 72) rfl (by decide) rfl ?_
                refine wl_off (t := 72) rfl (by decide) rfl ?_
                refine wl_val (at_pick_f rfl rfl) rfl ?_
                refine wl_val (at_move rfl) rfl ?_
                refine wl_off (t := 76) rfl (by decide) rfl ?_
                refine wl_off (t := 76) rfl (by decide) rfl ?_
                refine wl_val (at_pick_f rfl rfl) rfl ?_
                refine wl_val (at_assign rfl) rfl ?_
                refine wl_nil ?_
                exact wk_prune [(4, .bool false)] ⟨rfl, trivial⟩ (fun f1 => hJ21 (false) _ f1 h so)
            · refine wl_set (t := 64) (v := .bool false) (congrArg Value.bool hb) ?_; clear hb
              refine wl_off (t := 64) rfl (by decide) rfl ?_
              refine wl_off (t := 64) rfl (by decide) rfl ?_
              refine wl_val (at_pick_f rfl rfl) rfl ?_
              refine wl_val (at_move rfl) rfl ?_
              refine wl_off (t := 68) rfl (by decide) rfl ?_
              refine wl_off (t := 68) rfl (by decide) rfl ?_
              refine wl_val (at_pick_f rfl rfl) rfl ?_
              refine wl_val (at_move rfl) rfl ?_
              refine wl_off (t := 72) rfl (by decide) rfl ?_
              refine wl_off (t := 72) rfl (by decide) rfl ?_
              refine wl_val (at_pick_f rfl rfl) rfl ?_
              refine wl_val (at_move rfl) rfl ?_
              refine wl_off (t := 76) rfl (by decide) rfl ?_
              refine wl_off (t := 76) rfl (by decide) rfl ?_
              refine wl_val (at_pick_f rfl rfl) rfl ?_
              refine wl_val (at_assign rfl) rfl ?_
              refine wl_nil ?_
              exact wk_prune [(4, .bool false)] ⟨rfl, trivial⟩ (fun f1 => hJ21 (false) _ f1 h so)
          · refine wl_set (t := 61) (v := .bool false) (congrArg Value.bool hb) ?_; clear hb
            refine wl_off (t := 61) rfl (by decide) rfl ?_
            refine wl_val (at_pick_f rfl rfl) rfl ?_
            refine wl_val (at_move rfl) rfl ?_
            refine wl_off (t := 64) rfl (by decide) rfl ?_
            refine wl_off (t := 64) rfl (by decide) rfl ?_
            refine wl_val (at_pick_f rfl rfl) rfl ?_
            refine wl_val (at_move rfl) rfl ?_
            refine wl_off (t := 68) rfl (by decide) rfl ?_
            refine wl_off (t := 68) rfl (by decide) rfl ?_
            refine wl_val (at_pick_f rfl rfl) rfl ?_
            refine wl_val (at_move rfl) rfl ?_
            refine wl_off (t := 72) rfl (by decide) rfl ?_
            refine wl_off (t := 72) rfl (by decide) rfl ?_
            refine wl_val (at_pick_f rfl rfl) rfl ?_
            refine wl_val (at_move rfl) rfl ?_
            refine wl_off (t := 76) rfl (by decide) rfl ?_
            refine wl_off (t := 76) rfl (by decide) rfl ?_
            refine wl_val (at_pick_f rfl rfl) rfl ?_
            refine wl_val (at_assign rfl) rfl ?_
            refine wl_nil ?_
            exact wk_prune [(4, .bool false)] ⟨rfl, trivial⟩ (fun f1 => hJ21 (false) _ f1 h so)
      · intro J18 h hJ18
        refine wc_region ?_
        refine wl_val (at_loadA (cs := (c26 a0_0 a0_1 a0_2 a0_3)) Try.underlying26 rfl (by rw [len26]; exact sz26) rfl (ldA_full t_b1)) rfl ?_
        refine wl_callF (geom_Check.calls _ _ _ _ _ _ h) enter10 rfl trivial so ?_; intro x24 w25 h so
        refine wl_val (at_eql rfl rfl) rfl ?_
        refine wl_val (at_move rfl) rfl ?_
        refine bif_ h (fun hb h => ?_) (fun hb h => ?_)
        · refine wl_set (t := 52) (v := .bool true) (congrArg Value.bool hb) ?_; clear hb
          refine wl_off (t := 52) rfl (by decide) rfl ?_
          refine wl_off (t := 52) rfl (by decide) rfl ?_
          refine wl_off (t := 52) rfl (by decide) rfl ?_
          refine wl_off' (t := 55) rfl (by decide) rfl ?_
          refine wl_off' (t := 55) rfl (by decide) rfl ?_
          refine wl_off (t := 52) rfl (by decide) rfl ?_
          refine wl_val (at_pick_t rfl rfl) rfl ?_
          refine wl_val (at_assign rfl) rfl ?_
          refine wl_nil ?_
          exact wk_prune [(5, .bool x3), (8, .int .i64 x9.1), (9, .int .i64 x9.2), (10, .int .i64 x12.1), (11, .int .i64 x12.2), (12, .bool true)] ⟨rfl, rfl, rfl, rfl, rfl, rfl, trivial⟩ (fun f1 => hJ18 (true) _ f1 h so)
        · refine wl_set (t := 52) (v := .bool false) (congrArg Value.bool hb) ?_; clear hb
          refine wl_on (t := 52) rfl (by decide) rfl ?_
          refine wl_val (at_move rfl) rfl ?_
          refine wl_on (t := 52) rfl (by decide) rfl ?_
          refine wl_val (at_eql rfl rfl) rfl ?_
          refine wl_on (t := 52) rfl (by decide) rfl ?_
          refine wl_val (at_move rfl) rfl ?_
          refine bif_ h (fun hb h => ?_) (fun hb h => ?_)
          · refine wl_set (t := 55) (v := .bool true) (congrArg Value.bool hb) ?_; clear hb
            refine wl_on (t := 55) rfl (by decide) rfl ?_
            refine wl_val (at_move rfl) rfl ?_
            refine wl_on (t := 55) rfl (by decide) rfl ?_
            refine wl_val (at_eql rfl rfl) rfl ?_
            refine wl_on (t := 52) rfl (by decide) rfl ?_
            refine wl_val (at_pick_t rfl rfl) rfl ?_
            refine wl_val (at_pick_f rfl rfl) rfl ?_
            refine wl_val (at_assign rfl) rfl ?_
            refine wl_nil ?_
            exact wk_prune [(5, .bool x3), (8, .int .i64 x9.1), (9, .int .i64 x9.2), (10, .int .i64 x12.1), (11, .int .i64 x12.2), (12, .bool (x6.2 == 0))] ⟨rfl, rfl, rfl, rfl, rfl, rfl, trivial⟩ (fun f1 => hJ18 ((x6.2 == 0)) _ f1 h so)
          · refine wl_set (t := 55) (v := .bool false) (congrArg Value.bool hb) ?_; clear hb
            refine wl_off (t := 55) rfl (by decide) rfl ?_
            refine wl_off (t := 55) rfl (by decide) rfl ?_
            refine wl_on (t := 52) rfl (by decide) rfl ?_
            refine wl_val (at_pick_f rfl rfl) rfl ?_
            refine wl_val (at_pick_f rfl rfl) rfl ?_
            refine wl_val (at_assign rfl) rfl ?_
            refine wl_nil ?_
            exact wk_prune [(5, .bool x3), (8, .int .i64 x9.1), (9, .int .i64 x9.2), (10, .int .i64 x12.1), (11, .int .i64 x12.2), (12, .bool false)] ⟨rfl, rfl, rfl, rfl, rfl, rfl, trivial⟩ (fun f1 => hJ18 (false) _ f1 h so)
    · refine wc_skip ?_
      refine wk_prune [(1, .int .i64 a1), (2, .pointer (some (⟨b1, 0, none⟩ : Addr))), (5, .bool x3), (6, .int .i64 x6.1), (7, .int .i64 x6.2), (8, .int .i64 x9.1), (9, .int .i64 x9.2), (10, .int .i64 x12.1), (11, .int .i64 x12.2)] ⟨rfl, rfl, rfl, rfl, rfl, rfl, rfl, rfl, rfl, trivial⟩ (fun f1 => ?_)
      refine wk_then ?_
      refine wc_seq ?_
      refine wc_region ?_
      refine wl_val (at_fieldAddr Try.underlying26 rfl rfl sz24 (by decide) rfl) rfl ?_
      refine wl_val (at_load (v := .slice a0_3.a a0_3.n a0_3.c) Try.underlying24 rfl rfl ((t_b1.cell 3).trans (by first | rfl | simp [List.getElem?_append, ints_len, bools_len]))) rfl ?_
      refine wl_val (at_move rfl) rfl ?_
      obtain ⟨q26, q27, p28, q29, h⟩ := h
      refine wl_val (at_ixAddrL Try.underlying24 sz23 (sl_some q29) rfl q26 q27) rfl ?_
      obtain ⟨x30, x31, x32, x33, q34, h⟩ := h
      refine wl_val (at_loadA (cs := (c23 x30 x31 x32 x33)) Try.underlying23 rfl (by rw [len23]; exact sz23) rfl q34) rfl ?_
      refine wl_newT (T := 23) (cs := (c23 0 0 0 0)) (ef_alloc zero23 rfl) rfl so ?_; intro b35 w36 hb_b35 t_b35 k_b35 so
      have g_b35 := Nat.le_of_eq hb_b35.symm
      have hc := k_b35.ch (F := [])
      have n_b1_b35 : b1 ≠ b35 := fun e => by have := t_b1.lt; omega
      replace t_b1 := t_b1.keep k_b35
      refine wl_stWT (vs := (c23 x30 x31 x32 x33)) t_b35 (by first | (rw [len23, len23]) | (rw [len23]) | rfl) rfl so (fun q => ef_storeA (p := (⟨b35, 0, none⟩ : Addr)) (cs := (c23 x30 x31 x32 x33)) (by rw [len23]; exact sz23) rfl rfl (one23 _ _ _ _) q) ?_; intro w37 t_b35 s_w37 so
      replace t_b1 := t_b1.same s_w37 (n_b1_b35)
      replace hc := ch_same hc s_w37 (.inr g_b35)
      refine wl_nil ?_
      refine wk_prune [(2, .pointer (some (⟨b1, 0, none⟩ : Addr))), (5, .bool x3), (6, .int .i64 x6.1), (7, .int .i64 x6.2), (8, .int .i64 x9.1), (9, .int .i64 x9.2), (10, .int .i64 x12.1), (11, .int .i64 x12.2), (13, .pointer (some (⟨b35, 0, none⟩ : Addr)))] ⟨rfl, rfl, rfl, rfl, rfl, rfl, rfl, rfl, rfl, trivial⟩ (fun f1 => ?_)
      refine wk_then ?_
      replace h := h b35 _ hc g_b35 t_b35.lt; clear hc
      refine wc_seq ?_
      refine wc_joinG (w0 := w0) (fun (H : Hp) => Bk H b1 26 (c26 a0_0 a0_1 a0_2 a0_3) ∧ Bk H b35 23 (c23 x30 x31 x32 x33) ∧ True) (fun (s39 : Bool) => [(2, .pointer (some (⟨b1, 0, none⟩ : Addr))), (5, .bool x3), (6, .int .i64 x6.1), (7, .int .i64 x6.2), (8, .int .i64 x9.1), (9, .int .i64 x9.2), (10, .int .i64 x12.1), (11, .int .i64 x12.2), (13, .pointer (some (⟨b35, 0, none⟩ : Addr))), (14, .bool s39)]) (fun (s39 : Bool) => []) h ?_ ?_
      · rintro s39 w40 f1 h ⟨t_b1, t_b35, _⟩ so; refine wk_then ?_
        refine wc_seq ?_
        refine wc_joinG (w0 := w0) (fun (H : Hp) => Bk H b35 23 (c23 x30 x31 x32 x33) ∧ True) (fun (s42 : Bool) => [(5, .bool x3), (6, .int .i64 x6.1), (7, .int .i64 x6.2), (8, .int .i64 x9.1), (9, .int .i64 x9.2), (10, .int .i64 x12.1), (11, .int .i64 x12.2), (13, .pointer (some (⟨b35, 0, none⟩ : Addr))), (14, .bool s39), (15, .bool s42)]) (fun (s42 : Bool) => []) h ?_ ?_
        · rintro s42 w43 f1 h ⟨t_b35, _⟩ so; refine wk_then ?_
          refine wc_seq ?_
          refine wc_joinG (w0 := w0) (fun (H : Hp) => Bk H b35 23 (c23 x30 x31 x32 x33) ∧ True) (fun (s45 : Bool) => [(5, .bool x3), (6, .int .i64 x6.1), (7, .int .i64 x6.2), (13, .pointer (some (⟨b35, 0, none⟩ : Addr))), (14, .bool s39), (15, .bool s42), (16, .bool s45)]) (fun (s45 : Bool) => []) h ?_ ?_
          · rintro s45 w46 f1 h ⟨t_b35, _⟩ so; refine wk_then ?_
            refine wc_seq ?_
            refine wc_region ?_
            refine wl_val (at_move rfl) rfl ?_
            refine wl_val (at_move rfl) rfl ?_
            refine bif_ h (fun hb h => ?_) (fun hb h => ?_)
            · refine wl_set (t := 156) (v := .bool true) (congrArg Value.bool hb) ?_; clear hb
              refine wl_on (t := 156) rfl (by decide) rfl ?_
              refine wl_val (at_move rfl) rfl ?_
              refine wl_val (at_pick_t rfl rfl) rfl ?_
              refine wl_val (at_move rfl) rfl ?_
              refine bif_ h (fun hb h => ?_) (fun hb h => ?_)
              · refine wl_set (t := 159) (v := .bool true) (congrArg Value.bool hb) ?_; clear hb
                refine wl_on (t := 159) rfl (by decide) rfl ?_
                refine wl_val (at_move rfl) rfl ?_
                refine wl_val (at_pick_t rfl rfl) rfl ?_
                refine wl_val (at_move rfl) rfl ?_
                refine bif_ h (fun hb h => ?_) (fun hb h => ?_)
                · refine wl_set (t := 162) (v := .bool true) (congrArg Value.bool hb) ?_; clear hb
                  refine wl_on (t := 162) rfl (by decide) rfl ?_
                  refine wl_val (at_move rfl) rfl ?_
                  refine wl_val (at_pick_t rfl rfl) rfl ?_
                  refine wl_val (at_move rfl) rfl ?_
                  refine bif_ h (fun hb h => ?_) (fun hb h => ?_)
                  · refine wl_set (t := 165) (v := .bool true) (congrArg Value.bool hb) ?_; clear hb
                    refine wl_on (t := 165) rfl (by decide) rfl ?_
                    refine wl_val (at_move rfl) rfl ?_
                    refine wl_on (t := 165) rfl (by decide) rfl ?_
                    refine wl_val (at_fieldAddr Try.underlying23 rfl rfl sz5 (by decide) rfl) rfl ?_
                    refine wl_on (t := 165) rfl (by decide) rfl ?_
                    refine wl_val (at_load (v := .int .u8 x31) Try.underlying5 rfl rfl ((t_b35.cell 1).trans (by first | rfl | simp [List.getElem?_append, ints_len, bools_len]))) rfl ?_
                    refine wl_on (t := 165) rfl (by decide) rfl ?_
                    refine wl_val (at_conv Try.underlying5 Try.underlying3 rfl) rfl ?_
                    refine wl_on (t := 165) rfl (by decide) rfl ?_
                    obtain ⟨q47, h⟩ := h
                    refine wl_val (at_rem rfl rfl q47) rfl ?_
                    refine wl_on (t := 165) rfl (by decide) rfl ?_
                    refine wl_val (at_eql rfl rfl) rfl ?_
                    refine wl_val (at_pick_t rfl rfl) rfl ?_
                    refine wl_val (at_move rfl) rfl ?_
                    refine bif_ h (fun hb h => ?_) (fun hb h => ?_)
                    · refine wl_set (t := 173) (v := .bool true) (congrArg Value.bool hb) ?_; clear hb
                      refine wl_on (t := 173) rfl (by decide) rfl ?_
                      refine wl_val (at_move rfl) rfl ?_
                      refine wl_on (t := 173) rfl (by decide) rfl ?_
                      refine wl_val (at_fieldAddr Try.underlying23 rfl rfl sz5 (by decide) rfl) rfl ?_
                      refine wl_on (t := 173) rfl (by decide) rfl ?_
                      refine wl_val (at_load (v := .int .u8 x32) Try.underlying5 rfl rfl ((t_b35.cell 2).trans (by first | rfl | simp [List.getElem?_append, ints_len, bools_len]))) rfl ?_
                      refine wl_on (t := 173) rfl (by decide) rfl ?_
                      refine wl_val (at_conv Try.underlying5 Try.underlying3 rfl) rfl ?_
                      refine wl_on (t := 173) rfl (by decide) rfl ?_
                      obtain ⟨q48, h⟩ := h
                      refine wl_val (at_rem rfl rfl q48) rfl ?_
                      refine wl_on (t := 173) rfl (by decide) rfl ?_
                      refine wl_val (at_eql rfl rfl) rfl ?_
                      refine wl_val (at_pick_t rfl rfl) rfl ?_
                      refine wl_val (at_move rfl) rfl ?_
                      refine bif_ h (fun hb h => ?_) (fun hb h => ?_)
                      · refine wl_set (t := 181) (v := .bool true) (congrArg Value.bool hb) ?_; clear hb
                        refine wl_on (t := 181) rfl (by decide) rfl ?_
                        refine wl_val (at_move rfl) rfl ?_
                        refine wl_on (t := 181) rfl (by decide) rfl ?_
                        refine wl_val (at_leq rfl rfl) rfl ?_
                        refine wl_val (at_pick_t rfl rfl) rfl ?_
                        refine wl_val (at_move rfl) rfl ?_
                        refine bif_ h (fun hb h => ?_) (fun hb h => ?_)
                        · refine wl_set (t := 185) (v := .bool true) (congrArg Value.bool hb) ?_; clear hb
                          refine wl_on (t := 185) rfl (by decide) rfl ?_
                          refine wl_val (at_move rfl) rfl ?_
                          refine wl_on (t := 185) rfl (by decide) rfl ?_
                          refine wl_val (at_leq rfl rfl) rfl ?_
                          refine wl_val (at_pick_t rfl rfl) rfl ?_
                          refine wl_val (at_assign rfl) rfl ?_
                          refine wl_nil ?_
                          refine wk_prune [(4, .bool (decide (x6.2 ≤ 4)))] ⟨rfl, trivial⟩ (fun f1 => ?_)
                          refine wk_then ?_
                          refine wc_ret ?_
                          exact wk_ret1 (x := (decide (x6.2 ≤ 4))) rfl (by decide) rfl so h
                        · refine wl_set (t := 185) (v := .bool false) (congrArg Value.bool hb) ?_; clear hb
                          refine wl_off (t := 185) rfl (by decide) rfl ?_
                          refine wl_off (t := 185) rfl (by decide) rfl ?_
                          refine wl_val (at_pick_f rfl rfl) rfl ?_
                          refine wl_val (at_assign rfl) rfl ?_
                          refine wl_nil ?_
                          refine wk_prune [(4, .bool false)] ⟨rfl, trivial⟩ (fun f1 => ?_)
                          refine wk_then ?_
                          refine wc_ret ?_
                          exact wk_ret1 (x := false) rfl (by decide) rfl so h
                      · refine wl_set (t := 181) (v := .bool false) (congrArg Value.bool hb) ?_; clear hb
                        refine wl_off (t := 181) rfl (by decide) rfl ?_
                        refine wl_off (t := 181) rfl (by decide) rfl ?_
                        refine wl_val (at_pick_f rfl rfl) rfl ?_
                        refine wl_val (at_move rfl) rfl ?_
                        refine wl_off (t := 185) rfl (by decide) rfl ?_
                        refine wl_off (t := 185) rfl (by decide) rfl ?_
                        refine wl_val (at_pick_f rfl rfl) rfl ?_
                        refine wl_val (at_assign rfl) rfl ?_
                        refine wl_nil ?_
                        refine wk_prune [(4, .bool false)] ⟨rfl, trivial⟩ (fun f1 => ?_)
                        refine wk_then ?_
                        refine wc_ret ?_
                        exact wk_ret1 (x := false) rfl (by decide) rfl so h
                    · refine wl_set (t := 173) (v := .bool false) (congrArg Value.bool hb) ?_; clear hb
                      refine wl_off (t := 173) rfl (by decide) rfl ?_
                      refine wl_off (t := 173) rfl (by decide) rfl ?_
                      refine wl_off (t := 173) rfl (by decide) rfl ?_
                      refine wl_off (t := 173) rfl (by decide) rfl ?_
                      refine wl_off (t := 173) rfl (by decide) rfl ?_
                      refine wl_off (t := 173) rfl (by decide) rfl ?_
                      refine wl_val (at_pick_f rfl rfl) rfl ?_
                      refine wl_val (at_move rfl) rfl ?_
                      refine wl_off (t := 181) rfl (by decide) rfl ?_
                      refine wl_off (t := 181) rfl (by decide) rfl ?_
                      refine wl_val (at_pick_f rfl rfl) rfl ?_
                      refine wl_val (at_move rfl) rfl ?_
                      refine wl_off (t := 185) rfl (by decide) rfl ?_
                      refine wl_off (t := 185) rfl (by decide) rfl ?_
                      refine wl_val (at_pick_f rfl rfl) rfl ?_
                      refine wl_val (at_assign rfl) rfl ?_
                      refine wl_nil ?_
                      refine wk_prune [(4, .bool false)] ⟨rfl, trivial⟩ (fun f1 => ?_)
                      refine wk_then ?_
                      refine wc_ret ?_
                      exact wk_ret1 (x := false) rfl (by decide) rfl so h
                  · refine wl_set (t := 165) (v := .bool false) (congrArg Value.bool hb) ?_; clear hb
                    refine wl_off (t := 165) rfl (by decide) rfl ?_
                    refine wl_off (t := 165) rfl (by decide) rfl ?_
                    refine wl_off (t := 165) rfl (by decide) rfl ?_
                    refine wl_off (t := 165) rfl (by decide) rfl ?_
                    refine wl_off (t := 165) rfl (by decide) rfl ?_
                    refine wl_off (t := 165) rfl (by decide) rfl ?_
                    refine wl_val (at_pick_f rfl rfl) rfl ?_
                    refine wl_val (at_move rfl) rfl ?_
                    refine wl_off (t := 173) rfl (by decide) rfl ?_
                    refine wl_off (t := 173) rfl (by decide) rfl ?_
                    refine wl_off (t := 173) rfl (by decide) rfl ?_
                    refine wl_off (t := 173) rfl (by decide) rfl ?_
                    refine wl_off (t := 173) rfl (by decide) rfl ?_
                    refine wl_off (t := 173) rfl (by decide) rfl ?_
                    refine wl_val (at_pick_f rfl rfl) rfl ?_
                    refine wl_val (at_move rfl) rfl ?_
                    refine wl_off (t := 181) rfl (by decide) rfl ?_
                    refine wl_off (t := 181) rfl (by decide) rfl ?_
                    refine wl_val (at_pick_f rfl rfl) rfl ?_
                    refine wl_val (at_move rfl) rfl ?_
                    refine wl_off (t := 185) rfl (by decide) rfl ?_
                    refine wl_off (t := 185) rfl (by decide) rfl ?_
                    refine wl_val (at_pick_f rfl rfl) rfl ?_
                    refine wl_val (at_assign rfl) rfl ?_
                    refine wl_nil ?_
                    refine wk_prune [(4, .bool false)] ⟨rfl, trivial⟩ (fun f1 => ?_)
                    refine wk_then ?_
                    refine wc_ret ?_
                    exact wk_ret1 (x := false) rfl (by decide) rfl so h
                · refine wl_set (t := 162) (v := .bool false) (congrArg Value.bool hb) ?_; clear hb
                  refine wl_off (t := 162) rfl (by decide) rfl ?_
                  refine wl_val (at_pick_f rfl rfl) rfl ?_
                  refine wl_val (at_move rfl) rfl ?_
                  refine wl_off (t := 165) rfl (by decide) rfl ?_
                  refine wl_off (t := 165) rfl (by decide) rfl ?_
                  refine wl_off (t := 165) rfl (by decide) rfl ?_
                  refine wl_off (t := 165) rfl (by decide) rfl ?_
                  refine wl_off (t := 165) rfl (by decide) rfl ?_
                  refine wl_off (t := 165) rfl (by decide) rfl ?_
                  refine wl_val (at_pick_f rfl rfl) rfl ?_
                  refine wl_val (at_move rfl) rfl ?_
                  refine wl_off (t := 173) rfl (by decide) rfl ?_
                  refine wl_off (t := 173) rfl (by decide) rfl ?_
                  refine wl_off (t := 173) rfl (by decide) rfl ?_
                  refine wl_off (t := 173) rfl (by decide) rfl ?_
                  refine wl_off (t := 173) rfl (by decide) rfl ?_
                  refine wl_off (t := 173) rfl (by decide) rfl ?_
                  refine wl_val (at_pick_f rfl rfl) rfl ?_
                  refine wl_val (at_move rfl) rfl ?_
                  refine wl_off (t := 181) rfl (by decide) rfl ?_
                  refine wl_off (t := 181) rfl (by decide) rfl ?_
                  refine wl_val (at_pick_f rfl rfl) rfl ?_
                  refine wl_val (at_move rfl) rfl ?_
                  refine wl_off (t := 185) rfl (by decide) rfl ?_
                  refine wl_off (t := 185) rfl (by decide) rfl ?_
                  refine wl_val (at_pick_f rfl rfl) rfl ?_
                  refine wl_val (at_assign rfl) rfl ?_
                  refine wl_nil ?_
                  refine wk_prune [(4, .bool false)] ⟨rfl, trivial⟩ (fun f1 => ?_)
                  refine wk_then ?_
                  refine wc_ret ?_
                  exact wk_ret1 (x := false) rfl (by decide) rfl so h
              · refine wl_set (t := 159) (v := .bool false) (congrArg Value.bool hb) ?_; clear hb
                refine wl_off (t := 159) rfl (by decide) rfl ?_
                refine wl_val (at_pick_f rfl rfl) rfl ?_
                refine wl_val (at_move rfl) rfl ?_
                refine wl_off (t := 162) rfl (by decide) rfl ?_
                refine wl_val (at_pick_f rfl rfl) rfl ?_
                refine wl_val (at_move rfl) rfl ?_
                refine wl_off (t := 165) rfl (by decide) rfl ?_
                refine wl_off (t := 165) rfl (by decide) rfl ?_
                refine wl_off (t := 165) rfl (by decide) rfl ?_
                refine wl_off (t := 165) rfl (by decide) rfl ?_
                refine wl_off (t := 165) rfl (by decide) rfl ?_
                refine wl_off (t := 165) rfl (by decide) rfl ?_
                refine wl_val (at_pick_f rfl rfl) rfl ?_
                refine wl_val (at_move rfl) rfl ?_
                refine wl_off (t := 173) rfl (by decide) rfl ?_
                refine wl_off (t := 173) rfl (by decide) rfl ?_
                refine wl_off (t := 173) rfl (by decide) rfl ?_
                refine wl_off (t := 173) rfl (by decide) rfl ?_
                refine wl_off (t := 173) rfl (by decide) rfl ?_
                refine wl_off (t := 173) rfl (by decide) rfl ?_
                refine wl_val (at_pick_f rfl rfl) rfl ?_
                refine wl_val (at_move rfl) rfl ?_
                refine wl_off (t := 181) rfl (by decide) rfl ?_
                refine wl_off (t := 181) rfl (by decide) rfl ?_
                refine wl_val (at_pick_f rfl rfl) rfl ?_
                refine wl_val (at_move rfl) rfl ?_
                refine wl_off (t := 185) rfl (by decide) rfl ?_
                refine wl_off (t := 185) rfl (by decide) rfl ?_
                refine wl_val (at_pick_f rfl rfl) rfl ?_
                refine wl_val (at_assign rfl) rfl ?_
                refine wl_nil ?_
                refine wk_prune [(4, .bool false)] ⟨rfl, trivial⟩ (fun f1 => ?_)
                refine wk_then ?_
                refine wc_ret ?_
                exact wk_ret1 (x := false) rfl (by decide) rfl so h
            · refine wl_set (t := 156) (v := .bool false) (congrArg Value.bool hb) ?_; clear hb
              refine wl_off (t := 156) rfl (by decide) rfl ?_
              refine wl_val (at_pick_f rfl rfl) rfl ?_
              refine wl_val (at_move rfl) rfl ?_
              refine wl_off (t := 159) rfl (by decide) rfl ?_
              refine wl_val (at_pick_f rfl rfl) rfl ?_
              refine wl_val (at_move rfl) rfl ?_
              refine wl_off (t := 162) rfl (by decide) rfl ?_
              refine wl_val (at_pick_f rfl rfl) rfl ?_
              refine wl_val (at_move rfl) rfl ?_
              refine wl_off (t := 165) rfl (by decide) rfl ?_
              refine wl_off (t := 165) rfl (by decide) rfl ?_
              refine wl_off (t := 165) rfl (by decide) rfl ?_
              refine wl_off (t := 165) rfl (by decide) rfl ?_
              refine wl_off (t := 165) rfl (by decide) rfl ?_
              refine wl_off (t := 165) rfl (by decide) rfl ?_
              refine wl_val (at_pick_f rfl rfl) rfl ?_
              refine wl_val (at_move rfl) rfl ?_
              refine wl_off (t := 173) rfl (by decide) rfl ?_
              refine wl_off (t := 173) rfl (by decide) rfl ?_
              refine wl_off (t := 173) rfl (by decide) rfl ?_
              refine wl_off (t := 173) rfl (by decide) rfl ?_
              refine wl_off (t := 173) rfl (by decide) rfl ?_
              refine wl_off (t := 173) rfl (by decide) rfl ?_
              refine wl_val (at_pick_f rfl rfl) rfl ?_
              refine wl_val (at_move rfl) rfl ?_
              refine wl_off (t := 181) rfl (by decide) rfl ?_
              refine wl_off (t := 181) rfl (by decide) rfl ?_
              refine wl_val (at_pick_f rfl rfl) rfl ?_
              refine wl_val (at_move rfl) rfl ?_
              refine wl_off (t := 185) rfl (by decide) rfl ?_
              refine wl_off (t := 185) rfl (by decide) rfl ?_
              refine wl_val (at_pick_f rfl rfl) rfl ?_
              refine wl_val (at_assign rfl) rfl ?_
              refine wl_nil ?_
              refine wk_prune [(4, .bool false)] ⟨rfl, trivial⟩ (fun f1 => ?_)
              refine wk_then ?_
              refine wc_ret ?_
              exact wk_ret1 (x := false) rfl (by decide) rfl so h
          · intro J44 h hJ44
            refine wc_region ?_
            refine wl_val (at_move rfl) rfl ?_
            refine wl_val (at_mul rfl rfl) rfl ?_
            refine wl_val (at_move rfl) rfl ?_
            refine wl_val (at_geq rfl rfl) rfl ?_
            refine wl_val (at_move rfl) rfl ?_
            refine bif_ h (fun hb h => ?_) (fun hb h => ?_)
            · refine wl_set (t := 135) (v := .bool true) (congrArg Value.bool hb) ?_; clear hb
              refine wl_on (t := 135) rfl (by decide) rfl ?_
              refine wl_val (at_move rfl) rfl ?_
              refine wl_on (t := 135) rfl (by decide) rfl ?_
              refine wl_val (at_mul rfl rfl) rfl ?_
              refine wl_on (t := 135) rfl (by decide) rfl ?_
              refine wl_val (at_move rfl) rfl ?_
              refine wl_on (t := 135) rfl (by decide) rfl ?_
              refine wl_val (at_add rfl rfl) rfl ?_
              refine wl_on (t := 135) rfl (by decide) rfl ?_
              refine wl_val (at_lss rfl rfl) rfl ?_
              refine wl_val (at_pick_t rfl rfl) rfl ?_
              refine wl_val (at_move rfl) rfl ?_
              refine bif_ h (fun hb h => ?_) (fun hb h => ?_)
              · refine wl_set (t := 142) (v := .bool true) (congrArg Value.bool hb) ?_; clear hb
                refine wl_on (t := 142) rfl (by decide) rfl ?_
                refine wl_val (at_move rfl) rfl ?_
                refine wl_on (t := 142) rfl (by decide) rfl ?_
                refine wl_val (at_mul rfl rfl) rfl ?_
                refine wl_on (t := 142) rfl (by decide) rfl ?_
                refine wl_val (at_move rfl) rfl ?_
                refine wl_on (t := 142) rfl (by decide) rfl ?_
                refine wl_val (at_geq rfl rfl) rfl ?_
                refine wl_val (at_pick_t rfl rfl) rfl ?_
                refine wl_val (at_move rfl) rfl ?_
                refine bif_ h (fun hb h => ?_) (fun hb h => ?_)
                · refine wl_set (t := 148) (v := .bool true) (congrArg Value.bool hb) ?_; clear hb
                  refine wl_on (t := 148) rfl (by decide) rfl ?_
                  refine wl_val (at_move rfl) rfl ?_
                  refine wl_on (t := 148) rfl (by decide) rfl ?_
                  refine wl_val (at_mul rfl rfl) rfl ?_
                  refine wl_on (t := 148) rfl (by decide) rfl ?_
                  refine wl_val (at_move rfl) rfl ?_
                  refine wl_on (t := 148) rfl (by decide) rfl ?_
                  refine wl_val (at_add rfl rfl) rfl ?_
                  refine wl_on (t := 148) rfl (by decide) rfl ?_
                  refine wl_val (at_lss rfl rfl) rfl ?_
                  refine wl_val (at_pick_t rfl rfl) rfl ?_
                  refine wl_val (at_assign rfl) rfl ?_
                  refine wl_nil ?_
                  exact wk_prune [(5, .bool x3), (6, .int .i64 x6.1), (7, .int .i64 x6.2), (13, .pointer (some (⟨b35, 0, none⟩ : Addr))), (14, .bool s39), (15, .bool s42), (16, .bool (decide ((IntKind.wrap .i64 ((8 : Int) * x12.2)) < (IntKind.wrap .i64 (x9.2 + 8)))))] ⟨rfl, rfl, rfl, rfl, rfl, rfl, rfl, trivial⟩ (fun f1 => hJ44 ((decide ((IntKind.wrap .i64 ((8 : Int) * x12.2)) < (IntKind.wrap .i64 (x9.2 + 8))))) _ f1 h ⟨t_b35, trivial⟩ so)
                · refine wl_set (t := 148) (v := .bool false) (congrArg Value.bool hb) ?_; clear hb
                  refine wl_off (t := 148) rfl (by decide) rfl ?_
                  refine wl_off (t := 148) rfl (by decide) rfl ?_
                  refine wl_off (t := 148) rfl (by decide) rfl ?_
                  refine wl_off (t := 148) rfl (by decide) rfl ?_
                  refine wl_off (t := 148) rfl (by decide) rfl ?_
                  refine wl_val (at_pick_f rfl rfl) rfl ?_
                  refine wl_val (at_assign rfl) rfl ?_
                  refine wl_nil ?_
                  exact wk_prune [(5, .bool x3), (6, .int .i64 x6.1), (7, .int .i64 x6.2), (13, .pointer (some (⟨b35, 0, none⟩ : Addr))), (14, .bool s39), (15, .bool s42), (16, .bool false)] ⟨rfl, rfl, rfl, rfl, rfl, rfl, rfl, trivial⟩ (fun f1 => hJ44 (false) _ f1 h ⟨t_b35, trivial⟩ so)
              · refine wl_set (t := 142) (v := .bool false) (congrArg Value.bool hb) ?_; clear hb
                refine wl_off (t := 142) rfl (by decide) rfl ?_
                refine wl_off (t := 142) rfl (by decide) rfl ?_
                refine wl_off (t := 142) rfl (by decide) rfl ?_
                refine wl_off (t := 142) rfl (by decide) rfl ?_
                refine wl_val (at_pick_f rfl rfl) rfl ?_
                refine wl_val (at_move rfl) rfl ?_
                refine wl_off (t := 148) rfl (by decide) rfl ?_
                refine wl_off (t := 148) rfl (by decide) rfl ?_
                refine wl_off (t := 148) rfl (by decide) rfl ?_
                refine wl_off (t := 148) rfl (by decide) rfl ?_
                refine wl_off (t := 148) rfl (by decide) rfl ?_
                refine wl_val (at_pick_f rfl rfl) rfl ?_
                refine wl_val (at_assign rfl) rfl ?_
                refine wl_nil ?_
                exact wk_prune [(5, .bool x3), (6, .int .i64 x6.1), (7, .int .i64 x6.2), (13, .pointer (some (⟨b35, 0, none⟩ : Addr))), (14, .bool s39), (15, .bool s42), (16, .bool false)] ⟨rfl, rfl, rfl, rfl, rfl, rfl, rfl, trivial⟩ (fun f1 => hJ44 (false) _ f1 h ⟨t_b35, trivial⟩ so)
            · refine wl_set (t := 135) (v := .bool false) (congrArg Value.bool hb) ?_; clear hb
              refine wl_off (t := 135) rfl (by decide) rfl ?_
              refine wl_off (t := 135) rfl (by decide) rfl ?_
              refine wl_off (t := 135) rfl (by decide) rfl ?_
              refine wl_off (t := 135) rfl (by decide) rfl ?_
              refine wl_off (t := 135) rfl (by decide) rfl ?_
              refine wl_val (at_pick_f rfl rfl) rfl ?_
              refine wl_val (at_move rfl) rfl ?_
              refine wl_off (t := 142) rfl (by decide) rfl ?_
              refine wl_off (t := 142) rfl (by decide) rfl ?_
              refine wl_off (t := 142) rfl (by decide) rfl ?_
              refine wl_off (t := 142) rfl (by decide) rfl ?_
              refine wl_val (at_pick_f rfl rfl) rfl ?_
              refine wl_val (at_move rfl) rfl ?_
              refine wl_off (t := 148) rfl (by decide) rfl ?_
              refine wl_off (t := 148) rfl (by decide) rfl ?_
              refine wl_off (t := 148) rfl (by decide) rfl ?_
              refine wl_off (t := 148) rfl (by decide) rfl ?_
              refine wl_off (t := 148) rfl (by decide) rfl ?_
              refine wl_val (at_pick_f rfl rfl) rfl ?_
              refine wl_val (at_assign rfl) rfl ?_
              refine wl_nil ?_
              exact wk_prune [(5, .bool x3), (6, .int .i64 x6.1), (7, .int .i64 x6.2), (13, .pointer (some (⟨b35, 0, none⟩ : Addr))), (14, .bool s39), (15, .bool s42), (16, .bool false)] ⟨rfl, rfl, rfl, rfl, rfl, rfl, rfl, trivial⟩ (fun f1 => hJ44 (false) _ f1 h ⟨t_b35, trivial⟩ so)
        · intro J41 h hJ41
          refine wc_region ?_
          refine wl_val (at_move rfl) rfl ?_
          refine wl_val (at_move rfl) rfl ?_
          refine wl_val (at_mul rfl rfl) rfl ?_
          refine wl_val (at_fieldAddr Try.underlying26 rfl rfl sz3 (by decide) rfl) rfl ?_
          refine wl_val (at_load (v := .int .i64 a0_2) Try.underlying3 rfl rfl ((t_b1.cell 2).trans (by first | rfl | simp [List.getElem?_append, ints_len, bools_len]))) rfl ?_
          refine wl_val (at_fieldAddr Try.underlying23 rfl rfl sz5 (by decide) rfl) rfl ?_
          refine wl_val (at_load (v := .int .u8 x32) Try.underlying5 rfl rfl ((t_b35.cell 2).trans (by first | rfl | simp [List.getElem?_append, ints_len, bools_len]))) rfl ?_
          refine wl_val (at_conv Try.underlying5 Try.underlying3 rfl) rfl ?_
          refine wl_val (at_mul rfl rfl) rfl ?_
          refine wl_val (at_geq rfl rfl) rfl ?_
          refine wl_val (at_move rfl) rfl ?_
          refine bif_ h (fun hb h => ?_) (fun hb h => ?_)
          · refine wl_set (t := 118) (v := .bool true) (congrArg Value.bool hb) ?_; clear hb
            refine wl_on (t := 118) rfl (by decide) rfl ?_
            refine wl_val (at_move rfl) rfl ?_
            refine wl_on (t := 118) rfl (by decide) rfl ?_
            refine wl_val (at_sub rfl rfl) rfl ?_
            refine wl_on (t := 118) rfl (by decide) rfl ?_
            refine wl_val (at_move rfl) rfl ?_
            refine wl_on (t := 118) rfl (by decide) rfl ?_
            refine wl_val (at_mul rfl rfl) rfl ?_
            refine wl_on (t := 118) rfl (by decide) rfl ?_
            refine wl_val (at_fieldAddr Try.underlying26 rfl rfl sz3 (by decide) rfl) rfl ?_
            refine wl_on (t := 118) rfl (by decide) rfl ?_
            refine wl_val (at_load (v := .int .i64 a0_2) Try.underlying3 rfl rfl ((t_b1.cell 2).trans (by first | rfl | simp [List.getElem?_append, ints_len, bools_len]))) rfl ?_
            refine wl_on (t := 118) rfl (by decide) rfl ?_
            refine wl_val (at_fieldAddr Try.underlying23 rfl rfl sz5 (by decide) rfl) rfl ?_
            refine wl_on (t := 118) rfl (by decide) rfl ?_
            refine wl_val (at_load (v := .int .u8 x32) Try.underlying5 rfl rfl ((t_b35.cell 2).trans (by first | rfl | simp [List.getElem?_append, ints_len, bools_len]))) rfl ?_
            refine wl_on (t := 118) rfl (by decide) rfl ?_
            refine wl_val (at_conv Try.underlying5 Try.underlying3 rfl) rfl ?_
            refine wl_on (t := 118) rfl (by decide) rfl ?_
            refine wl_val (at_mul rfl rfl) rfl ?_
            refine wl_on (t := 118) rfl (by decide) rfl ?_
            refine wl_val (at_lss rfl rfl) rfl ?_
            refine wl_val (at_pick_t rfl rfl) rfl ?_
            refine wl_val (at_assign rfl) rfl ?_
            refine wl_nil ?_
            exact wk_prune [(5, .bool x3), (6, .int .i64 x6.1), (7, .int .i64 x6.2), (8, .int .i64 x9.1), (9, .int .i64 x9.2), (10, .int .i64 x12.1), (11, .int .i64 x12.2), (13, .pointer (some (⟨b35, 0, none⟩ : Addr))), (14, .bool s39), (15, .bool (decide ((IntKind.wrap .i64 ((IntKind.wrap .i64 (x9.2 - 1)) * x6.2)) < (IntKind.wrap .i64 (a0_2 * (IntKind.wrap .i64 x32))))))] ⟨rfl, rfl, rfl, rfl, rfl, rfl, rfl, rfl, rfl, rfl, trivial⟩ (fun f1 => hJ41 ((decide ((IntKind.wrap .i64 ((IntKind.wrap .i64 (x9.2 - 1)) * x6.2)) < (IntKind.wrap .i64 (a0_2 * (IntKind.wrap .i64 x32)))))) _ f1 h ⟨t_b35, trivial⟩ so)
          · refine wl_set (t := 118) (v := .bool false) (congrArg Value.bool hb) ?_; clear hb
            refine wl_off (t := 118) rfl (by decide) rfl ?_
            refine wl_off (t := 118) rfl (by decide) rfl ?_
            refine wl_off (t := 118) rfl (by decide) rfl ?_
            refine wl_off (t := 118) rfl (by decide) rfl ?_
            refine wl_off (t := 118) rfl (by decide) rfl ?_
            refine wl_off (t := 118) rfl (by decide) rfl ?_
            refine wl_off (t := 118) rfl (by decide) rfl ?_
            refine wl_off (t := 118) rfl (by decide) rfl ?_
            refine wl_off (t := 118) rfl (by decide) rfl ?_
            refine wl_off (t := 118) rfl (by decide) rfl ?_
            refine wl_off (t := 118) rfl (by decide) rfl ?_
            refine wl_val (at_pick_f rfl rfl) rfl ?_
            refine wl_val (at_assign rfl) rfl ?_
            refine wl_nil ?_
            exact wk_prune [(5, .bool x3), (6, .int .i64 x6.1), (7, .int .i64 x6.2), (8, .int .i64 x9.1), (9, .int .i64 x9.2), (10, .int .i64 x12.1), (11, .int .i64 x12.2), (13, .pointer (some (⟨b35, 0, none⟩ : Addr))), (14, .bool s39), (15, .bool false)] ⟨rfl, rfl, rfl, rfl, rfl, rfl, rfl, rfl, rfl, rfl, trivial⟩ (fun f1 => hJ41 (false) _ f1 h ⟨t_b35, trivial⟩ so)
      · intro J38 h hJ38
        refine wc_region ?_
        refine wl_val (at_move rfl) rfl ?_
        refine wl_val (at_move rfl) rfl ?_
        refine wl_val (at_mul rfl rfl) rfl ?_
        refine wl_val (at_fieldAddr Try.underlying26 rfl rfl sz3 (by decide) rfl) rfl ?_
        refine wl_val (at_load (v := .int .i64 a0_1) Try.underlying3 rfl rfl ((t_b1.cell 1).trans (by first | rfl | simp [List.getElem?_append, ints_len, bools_len]))) rfl ?_
        refine wl_val (at_fieldAddr Try.underlying23 rfl rfl sz5 (by decide) rfl) rfl ?_
        refine wl_val (at_load (v := .int .u8 x31) Try.underlying5 rfl rfl ((t_b35.cell 1).trans (by first | rfl | simp [List.getElem?_append, ints_len, bools_len]))) rfl ?_
        refine wl_val (at_conv Try.underlying5 Try.underlying3 rfl) rfl ?_
        refine wl_val (at_mul rfl rfl) rfl ?_
        refine wl_val (at_geq rfl rfl) rfl ?_
        refine wl_val (at_move rfl) rfl ?_
        refine bif_ h (fun hb h => ?_) (fun hb h => ?_)
        · refine wl_set (t := 95) (v := .bool true) (congrArg Value.bool hb) ?_; clear hb
          refine wl_on (t := 95) rfl (by decide) rfl ?_
          refine wl_val (at_move rfl) rfl ?_
          refine wl_on (t := 95) rfl (by decide) rfl ?_
          refine wl_val (at_sub rfl rfl) rfl ?_
          refine wl_on (t := 95) rfl (by decide) rfl ?_
          refine wl_val (at_move rfl) rfl ?_
          refine wl_on (t := 95) rfl (by decide) rfl ?_
          refine wl_val (at_mul rfl rfl) rfl ?_
          refine wl_on (t := 95) rfl (by decide) rfl ?_
          refine wl_val (at_fieldAddr Try.underlying26 rfl rfl sz3 (by decide) rfl) rfl ?_
          refine wl_on (t := 95) rfl (by decide) rfl ?_
          refine wl_val (at_load (v := .int .i64 a0_1) Try.underlying3 rfl rfl ((t_b1.cell 1).trans (by first | rfl | simp [List.getElem?_append, ints_len, bools_len]))) rfl ?_
          refine wl_on (t := 95) rfl (by decide) rfl ?_
          refine wl_val (at_fieldAddr Try.underlying23 rfl rfl sz5 (by decide) rfl) rfl ?_
          refine wl_on (t := 95) rfl (by decide) rfl ?_
          refine wl_val (at_load (v := .int .u8 x31) Try.underlying5 rfl rfl ((t_b35.cell 1).trans (by first | rfl | simp [List.getElem?_append, ints_len, bools_len]))) rfl ?_
          refine wl_on (t := 95) rfl (by decide) rfl ?_
          refine wl_val (at_conv Try.underlying5 Try.underlying3 rfl) rfl ?_
          refine wl_on (t := 95) rfl (by decide) rfl ?_
          refine wl_val (at_mul rfl rfl) rfl ?_
          refine wl_on (t := 95) rfl (by decide) rfl ?_
          refine wl_val (at_lss rfl rfl) rfl ?_
          refine wl_val (at_pick_t rfl rfl) rfl ?_
          refine wl_val (at_assign rfl) rfl ?_
          refine wl_nil ?_
          exact wk_prune [(2, .pointer (some (⟨b1, 0, none⟩ : Addr))), (5, .bool x3), (6, .int .i64 x6.1), (7, .int .i64 x6.2), (8, .int .i64 x9.1), (9, .int .i64 x9.2), (10, .int .i64 x12.1), (11, .int .i64 x12.2), (13, .pointer (some (⟨b35, 0, none⟩ : Addr))), (14, .bool (decide ((IntKind.wrap .i64 ((IntKind.wrap .i64 (x9.1 - 1)) * x6.1)) < (IntKind.wrap .i64 (a0_1 * (IntKind.wrap .i64 x31))))))] ⟨rfl, rfl, rfl, rfl, rfl, rfl, rfl, rfl, rfl, rfl, trivial⟩ (fun f1 => hJ38 ((decide ((IntKind.wrap .i64 ((IntKind.wrap .i64 (x9.1 - 1)) * x6.1)) < (IntKind.wrap .i64 (a0_1 * (IntKind.wrap .i64 x31)))))) _ f1 h ⟨t_b1, t_b35, trivial⟩ so)
        · refine wl_set (t := 95) (v := .bool false) (congrArg Value.bool hb) ?_; clear hb
          refine wl_off (t := 95) rfl (by decide) rfl ?_
          refine wl_off (t := 95) rfl (by decide) rfl ?_
          refine wl_off (t := 95) rfl (by decide) rfl ?_
          refine wl_off (t := 95) rfl (by decide) rfl ?_
          refine wl_off (t := 95) rfl (by decide) rfl ?_
          refine wl_off (t := 95) rfl (by decide) rfl ?_
          refine wl_off (t := 95) rfl (by decide) rfl ?_
          refine wl_off (t := 95) rfl (by decide) rfl ?_
          refine wl_off (t := 95) rfl (by decide) rfl ?_
          refine wl_off (t := 95) rfl (by decide) rfl ?_
          refine wl_off (t := 95) rfl (by decide) rfl ?_
          refine wl_val (at_pick_f rfl rfl) rfl ?_
          refine wl_val (at_assign rfl) rfl ?_
          refine wl_nil ?_
          exact wk_prune [(2, .pointer (some (⟨b1, 0, none⟩ : Addr))), (5, .bool x3), (6, .int .i64 x6.1), (7, .int .i64 x6.2), (8, .int .i64 x9.1), (9, .int .i64 x9.2), (10, .int .i64 x12.1), (11, .int .i64 x12.2), (13, .pointer (some (⟨b35, 0, none⟩ : Addr))), (14, .bool false)] ⟨rfl, rfl, rfl, rfl, rfl, rfl, rfl, rfl, rfl, rfl, trivial⟩ (fun f1 => hJ38 (false) _ f1 h ⟨t_b1, t_b35, trivial⟩ so)
  · intro J15 h hJ15
    refine wc_region ?_
    refine wl_val (at_loadA (cs := (c26 a0_0 a0_1 a0_2 a0_3)) Try.underlying26 rfl (by rw [len26]; exact sz26) rfl (ldA_full t_b1)) rfl ?_
    refine wl_callF (geom_Check.calls _ _ _ _ _ _ h) enter10 rfl trivial so ?_; intro x49 w50 h so
    obtain ⟨q51, h⟩ := h
    replace t_b1 := pv_bk q51 t_b1 (by simp)
    refine wl_val (at_neq rfl rfl) rfl ?_
    refine wl_val (at_move rfl) rfl ?_
    refine bif_ h (fun hb h => ?_) (fun hb h => ?_)
    · refine wl_set (t := 38) (v := .bool true) (congrArg Value.bool hb) ?_; clear hb
      refine wl_off (t := 38) rfl (by decide) rfl ?_
      refine wl_off (t := 38) rfl (by decide) rfl ?_
      refine wl_val (at_pick_t rfl rfl) rfl ?_
      refine wl_val (at_move rfl) rfl ?_
      refine wl_off (t := 42) rfl (by decide) rfl ?_
      refine wl_off (t := 42) rfl (by decide) rfl ?_
      refine wl_off (t := 42) rfl (by decide) rfl ?_
      refine wl_off (t := 42) rfl (by decide) rfl ?_
      refine wl_off (t := 42) rfl (by decide) rfl ?_
      refine wl_val (at_pick_t rfl rfl) rfl ?_
      refine wl_nil ?_
      exact wk_prune [(1, .int .i64 a1), (2, .pointer (some (⟨b1, 0, none⟩ : Addr))), (5, .bool x3), (6, .int .i64 x6.1), (7, .int .i64 x6.2), (8, .int .i64 x9.1), (9, .int .i64 x9.2), (10, .int .i64 x12.1), (11, .int .i64 x12.2), (48, .bool true)] ⟨rfl, rfl, rfl, rfl, rfl, rfl, rfl, rfl, rfl, rfl, trivial⟩ (fun f1 => hJ15 (true) _ f1 h ⟨t_b1, trivial⟩ so)
    · refine wl_set (t := 38) (v := .bool false) (congrArg Value.bool hb) ?_; clear hb
      refine wl_on (t := 38) rfl (by decide) rfl ?_
      refine wl_val (at_move rfl) rfl ?_
      refine wl_on (t := 38) rfl (by decide) rfl ?_
      refine wl_val (at_lss rfl rfl) rfl ?_
      refine wl_val (at_pick_f rfl rfl) rfl ?_
      refine wl_val (at_move rfl) rfl ?_
      refine bif_ h (fun hb h => ?_) (fun hb h => ?_)
      · refine wl_set (t := 42) (v := .bool true) (congrArg Value.bool hb) ?_; clear hb
        refine wl_off (t := 42) rfl (by decide) rfl ?_
        refine wl_off (t := 42) rfl (by decide) rfl ?_
        refine wl_off (t := 42) rfl (by decide) rfl ?_
        refine wl_off (t := 42) rfl (by decide) rfl ?_
        refine wl_off (t := 42) rfl (by decide) rfl ?_
        refine wl_val (at_pick_t rfl rfl) rfl ?_
        refine wl_nil ?_
        exact wk_prune [(1, .int .i64 a1), (2, .pointer (some (⟨b1, 0, none⟩ : Addr))), (5, .bool x3), (6, .int .i64 x6.1), (7, .int .i64 x6.2), (8, .int .i64 x9.1), (9, .int .i64 x9.2), (10, .int .i64 x12.1), (11, .int .i64 x12.2), (48, .bool true)] ⟨rfl, rfl, rfl, rfl, rfl, rfl, rfl, rfl, rfl, rfl, trivial⟩ (fun f1 => hJ15 (true) _ f1 h ⟨t_b1, trivial⟩ so)
      · refine wl_set (t := 42) (v := .bool false) (congrArg Value.bool hb) ?_; clear hb
        refine wl_on (t := 42) rfl (by decide) rfl ?_
        refine wl_val (at_move rfl) rfl ?_
        refine wl_on (t := 42) rfl (by decide) rfl ?_
        refine wl_val (at_fieldAddr Try.underlying26 rfl rfl sz24 (by decide) rfl) rfl ?_
        refine wl_on (t := 42) rfl (by decide) rfl ?_
        refine wl_val (at_load (v := .slice a0_3.a a0_3.n a0_3.c) Try.underlying24 rfl rfl ((t_b1.cell 3).trans (by first | rfl | simp [List.getElem?_append, ints_len, bools_len]))) rfl ?_
        refine wl_on (t := 42) rfl (by decide) rfl ?_
        refine wl_val (at_lenL Try.underlying24 rfl) rfl ?_
        refine wl_on (t := 42) rfl (by decide) rfl ?_
        refine wl_val (at_geq rfl rfl) rfl ?_
        refine wl_val (at_pick_f rfl rfl) rfl ?_
        refine wl_nil ?_
        exact wk_prune [(1, .int .i64 a1), (2, .pointer (some (⟨b1, 0, none⟩ : Addr))), (5, .bool x3), (6, .int .i64 x6.1), (7, .int .i64 x6.2), (8, .int .i64 x9.1), (9, .int .i64 x9.2), (10, .int .i64 x12.1), (11, .int .i64 x12.2), (48, .bool (decide ((a0_3.n : Int) ≤ a1)))] ⟨rfl, rfl, rfl, rfl, rfl, rfl, rfl, rfl, rfl, rfl, trivial⟩ (fun f1 => hJ15 ((decide ((a0_3.n : Int) ≤ a1))) _ f1 h ⟨t_b1, trivial⟩ so)
end Go.Proofs.Ytlonijlcddlhjaa.G
