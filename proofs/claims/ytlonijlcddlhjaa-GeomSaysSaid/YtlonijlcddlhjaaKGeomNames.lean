import Derived.Test.YtlonijlcddlhjaaGF
import Derived.Test.YtlonijlcddlhjaaKgeom
namespace Go.Proofs.Ytlonijlcddlhjaa.G
open Go.RowKit
set_option linter.unusedVariables false
set_option linter.unusedSimpArgs false
/-- mosaic/mosaiclaw14.GeomNames -/
def mosaiclaw14_GeomNames.enc : Bool → Value := fun r => .bool r
def mosaiclaw14_GeomNames.s (H0 : Hp) (Q : Bool → Hp → Prop) : Prop :=
  nw H0 23 (c23 1 1 1 0) (fun p1 H2 => Gn [] H2 (fun (b5 : Nat) (H7 : Hp) => geom_Blocks.s 0 17 9 ⟨(some p1), 1, 1⟩ 0 H7 (fun x8 H9 => Pv [b5] H7 H9 ∧ (geom_Check.s 0 17 9 ⟨(some p1), 1, 1⟩ H9 (fun x11 H12 => if (x11 == 0) = true then (if (x8.1 == 3) = true then (Q (x8.2 == 2) H12) else (Q false H12)) else (Q false H12))))))
set_option maxRecDepth 20000 in
set_option maxHeartbeats 4000000 in
theorem mosaiclaw14_GeomNames.calls (w0 : World) (Q : Bool → Hp → Prop) (h : mosaiclaw14_GeomNames.s w0.heap Q) :
    Ca Try.prog 3 #[] w0 (Rt mosaiclaw14_GeomNames.enc Q w0) := by
  refine ca_start (c := _) Try.func3 rfl Try.ntmps3 rfl ?_
  have so : Sm w0 w0 := Sm.refl w0
  unfold mosaiclaw14_GeomNames.s at h
  refine wc_prune [] trivial (fun f1 => ?_)
  refine wc_seq ?_
  refine wc_region ?_
  refine wl_val (at_assign rfl) rfl ?_
  refine wl_nil ?_
  refine wk_prune [] trivial (fun f1 => ?_)
  refine wk_then ?_
  refine wc_seq ?_
  refine wc_region ?_
  refine wl_val (at_build (cs := (c23 1 1 1 0)) (ps := [(0, .int .u8 1), (1, .int .u8 1), (2, .int .u8 1)]) rfl (fun w => by simp [Instr.build, Instr.fill, go_sem, Try.underlying23, z23])) rfl ?_
  obtain ⟨i4, i4a, i4b, i4c, i4d⟩ := info23
  refine wl_newS (ef_buildSlice (cs := (c23 1 1 1 0)) (ps := [(0, .agg (c23 1 1 1 0).toArray)]) Try.underlying24 i4a i4b rfl (by rw [i4c]; decide) (by rw [i4c]; exact fill_full (vs := [.agg (c23 1 1 1 0).toArray]) rfl (by simp [Value.cells]) (by simp [Value.cells, len23]) rfl (by simp))) rfl so (one23 _ _ _ _) h ?_; intro p1 w2 h r3 so
  refine wl_val (at_build (cs := (c26 0 17 9 ⟨(some p1), 1, 1⟩)) (ps := [(1, .int .i64 17), (2, .int .i64 9), (3, .slice (some p1) 1 1)]) rfl (fun w => by simp [Instr.build, Instr.fill, go_sem, Try.underlying26, z26])) rfl ?_
  refine wl_newT (T := 26) (cs := (c26 0 0 0 ⟨none, 0, 0⟩)) (ef_alloc zero26 rfl) rfl so ?_; intro b5 w6 hb_b5 t_b5 k_b5 so
  have g_b5 := Nat.le_of_eq hb_b5.symm
  have hc := k_b5.ch (F := [])
  refine wl_stWT (vs := (c26 0 17 9 ⟨(some p1), 1, 1⟩)) t_b5 (by first | (rw [len26, len26]) | (rw [len26]) | rfl) rfl so (fun q => ef_storeA (p := (⟨b5, 0, none⟩ : Addr)) (cs := (c26 0 17 9 ⟨(some p1), 1, 1⟩)) (by rw [len26]; exact sz26) rfl rfl (one26 _ _ _ _) q) ?_; intro w7 t_b5 s_w7 so
  replace hc := ch_same hc s_w7 (.inr g_b5)
  refine wl_nil ?_
  refine wk_prune [(1, .pointer (some (⟨b5, 0, none⟩ : Addr)))] ⟨rfl, trivial⟩ (fun f1 => ?_)
  refine wk_then ?_
  refine wc_seq ?_
  refine wc_region ?_
  refine wl_val (at_loadA (cs := (c26 0 17 9 ⟨(some p1), 1, 1⟩)) Try.underlying26 rfl (by rw [len26]; exact sz26) rfl (ldA_full t_b5)) rfl ?_
  replace h := h b5 _ hc g_b5 t_b5.lt; clear hc
  refine wl_callF (geom_Blocks.calls _ _ _ _ _ _ _ h) enter9 rfl trivial so ?_; intro x8 w9 h so
  obtain ⟨q10, h⟩ := h
  replace t_b5 := pv_bk q10 t_b5 (by simp)
  refine wl_val (at_move rfl) rfl ?_
  refine wl_val (at_extract rfl rfl) rfl ?_
  refine wl_val (at_extract rfl rfl) rfl ?_
  refine wl_val (at_assign rfl) rfl ?_
  refine wl_val (at_assign rfl) rfl ?_
  refine wl_nil ?_
  refine wk_prune [(1, .pointer (some (⟨b5, 0, none⟩ : Addr))), (2, .int .i64 x8.1), (3, .int .i64 x8.2)] ⟨rfl, rfl, rfl, trivial⟩ (fun f1 => ?_)
  refine wk_then ?_
  refine wc_seq ?_
  refine wc_region ?_
  refine wl_val (at_move rfl) rfl ?_
  refine wl_on (t := 12) rfl (by decide) rfl ?_
  refine wl_val (at_loadA (cs := (c26 0 17 9 ⟨(some p1), 1, 1⟩)) Try.underlying26 rfl (by rw [len26]; exact sz26) rfl (ldA_full t_b5)) rfl ?_
  refine wl_on (t := 12) rfl (by decide) rfl ?_
  refine wl_callF (geom_Check.calls _ _ _ _ _ _ h) enter10 rfl trivial so ?_; intro x11 w12 h so
  refine wl_on (t := 12) rfl (by decide) rfl ?_
  refine wl_val (at_eql rfl rfl) rfl ?_
  refine wl_val (at_pick_t rfl rfl) rfl ?_
  refine wl_val (at_move rfl) rfl ?_
  refine bif_ h (fun hb h => ?_) (fun hb h => ?_)
  · refine wl_set (t := 17) (v := .bool true) (congrArg Value.bool hb) ?_; clear hb
    refine wl_on (t := 17) rfl (by decide) rfl ?_
    refine wl_val (at_move rfl) rfl ?_
    refine wl_on (t := 17) rfl (by decide) rfl ?_
    refine wl_val (at_eql rfl rfl) rfl ?_
    refine wl_val (at_pick_t rfl rfl) rfl ?_
    refine wl_val (at_move rfl) rfl ?_
    refine bif_ h (fun hb h => ?_) (fun hb h => ?_)
    · refine wl_set (t := 21) (v := .bool true) (congrArg Value.bool hb) ?_; clear hb
      refine wl_on (t := 21) rfl (by decide) rfl ?_
      refine wl_val (at_move rfl) rfl ?_
      refine wl_on (t := 21) rfl (by decide) rfl ?_
      refine wl_val (at_eql rfl rfl) rfl ?_
      refine wl_val (at_pick_t rfl rfl) rfl ?_
      refine wl_val (at_assign rfl) rfl ?_
      refine wl_nil ?_
      refine wk_prune [(0, .bool (x8.2 == 2))] ⟨rfl, trivial⟩ (fun f1 => ?_)
      refine wk_then ?_
      refine wc_ret ?_
      exact wk_ret1 (x := (x8.2 == 2)) rfl (by decide) rfl so h
    · refine wl_set (t := 21) (v := .bool false) (congrArg Value.bool hb) ?_; clear hb
      refine wl_off (t := 21) rfl (by decide) rfl ?_
      refine wl_off (t := 21) rfl (by decide) rfl ?_
      refine wl_val (at_pick_f rfl rfl) rfl ?_
      refine wl_val (at_assign rfl) rfl ?_
      refine wl_nil ?_
      refine wk_prune [(0, .bool false)] ⟨rfl, trivial⟩ (fun f1 => ?_)
      refine wk_then ?_
      refine wc_ret ?_
      exact wk_ret1 (x := false) rfl (by decide) rfl so h
  · refine wl_set (t := 17) (v := .bool false) (congrArg Value.bool hb) ?_; clear hb
    refine wl_off (t := 17) rfl (by decide) rfl ?_
    refine wl_off (t := 17) rfl (by decide) rfl ?_
    refine wl_val (at_pick_f rfl rfl) rfl ?_
    refine wl_val (at_move rfl) rfl ?_
    refine wl_off (t := 21) rfl (by decide) rfl ?_
    refine wl_off (t := 21) rfl (by decide) rfl ?_
    refine wl_val (at_pick_f rfl rfl) rfl ?_
    refine wl_val (at_assign rfl) rfl ?_
    refine wl_nil ?_
    refine wk_prune [(0, .bool false)] ⟨rfl, trivial⟩ (fun f1 => ?_)
    refine wk_then ?_
    refine wc_ret ?_
    exact wk_ret1 (x := false) rfl (by decide) rfl so h
end Go.Proofs.Ytlonijlcddlhjaa.G
