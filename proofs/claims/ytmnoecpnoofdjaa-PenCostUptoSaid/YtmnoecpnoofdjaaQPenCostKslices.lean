/- Of this text what the row needs. -/
import Derived.Test.YtmnoecpnoofdjaaQPenCostKshelf
namespace Go.Proofs.Ytmnoecpnoofdjaa.G
open Go.RowKit
set_option linter.unusedVariables false
set_option linter.unusedSimpArgs false
def slices_Clone_uint8_uint8.enc : Sl → Value := fun r => .slice r.a r.n r.c
def slices_Clone_uint8_uint8.s (a0 : Sl) (H0 : Hp) (Q : Sl → Hp → Prop) : Prop :=
  if a0.a.isNone = true then (Q ⟨none, 0, 0⟩ H0) else (nw H0 5 [] (fun p1 H2 => ∃ y8 : List Value, y8.length = a0.n * 1 ∧ rdS H2 a0.a y8 ∧ apS H2 ⟨(some p1), 0, 0⟩ 5 1 1 z5.cells a0.n y8 (fun l6 H7 => Q l6 H7)))
set_option maxRecDepth 20000 in
set_option maxHeartbeats 4000000 in
theorem slices_Clone_uint8_uint8.calls (a0 : Sl) (w0 : World) (Q : Sl → Hp → Prop) (h : slices_Clone_uint8_uint8.s a0 w0.heap Q) :
    Ca Try.prog 40 #[.slice a0.a a0.n a0.c] w0 (Rt slices_Clone_uint8_uint8.enc Q w0) := by
  refine ca_start (c := _) Try.func40 rfl Try.ntmps40 rfl ?_
  have so : Sm w0 w0 := Sm.refl w0
  unfold slices_Clone_uint8_uint8.s at h
  refine wc_prune [(0, .slice a0.a a0.n a0.c)] ⟨rfl, trivial⟩ (fun f1 => ?_)
  refine wc_seq ?_
  refine wc_region ?_
  refine wl_val (at_assign rfl) rfl ?_
  refine wl_nil ?_
  refine wk_prune [(0, .slice a0.a a0.n a0.c)] ⟨rfl, trivial⟩ (fun f1 => ?_)
  refine wk_then ?_
  refine wc_seq ?_
  refine wc_seq ?_
  refine wc_region ?_
  refine wl_val (at_move rfl) rfl ?_
  refine wl_val (at_eqlNL Try.underlying27 rfl rfl) rfl ?_
  refine wl_nil ?_
  refine wk_prune [(0, .slice a0.a a0.n a0.c), (4, .bool a0.a.isNone)] ⟨rfl, rfl, trivial⟩ (fun f1 => ?_)
  refine wk_then ?_
  refine wc_cond rfl h (fun h => ?_) (fun h => ?_)
  · refine wc_seq ?_
    refine wc_region ?_
    refine wl_val (at_assign rfl) rfl ?_
    refine wl_nil ?_
    refine wk_prune [(2, .slice none 0 0)] ⟨rfl, trivial⟩ (fun f1 => ?_)
    refine wk_then ?_
    refine wc_ret ?_
    refine wk_thenR ?_
    exact wk_ret1 (x := ⟨none, 0, 0⟩) rfl (by decide) rfl so h
  · refine wc_skip ?_
    refine wk_prune [(0, .slice a0.a a0.n a0.c)] ⟨rfl, trivial⟩ (fun f1 => ?_)
    refine wk_then ?_
    refine wc_seq ?_
    refine wc_region ?_
    obtain ⟨i4, i4a, i4b, i4c, i4d⟩ := info5
    refine wl_newS (ef_buildSlice (cs := []) (ps := []) Try.underlying27 i4a i4b rfl (by rw [i4c]; decide) (by rw [i4c]; exact fill_full (vs := []) rfl (by simp [Value.cells]) (by simp [Value.cells]) rfl (by simp))) rfl so ones_nil h ?_; intro p1 w2 h r3 so
    refine wl_val (at_move rfl) rfl ?_
    obtain ⟨i5, i5a, i5b, i5c, i5d⟩ := info5
    obtain ⟨y8, q9, q10, h⟩ := h
    refine wl_ap (fx_append (s := ⟨(some p1), 0, 0⟩) (t := a0) (m := a0.n) (xs := y8) Try.underlying27 Try.underlying27 i5a i5b i5c i5d rfl rfl rfl q9 q10 h) rfl so ?_; intro l6 w7 h so
    refine wl_val (at_assign rfl) rfl ?_
    refine wl_nil ?_
    refine wk_prune [(2, .slice l6.a l6.n l6.c)] ⟨rfl, trivial⟩ (fun f1 => ?_)
    refine wk_then ?_
    refine wc_ret ?_
    exact wk_ret1 (x := l6) rfl (by decide) rfl so h
end Go.Proofs.Ytmnoecpnoofdjaa.G
