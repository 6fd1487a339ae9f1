import Derived.Test.YtkplpbnifinlbaaKshelf
import Derived.Test.YtkplpbnifinlbaaKmarker
import Derived.Test.YtkplpbnifinlbaaKmosaicref02
namespace Go.Proofs.Ytkplpbnifinlbaa.G
open Go.RowKit
set_option linter.unusedVariables false
/-- mosaic/mosaiclaw02.MarkerNames -/
def mosaiclaw02_MarkerNames.enc : Bool → Value := fun r => .bool r
def mosaiclaw02_MarkerNames.s (H0 : Hp) (Q : Bool → Hp → Prop) : Prop :=
  marker_Next.s (⟨#[255, 255, 216, 97, 255, 0, 255, 217]⟩ : ByteArray) 0 H0 (fun x1 H2 => nw H2 23 (c23 0 0 0) (fun p3 H4 => stA H4 p3 (c23 x1.1 x1.2.1 x1.2.2.1) (fun H5 => marker_Next.s (⟨#[255, 255, 216, 97, 255, 0, 255, 217]⟩ : ByteArray) 3 H5 (fun x6 H7 => nw H7 23 (c23 0 0 0) (fun p8 H9 => stA H9 p8 (c23 x6.1 x6.2.1 x6.2.2.1) (fun H10 => if x1.2.2.2 = true then (if x6.2.2.2 = true then (∃ x11 : Int, ∃ x12 : Int, ∃ x13 : Int, ldA H10 p3 (c23 x11 x12 x13) ∧ (if ((x11 == 1) && ((x12 == 3) && (x13 == 216))) = true then (∃ x15 : Int, ∃ x16 : Int, ∃ x17 : Int, ldA H10 p8 (c23 x15 x16 x17) ∧ (Q ((x15 == 6) && ((x16 == 8) && (x17 == 217))) H10)) else (Q false H10))) else (Q false H10)) else (Q false H10)))))))
set_option maxRecDepth 20000 in
set_option maxHeartbeats 4000000 in
theorem mosaiclaw02_MarkerNames.calls (w0 : World) (Q : Bool → Hp → Prop) (h : mosaiclaw02_MarkerNames.s w0.heap Q) :
    Ca Try.prog 3 #[] w0 (Rt mosaiclaw02_MarkerNames.enc Q w0) := by
  refine ca_start (c := _) Try.func3 rfl Try.ntmps3 rfl ?_
  have so : Sm w0 w0 := Sm.refl w0
  unfold mosaiclaw02_MarkerNames.s at h
  refine wc_prune [] trivial (fun f1 => ?_)
  refine wc_seq ?_
  refine wc_region ?_
  refine wl_val (at_assign rfl) rfl ?_
  refine wl_nil ?_
  refine wk_prune [] trivial (fun f1 => ?_)
  refine wk_then ?_
  refine wc_seq ?_
  refine wc_region ?_
  refine wl_callF (marker_Next.calls _ _ _ _ h) enter6 rfl trivial so ?_; intro x1 w2 h so
  refine wl_val (at_move rfl) rfl ?_
  refine wl_val (at_extract rfl rfl) rfl ?_
  refine wl_val (at_extract rfl rfl) rfl ?_
  refine wl_new (ef_alloc zero23 rfl) rfl so h ?_; intro p3 w4 h so
  refine wl_stA h rfl so (fun q => ef_storeA (by rw [len23]; exact sz23) rfl rfl (one23 _ _ _) q) ?_; intro w5 h so
  refine wl_val (at_assign rfl) rfl ?_
  refine wl_nil ?_
  refine wk_prune [(1, .pointer (some p3)), (2, .bool x1.2.2.2)] ⟨rfl, rfl, trivial⟩ (fun f1 => ?_)
  refine wk_then ?_
  refine wc_seq ?_
  refine wc_region ?_
  refine wl_callF (marker_Next.calls _ _ _ _ h) enter6 rfl trivial so ?_; intro x6 w7 h so
  refine wl_val (at_move rfl) rfl ?_
  refine wl_val (at_extract rfl rfl) rfl ?_
  refine wl_val (at_extract rfl rfl) rfl ?_
  refine wl_new (ef_alloc zero23 rfl) rfl so h ?_; intro p8 w9 h so
  refine wl_stA h rfl so (fun q => ef_storeA (by rw [len23]; exact sz23) rfl rfl (one23 _ _ _) q) ?_; intro w10 h so
  refine wl_val (at_assign rfl) rfl ?_
  refine wl_nil ?_
  refine wk_prune [(1, .pointer (some p3)), (2, .bool x1.2.2.2), (3, .pointer (some p8)), (4, .bool x6.2.2.2)] ⟨rfl, rfl, rfl, rfl, trivial⟩ (fun f1 => ?_)
  refine wk_then ?_
  refine wc_seq ?_
  refine wc_region ?_
  refine wl_val (at_move rfl) rfl ?_
  refine wl_on (t := 13) rfl (by decide) rfl ?_
  refine wl_val (at_move rfl) rfl ?_
  refine wl_val (at_pick_t rfl rfl) rfl ?_
  refine wl_val (at_move rfl) rfl ?_
  refine bif_ h (fun hb h => ?_) (fun hb h => ?_)
  · refine wl_set (t := 16) (v := .bool true) (congrArg Value.bool hb) ?_; clear hb
    refine wl_on (t := 16) rfl (by decide) rfl ?_
    refine wl_val (at_move rfl) rfl ?_
    refine wl_val (at_pick_t rfl rfl) rfl ?_
    refine wl_val (at_move rfl) rfl ?_
    refine bif_ h (fun hb h => ?_) (fun hb h => ?_)
    · refine wl_set (t := 19) (v := .bool true) (congrArg Value.bool hb) ?_; clear hb
      refine wl_on (t := 19) rfl (by decide) rfl ?_
      obtain ⟨x11, x12, x13, q14, h⟩ := h
      refine wl_val (at_loadA (cs := (c23 x11 x12 x13)) Try.underlying23 rfl (by rw [len23]; exact sz23) rfl q14) rfl ?_
      refine wl_on (t := 19) rfl (by decide) rfl ?_
      refine wl_val (at_build (cs := (c23 1 3 216)) (ps := [(0, .int .i64 1), (1, .int .i64 3), (2, .int .u8 216)]) rfl (fun w => by simp [Instr.build, Instr.fill, go_sem, Try.underlying23, z23])) rfl ?_
      refine wl_on (t := 19) rfl (by decide) rfl ?_
      refine wl_val (at_eqlA (xs := (c23 x11 x12 x13)) (ys := (c23 1 3 216)) rfl rfl (by kernel_rfl) (eqv_struct Try.underlying23 (by kernel_rfl) (eqf_cons rfl (pt_one (v := .int .i64 x11) Try.underlying3 rfl rfl) (pt_one (v := .int .i64 1) Try.underlying3 rfl rfl) (eqv_int Try.underlying3) (eqf_cons rfl (pt_one (v := .int .i64 x12) Try.underlying3 rfl rfl) (pt_one (v := .int .i64 3) Try.underlying3 rfl rfl) (eqv_int Try.underlying3) (eqf_last rfl (pt_one (v := .int .u8 x13) Try.underlying5 rfl rfl) (pt_one (v := .int .u8 216) Try.underlying5 rfl rfl) (eqv_int Try.underlying5)))))) rfl ?_
      refine wl_val (at_pick_t rfl rfl) rfl ?_
      refine wl_val (at_move rfl) rfl ?_
      refine bif_ h (fun hb h => ?_) (fun hb h => ?_)
      · refine wl_set (t := 24) (v := .bool true) (congrArg Value.bool hb) ?_; clear hb
        refine wl_on (t := 24) rfl (by decide) rfl ?_
        obtain ⟨x15, x16, x17, q18, h⟩ := h
        refine wl_val (at_loadA (cs := (c23 x15 x16 x17)) Try.underlying23 rfl (by rw [len23]; exact sz23) rfl q18) rfl ?_
        refine wl_on (t := 24) rfl (by decide) rfl ?_
        refine wl_val (at_build (cs := (c23 6 8 217)) (ps := [(0, .int .i64 6), (1, .int .i64 8), (2, .int .u8 217)]) rfl (fun w => by simp [Instr.build, Instr.fill, go_sem, Try.underlying23, z23])) rfl ?_
        refine wl_on (t := 24) rfl (by decide) rfl ?_
        refine wl_val (at_eqlA (xs := (c23 x15 x16 x17)) (ys := (c23 6 8 217)) rfl rfl (by kernel_rfl) (eqv_struct Try.underlying23 (by kernel_rfl) (eqf_cons rfl (pt_one (v := .int .i64 x15) Try.underlying3 rfl rfl) (pt_one (v := .int .i64 6) Try.underlying3 rfl rfl) (eqv_int Try.underlying3) (eqf_cons rfl (pt_one (v := .int .i64 x16) Try.underlying3 rfl rfl) (pt_one (v := .int .i64 8) Try.underlying3 rfl rfl) (eqv_int Try.underlying3) (eqf_last rfl (pt_one (v := .int .u8 x17) Try.underlying5 rfl rfl) (pt_one (v := .int .u8 217) Try.underlying5 rfl rfl) (eqv_int Try.underlying5)))))) rfl ?_
        refine wl_val (at_pick_t rfl rfl) rfl ?_
        refine wl_val (at_assign rfl) rfl ?_
        refine wl_nil ?_
        refine wk_prune [(0, .bool ((x15 == 6) && ((x16 == 8) && (x17 == 217))))] ⟨rfl, trivial⟩ (fun f1 => ?_)
        refine wk_then ?_
        refine wc_ret ?_
        exact wk_ret1 (x := ((x15 == 6) && ((x16 == 8) && (x17 == 217)))) rfl (by decide) rfl so h
      · refine wl_set (t := 24) (v := .bool false) (congrArg Value.bool hb) ?_; clear hb
        refine wl_off (t := 24) rfl (by decide) rfl ?_
        refine wl_off (t := 24) rfl (by decide) rfl ?_
        refine wl_off (t := 24) rfl (by decide) rfl ?_
        refine wl_val (at_pick_f rfl rfl) rfl ?_
        refine wl_val (at_assign rfl) rfl ?_
        refine wl_nil ?_
        refine wk_prune [(0, .bool false)] ⟨rfl, trivial⟩ (fun f1 => ?_)
        refine wk_then ?_
        refine wc_ret ?_
        exact wk_ret1 (x := false) rfl (by decide) rfl so h
    · refine wl_set (t := 19) (v := .bool false) (congrArg Value.bool hb) ?_; clear hb
      refine wl_off (t := 19) rfl (by decide) rfl ?_
      refine wl_off (t := 19) rfl (by decide) rfl ?_
      refine wl_off (t := 19) rfl (by decide) rfl ?_
      refine wl_val (at_pick_f rfl rfl) rfl ?_
      refine wl_val (at_move rfl) rfl ?_
      refine wl_off (t := 24) rfl (by decide) rfl ?_
      refine wl_off (t := 24) rfl (by decide) rfl ?_
      refine wl_off (t := 24) rfl (by decide) rfl ?_
      refine wl_val (at_pick_f rfl rfl) rfl ?_
      refine wl_val (at_assign rfl) rfl ?_
      refine wl_nil ?_
      refine wk_prune [(0, .bool false)] ⟨rfl, trivial⟩ (fun f1 => ?_)
      refine wk_then ?_
      refine wc_ret ?_
      exact wk_ret1 (x := false) rfl (by decide) rfl so h
  · refine wl_set (t := 16) (v := .bool false) (congrArg Value.bool hb) ?_; clear hb
    refine wl_off (t := 16) rfl (by decide) rfl ?_
    refine wl_val (at_pick_f rfl rfl) rfl ?_
    refine wl_val (at_move rfl) rfl ?_
    refine wl_off (t := 19) rfl (by decide) rfl ?_
    refine wl_off (t := 19) rfl (by decide) rfl ?_
    refine wl_off (t := 19) rfl (by decide) rfl ?_
    refine wl_val (at_pick_f rfl rfl) rfl ?_
    refine wl_val (at_move rfl) rfl ?_
    refine wl_off (t := 24) rfl (by decide) rfl ?_
    refine wl_off (t := 24) rfl (by decide) rfl ?_
    refine wl_off (t := 24) rfl (by decide) rfl ?_
    refine wl_val (at_pick_f rfl rfl) rfl ?_
    refine wl_val (at_assign rfl) rfl ?_
    refine wl_nil ?_
    refine wk_prune [(0, .bool false)] ⟨rfl, trivial⟩ (fun f1 => ?_)
    refine wk_then ?_
    refine wc_ret ?_
    exact wk_ret1 (x := false) rfl (by decide) rfl so h

/-- mosaic/mosaiclaw02.MarkerNext -/
def mosaiclaw02_MarkerNext.enc : Bool → Value := fun r => .bool r
def mosaiclaw02_MarkerNext.s (a0 : ByteArray) (a1 : Int) (H0 : Hp) (Q : Bool → Hp → Prop) : Prop :=
  marker_Next.s a0 a1 H0 (fun x1 H2 => nw H2 23 (c23 0 0 0) (fun p3 H4 => stA H4 p3 (c23 x1.1 x1.2.1 x1.2.2.1) (fun H5 => mosaicref02_Next.s a0 a1 H5 (fun x6 H7 => nw H7 23 (c23 0 0 0) (fun p8 H9 => stA H9 p8 (c23 x6.1 x6.2.1 x6.2.2.1) (fun H10 => ∃ x11 : Int, ∃ x12 : Int, ∃ x13 : Int, ldA H10 p3 (c23 x11 x12 x13) ∧ (∃ x15 : Int, ∃ x16 : Int, ∃ x17 : Int, ldA H10 p8 (c23 x15 x16 x17) ∧ (if ((x11 == x15) && ((x12 == x16) && (x13 == x17))) = true then (Q (x1.2.2.2 == x6.2.2.2) H10) else (Q false H10)))))))))
set_option maxRecDepth 20000 in
set_option maxHeartbeats 4000000 in
theorem mosaiclaw02_MarkerNext.calls (a0 : ByteArray) (a1 : Int) (w0 : World) (Q : Bool → Hp → Prop) (h : mosaiclaw02_MarkerNext.s a0 a1 w0.heap Q) :
    Ca Try.prog 4 #[.string a0, .int .i64 a1] w0 (Rt mosaiclaw02_MarkerNext.enc Q w0) := by
  refine ca_start (c := _) Try.func4 rfl Try.ntmps4 rfl ?_
  have so : Sm w0 w0 := Sm.refl w0
  unfold mosaiclaw02_MarkerNext.s at h
  refine wc_prune [(0, .string a0), (1, .int .i64 a1)] ⟨rfl, rfl, trivial⟩ (fun f1 => ?_)
  refine wc_seq ?_
  refine wc_region ?_
  refine wl_val (at_assign rfl) rfl ?_
  refine wl_nil ?_
  refine wk_prune [(0, .string a0), (1, .int .i64 a1)] ⟨rfl, rfl, trivial⟩ (fun f1 => ?_)
  refine wk_then ?_
  refine wc_seq ?_
  refine wc_region ?_
  refine wl_val (at_move rfl) rfl ?_
  refine wl_val (at_move rfl) rfl ?_
  refine wl_callF (marker_Next.calls _ _ _ _ h) enter6 rfl trivial so ?_; intro x1 w2 h so
  refine wl_val (at_move rfl) rfl ?_
  refine wl_val (at_extract rfl rfl) rfl ?_
  refine wl_val (at_extract rfl rfl) rfl ?_
  refine wl_new (ef_alloc zero23 rfl) rfl so h ?_; intro p3 w4 h so
  refine wl_stA h rfl so (fun q => ef_storeA (by rw [len23]; exact sz23) rfl rfl (one23 _ _ _) q) ?_; intro w5 h so
  refine wl_val (at_assign rfl) rfl ?_
  refine wl_nil ?_
  refine wk_prune [(0, .string a0), (1, .int .i64 a1), (5, .pointer (some p3)), (6, .bool x1.2.2.2)] ⟨rfl, rfl, rfl, rfl, trivial⟩ (fun f1 => ?_)
  refine wk_then ?_
  refine wc_seq ?_
  refine wc_region ?_
  refine wl_val (at_move rfl) rfl ?_
  refine wl_val (at_move rfl) rfl ?_
  refine wl_callF (mosaicref02_Next.calls _ _ _ _ h) enter7 rfl trivial so ?_; intro x6 w7 h so
  refine wl_val (at_move rfl) rfl ?_
  refine wl_val (at_extract rfl rfl) rfl ?_
  refine wl_val (at_extract rfl rfl) rfl ?_
  refine wl_new (ef_alloc zero23 rfl) rfl so h ?_; intro p8 w9 h so
  refine wl_stA h rfl so (fun q => ef_storeA (by rw [len23]; exact sz23) rfl rfl (one23 _ _ _) q) ?_; intro w10 h so
  refine wl_val (at_assign rfl) rfl ?_
  refine wl_nil ?_
  refine wk_prune [(5, .pointer (some p3)), (6, .bool x1.2.2.2), (7, .pointer (some p8)), (8, .bool x6.2.2.2)] ⟨rfl, rfl, rfl, rfl, trivial⟩ (fun f1 => ?_)
  refine wk_then ?_
  refine wc_seq ?_
  refine wc_region ?_
  obtain ⟨x11, x12, x13, q14, h⟩ := h
  refine wl_val (at_loadA (cs := (c23 x11 x12 x13)) Try.underlying23 rfl (by rw [len23]; exact sz23) rfl q14) rfl ?_
  obtain ⟨x15, x16, x17, q18, h⟩ := h
  refine wl_val (at_loadA (cs := (c23 x15 x16 x17)) Try.underlying23 rfl (by rw [len23]; exact sz23) rfl q18) rfl ?_
  refine wl_val (at_eqlA (xs := (c23 x11 x12 x13)) (ys := (c23 x15 x16 x17)) rfl rfl (by kernel_rfl) (eqv_struct Try.underlying23 (by kernel_rfl) (eqf_cons rfl (pt_one (v := .int .i64 x11) Try.underlying3 rfl rfl) (pt_one (v := .int .i64 x15) Try.underlying3 rfl rfl) (eqv_int Try.underlying3) (eqf_cons rfl (pt_one (v := .int .i64 x12) Try.underlying3 rfl rfl) (pt_one (v := .int .i64 x16) Try.underlying3 rfl rfl) (eqv_int Try.underlying3) (eqf_last rfl (pt_one (v := .int .u8 x13) Try.underlying5 rfl rfl) (pt_one (v := .int .u8 x17) Try.underlying5 rfl rfl) (eqv_int Try.underlying5)))))) rfl ?_
  refine wl_val (at_move rfl) rfl ?_
  refine bif_ h (fun hb h => ?_) (fun hb h => ?_)
  · refine wl_set (t := 24) (v := .bool true) (congrArg Value.bool hb) ?_; clear hb
    refine wl_on (t := 24) rfl (by decide) rfl ?_
    refine wl_val (at_move rfl) rfl ?_
    refine wl_on (t := 24) rfl (by decide) rfl ?_
    refine wl_val (at_move rfl) rfl ?_
    refine wl_on (t := 24) rfl (by decide) rfl ?_
    refine wl_val (at_eqlB Try.underlying4 rfl rfl) rfl ?_
    refine wl_val (at_pick_t rfl rfl) rfl ?_
    refine wl_val (at_assign rfl) rfl ?_
    refine wl_nil ?_
    refine wk_prune [(4, .bool (x1.2.2.2 == x6.2.2.2))] ⟨rfl, trivial⟩ (fun f1 => ?_)
    refine wk_then ?_
    refine wc_ret ?_
    exact wk_ret1 (x := (x1.2.2.2 == x6.2.2.2)) rfl (by decide) rfl so h
  · refine wl_set (t := 24) (v := .bool false) (congrArg Value.bool hb) ?_; clear hb
    refine wl_off (t := 24) rfl (by decide) rfl ?_
    refine wl_off (t := 24) rfl (by decide) rfl ?_
    refine wl_off (t := 24) rfl (by decide) rfl ?_
    refine wl_val (at_pick_f rfl rfl) rfl ?_
    refine wl_val (at_assign rfl) rfl ?_
    refine wl_nil ?_
    refine wk_prune [(4, .bool false)] ⟨rfl, trivial⟩ (fun f1 => ?_)
    refine wk_then ?_
    refine wc_ret ?_
    exact wk_ret1 (x := false) rfl (by decide) rfl so h
end Go.Proofs.Ytkplpbnifinlbaa.G
