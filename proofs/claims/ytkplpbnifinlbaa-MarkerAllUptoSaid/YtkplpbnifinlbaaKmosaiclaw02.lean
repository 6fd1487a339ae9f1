import Derived.Test.YtkplpbnifinlbaaKshelf
import Derived.Test.YtkplpbnifinlbaaKmarker
import Derived.Test.YtkplpbnifinlbaaKmosaicref02
namespace Go.Proofs.Ytkplpbnifinlbaa.G
open Go.RowKit
set_option linter.unusedVariables false
set_option linter.unusedSimpArgs false
/-- mosaic/mosaiclaw02.MarkerNames -/
def mosaiclaw02_MarkerNames.enc : Bool → Value := fun r => .bool r
def mosaiclaw02_MarkerNames.s (H0 : Hp) (Q : Bool → Hp → Prop) : Prop :=
  marker_Next.s (⟨#[255, 255, 216, 97, 255, 0, 255, 217]⟩ : ByteArray) 0 H0 (fun x1 H2 => nw H2 23 (c23 0 0 0) (fun p3 H4 => stA H4 p3 (c23 x1.1 x1.2.1 x1.2.2.1) (fun H5 => marker_Next.s (⟨#[255, 255, 216, 97, 255, 0, 255, 217]⟩ : ByteArray) 3 H5 (fun x6 H7 => nw H7 23 (c23 0 0 0) (fun p8 H9 => stA H9 p8 (c23 x6.1 x6.2.1 x6.2.2.1) (fun H10 => if x1.2.2.2 = true then (if x6.2.2.2 = true then (∃ x11 : Int, ∃ x12 : Int, ∃ x13 : Int, ldA H10 p3 (c23 x11 x12 x13) ∧ (if ((x11 == 1) && ((x12 == 3) && (x13 == 216))) = true then (∃ x15 : Int, ∃ x16 : Int, ∃ x17 : Int, ldA H10 p8 (c23 x15 x16 x17) ∧ (Q ((x15 == 6) && ((x16 == 8) && (x17 == 217))) H10)) else (Q false H10))) else (Q false H10)) else (Q false H10)))))))
set_option maxRecDepth 20000 in
set_option maxHeartbeats 4000000 in
theorem mosaiclaw02_MarkerNames.calls (w0 : World) (Q : Bool → Hp → Prop) (h : mosaiclaw02_MarkerNames.s w0.heap Q) :
    Ca Try.prog 3 #[] w0 (Rt mosaiclaw02_MarkerNames.enc Q w0) := by
  refine ca_start (c := _) Try.func3 rfl Try.ntmps3 rfl ?_
  have so : Sm w0 w0 := Sm.refl w0
  unfold mosaiclaw02_MarkerNames.s at h
  refine wc_prune [] trivial (fun f1 => ?_)
  refine wc_seq ?_
  refine wc_region ?_
  refine wl_val (at_assign rfl) rfl ?_
  refine wl_nil ?_
  refine wk_prune [] trivial (fun f1 => ?_)
  refine wk_then ?_
  refine wc_seq ?_
  refine wc_region ?_
  refine wl_callF (marker_Next.calls _ _ _ _ h) enter6 rfl trivial so ?_; intro x1 w2 h so
  refine wl_val (at_move rfl) rfl ?_
  refine wl_val (at_extract rfl rfl) rfl ?_
  refine wl_val (at_extract rfl rfl) rfl ?_
  refine wl_new (ef_alloc zero23 rfl) rfl so h ?_; intro p3 w4 h so
  refine wl_stA h rfl so (fun q => ef_storeA (by rw [len23]; exact sz23) rfl rfl (one23 _ _ _) q) ?_; intro w5 h so
  refine wl_val (at_assign rfl) rfl ?_
  refine wl_nil ?_
  refine wk_prune [(1, .pointer (some p3)), (2, .bool x1.2.2.2)] ⟨rfl, rfl, trivial⟩ (fun f1 => ?_)
  refine wk_then ?_
  refine wc_seq ?_
  refine wc_region ?_
  refine wl_callF (marker_Next.calls _ _ _ _ h) enter6 rfl trivial so ?_; intro x6 w7 h so
  refine wl_val (at_move rfl) rfl ?_
  refine wl_val (at_extract rfl rfl) rfl ?_
  refine wl_val (at_extract rfl rfl) rfl ?_
  refine wl_new (ef_alloc zero23 rfl) rfl so h ?_; intro p8 w9 h so
  refine wl_stA h rfl so (fun q => ef_storeA (by rw [len23]; exact sz23) rfl rfl (one23 _ _ _) q) ?_; intro w10 h so
  refine wl_val (at_assign rfl) rfl ?_
  refine wl_nil ?_
  refine wk_prune [(1, .pointer (some p3)), (2, .bool x1.2.2.2), (3, .pointer (some p8)), (4, .bool x6.2.2.2)] ⟨rfl, rfl, rfl, rfl, trivial⟩ (fun f1 => ?_)
  refine wk_then ?_
  refine wc_seq ?_
  refine wc_region ?_
  refine wl_val (at_move rfl) rfl ?_
  refine wl_on (t := 13) rfl (by decide) rfl ?_
  refine wl_val (at_move rfl) rfl ?_
  refine wl_val (at_pick_t rfl rfl) rfl ?_
  refine wl_val (at_move rfl) rfl ?_
  refine bif_ h (fun hb h => ?_) (fun hb h => ?_)
  · refine wl_set (t := 16) (v := .bool true) (congrArg Value.bool hb) ?_; clear hb
    refine wl_on (t := 16) rfl (by decide) rfl ?_
    refine wl_val (at_move rfl) rfl ?_
    refine wl_val (at_pick_t rfl rfl) rfl ?_
    refine wl_val (at_move rfl) rfl ?_
    refine bif_ h (fun hb h => ?_) (fun hb h => ?_)
    · refine wl_set (t := 19) (v := .bool true) (congrArg Value.bool hb) ?_; clear hb
      refine wl_on (t := 19) rfl (by decide) rfl ?_
      obtain ⟨x11, x12, x13, q14, h⟩ := h
      refine wl_val (at_loadA (cs := (c23 x11 x12 x13)) Try.underlying23 rfl (by rw [len23]; exact sz23) rfl q14) rfl ?_
      refine wl_on (t := 19) rfl (by decide) rfl ?_
      refine wl_val (at_build (cs := (c23 1 3 216)) (ps := [(0, .int .i64 1), (1, .int .i64 3), (2, .int .u8 216)]) rfl (fun w => by simp [Instr.build, Instr.fill, go_sem, Try.underlying23, z23])) rfl ?_
      refine wl_on (t := 19) rfl (by decide) rfl ?_
      refine wl_val (at_eqlA (xs := (c23 x11 x12 x13)) (ys := (c23 1 3 216)) rfl rfl (by kernel_rfl) (eqv_struct Try.underlying23 (by kernel_rfl) (eqf_cons rfl (pt_one (v := .int .i64 x11) Try.underlying3 rfl rfl) (pt_one (v := .int .i64 1) Try.underlying3 rfl rfl) (eqv_int Try.underlying3) (eqf_cons rfl (pt_one (v := .int .i64 x12) Try.underlying3 rfl rfl) (pt_one (v := .int .i64 3) Try.underlying3 rfl rfl) (eqv_int Try.underlying3) (eqf_last rfl (pt_one (v := .int .u8 x13) Try.underlying5 rfl rfl) (pt_one (v := .int .u8 216) Try.underlying5 rfl rfl) (eqv_int Try.underlying5)))))) rfl ?_
      refine wl_val (at_pick_t rfl rfl) rfl ?_
      refine wl_val (at_move rfl) rfl ?_
      refine bif_ h (fun hb h => ?_) (fun hb h => ?_)
      · refine wl_set (t := 24) (v := .bool true) (congrArg Value.bool hb) ?_; clear hb
        refine wl_on (t := 24) rfl (by decide) rfl ?_
        obtain ⟨x15, x16, x17, q18, h⟩ := h
        refine wl_val (at_loadA (cs := (c23 x15 x16 x17)) Try.underlying23 rfl (by rw [len23]; exact sz23) rfl q18) rfl ?_
        refine wl_on (t := 24) rfl (by decide) rfl ?_
        refine wl_val (at_build (cs := (c23 6 8 217)) (ps := [(0, .int .i64 6), (1, .int .i64 8), (2, .int .u8 217)]) rfl (fun w => by simp [Instr.build, Instr.fill, go_sem, Try.underlying23, z23])) rfl ?_
        refine wl_on (t := 24) rfl (by decide) rfl ?_
        refine wl_val (at_eqlA (xs := (c23 x15 x16 x17)) (ys := (c23 6 8 217)) rfl rfl (by kernel_rfl) (eqv_struct Try.underlying23 (by kernel_rfl) (eqf_cons rfl (pt_one (v := .int .i64 x15) Try.underlying3 rfl rfl) (pt_one (v := .int .i64 6) Try.underlying3 rfl rfl) (eqv_int Try.underlying3) (eqf_cons rfl (pt_one (v := .int .i64 x16) Try.underlying3 rfl rfl) (pt_one (v := .int .i64 8) Try.underlying3 rfl rfl) (eqv_int Try.underlying3) (eqf_last rfl (pt_one (v := .int .u8 x17) Try.underlying5 rfl rfl) (pt_one (v := .int .u8 217) Try.underlying5 rfl rfl) (eqv_int Try.underlying5)))))) rfl ?_
        refine wl_val (at_pick_t rfl rfl) rfl ?_
        refine wl_val (at_assign rfl) rfl ?_
        refine wl_nil ?_
        refine wk_prune [(0, .bool ((x15 == 6) && ((x16 == 8) && (x17 == 217))))] ⟨rfl, trivial⟩ (fun f1 => ?_)
        refine wk_then ?_
        refine wc_ret ?_
        exact wk_ret1 (x := ((x15 == 6) && ((x16 == 8) && (x17 == 217)))) rfl (by decide) rfl so h
      · refine wl_set (t := 24) (v := .bool false) (congrArg Value.bool hb) ?_; clear hb
        refine wl_off (t := 24) rfl (by decide) rfl ?_
        refine wl_off (t := 24) rfl (by decide) rfl ?_
        refine wl_off (t := 24) rfl (by decide) rfl ?_
        refine wl_val (at_pick_f rfl rfl) rfl ?_
        refine wl_val (at_assign rfl) rfl ?_
        refine wl_nil ?_
        refine wk_prune [(0, .bool false)] ⟨rfl, trivial⟩ (fun f1 => ?_)
        refine wk_then ?_
        refine wc_ret ?_
        exact wk_ret1 (x := false) rfl (by decide) rfl so h
    · refine wl_set (t := 19) (v := .bool false) (congrArg Value.bool hb) ?_; clear hb
      refine wl_off (t := 19) rfl (by decide) rfl ?_
      refine wl_off (t := 19) rfl (by decide) rfl ?_
      refine wl_off (t := 19) rfl (by decide) rfl ?_
      refine wl_val (at_pick_f rfl rfl) rfl ?_
      refine wl_val (at_move rfl) rfl ?_
      refine wl_off (t := 24) rfl (by decide) rfl ?_
      refine wl_off (t := 24) rfl (by decide) rfl ?_
      refine wl_off (t := 24) rfl (by decide) rfl ?_
      refine wl_val (at_pick_f rfl rfl) rfl ?_
      refine wl_val (at_assign rfl) rfl ?_
      refine wl_nil ?_
      refine wk_prune [(0, .bool false)] ⟨rfl, trivial⟩ (fun f1 => ?_)
      refine wk_then ?_
      refine wc_ret ?_
      exact wk_ret1 (x := false) rfl (by decide) rfl so h
  · refine wl_set (t := 16) (v := .bool false) (congrArg Value.bool hb) ?_; clear hb
    refine wl_off (t := 16) rfl (by decide) rfl ?_
    refine wl_val (at_pick_f rfl rfl) rfl ?_
    refine wl_val (at_move rfl) rfl ?_
    refine wl_off (t := 19) rfl (by decide) rfl ?_
    refine wl_off (t := 19) rfl (by decide) rfl ?_
    refine wl_off (t := 19) rfl (by decide) rfl ?_
    refine wl_val (at_pick_f rfl rfl) rfl ?_
    refine wl_val (at_move rfl) rfl ?_
    refine wl_off (t := 24) rfl (by decide) rfl ?_
    refine wl_off (t := 24) rfl (by decide) rfl ?_
    refine wl_off (t := 24) rfl (by decide) rfl ?_
    refine wl_val (at_pick_f rfl rfl) rfl ?_
    refine wl_val (at_assign rfl) rfl ?_
    refine wl_nil ?_
    refine wk_prune [(0, .bool false)] ⟨rfl, trivial⟩ (fun f1 => ?_)
    refine wk_then ?_
    refine wc_ret ?_
    exact wk_ret1 (x := false) rfl (by decide) rfl so h

/-- mosaic/mosaiclaw02.MarkerNext -/
def mosaiclaw02_MarkerNext.enc : Bool → Value := fun r => .bool r
def mosaiclaw02_MarkerNext.s (a0 : ByteArray) (a1 : Int) (H0 : Hp) (Q : Bool → Hp → Prop) : Prop :=
  marker_Next.s a0 a1 H0 (fun x1 H2 => nw H2 23 (c23 0 0 0) (fun p3 H4 => stA H4 p3 (c23 x1.1 x1.2.1 x1.2.2.1) (fun H5 => mosaicref02_Next.s a0 a1 H5 (fun x6 H7 => nw H7 23 (c23 0 0 0) (fun p8 H9 => stA H9 p8 (c23 x6.1 x6.2.1 x6.2.2.1) (fun H10 => ∃ x11 : Int, ∃ x12 : Int, ∃ x13 : Int, ldA H10 p3 (c23 x11 x12 x13) ∧ (∃ x15 : Int, ∃ x16 : Int, ∃ x17 : Int, ldA H10 p8 (c23 x15 x16 x17) ∧ (if ((x11 == x15) && ((x12 == x16) && (x13 == x17))) = true then (Q (x1.2.2.2 == x6.2.2.2) H10) else (Q false H10)))))))))
set_option maxRecDepth 20000 in
set_option maxHeartbeats 4000000 in
theorem mosaiclaw02_MarkerNext.calls (a0 : ByteArray) (a1 : Int) (w0 : World) (Q : Bool → Hp → Prop) (h : mosaiclaw02_MarkerNext.s a0 a1 w0.heap Q) :
    Ca Try.prog 4 #[.string a0, .int .i64 a1] w0 (Rt mosaiclaw02_MarkerNext.enc Q w0) := by
  refine ca_start (c := _) Try.func4 rfl Try.ntmps4 rfl ?_
  have so : Sm w0 w0 := Sm.refl w0
  unfold mosaiclaw02_MarkerNext.s at h
  refine wc_prune [(0, .string a0), (1, .int .i64 a1)] ⟨rfl, rfl, trivial⟩ (fun f1 => ?_)
  refine wc_seq ?_
  refine wc_region ?_
  refine wl_val (at_assign rfl) rfl ?_
  refine wl_nil ?_
  refine wk_prune [(0, .string a0), (1, .int .i64 a1)] ⟨rfl, rfl, trivial⟩ (fun f1 => ?_)
  refine wk_then ?_
  refine wc_seq ?_
  refine wc_region ?_
  refine wl_val (at_move rfl) rfl ?_
  refine wl_val (at_move rfl) rfl ?_
  refine wl_callF (marker_Next.calls _ _ _ _ h) enter6 rfl trivial so ?_; intro x1 w2 h so
  refine wl_val (at_move rfl) rfl ?_
  refine wl_val (at_extract rfl rfl) rfl ?_
  refine wl_val (at_extract rfl rfl) rfl ?_
  refine wl_new (ef_alloc zero23 rfl) rfl so h ?_; intro p3 w4 h so
  refine wl_stA h rfl so (fun q => ef_storeA (by rw [len23]; exact sz23) rfl rfl (one23 _ _ _) q) ?_; intro w5 h so
  refine wl_val (at_assign rfl) rfl ?_
  refine wl_nil ?_
  refine wk_prune [(0, .string a0), (1, .int .i64 a1), (5, .pointer (some p3)), (6, .bool x1.2.2.2)] ⟨rfl, rfl, rfl, rfl, trivial⟩ (fun f1 => ?_)
  refine wk_then ?_
  refine wc_seq ?_
  refine wc_region ?_
  refine wl_val (at_move rfl) rfl ?_
  refine wl_val (at_move rfl) rfl ?_
  refine wl_callF (mosaicref02_Next.calls _ _ _ _ h) enter7 rfl trivial so ?_; intro x6 w7 h so
  refine wl_val (at_move rfl) rfl ?_
  refine wl_val (at_extract rfl rfl) rfl ?_
  refine wl_val (at_extract rfl rfl) rfl ?_
  refine wl_new (ef_alloc zero23 rfl) rfl so h ?_; intro p8 w9 h so
  refine wl_stA h rfl so (fun q => ef_storeA (by rw [len23]; exact sz23) rfl rfl (one23 _ _ _) q) ?_; intro w10 h so
  refine wl_val (at_assign rfl) rfl ?_
  refine wl_nil ?_
  refine wk_prune [(5, .pointer (some p3)), (6, .bool x1.2.2.2), (7, .pointer (some p8)), (8, .bool x6.2.2.2)] ⟨rfl, rfl, rfl, rfl, trivial⟩ (fun f1 => ?_)
  refine wk_then ?_
  refine wc_seq ?_
  refine wc_region ?_
  obtain ⟨x11, x12, x13, q14, h⟩ := h
  refine wl_val (at_loadA (cs := (c23 x11 x12 x13)) Try.underlying23 rfl (by rw [len23]; exact sz23) rfl q14) rfl ?_
  obtain ⟨x15, x16, x17, q18, h⟩ := h
  refine wl_val (at_loadA (cs := (c23 x15 x16 x17)) Try.underlying23 rfl (by rw [len23]; exact sz23) rfl q18) rfl ?_
  refine wl_val (at_eqlA (xs := (c23 x11 x12 x13)) (ys := (c23 x15 x16 x17)) rfl rfl (by kernel_rfl) (eqv_struct Try.underlying23 (by kernel_rfl) (eqf_cons rfl (pt_one (v := .int .i64 x11) Try.underlying3 rfl rfl) (pt_one (v := .int .i64 x15) Try.underlying3 rfl rfl) (eqv_int Try.underlying3) (eqf_cons rfl (pt_one (v := .int .i64 x12) Try.underlying3 rfl rfl) (pt_one (v := .int .i64 x16) Try.underlying3 rfl rfl) (eqv_int Try.underlying3) (eqf_last rfl (pt_one (v := .int .u8 x13) Try.underlying5 rfl rfl) (pt_one (v := .int .u8 x17) Try.underlying5 rfl rfl) (eqv_int Try.underlying5)))))) rfl ?_
  refine wl_val (at_move rfl) rfl ?_
  refine bif_ h (fun hb h => ?_) (fun hb h => ?_)
  · refine wl_set (t := 24) (v := .bool true) (congrArg Value.bool hb) ?_; clear hb
    refine wl_on (t := 24) rfl (by decide) rfl ?_
    refine wl_val (at_move rfl) rfl ?_
    refine wl_on (t := 24) rfl (by decide) rfl ?_
    refine wl_val (at_move rfl) rfl ?_
    refine wl_on (t := 24) rfl (by decide) rfl ?_
    refine wl_val (at_eqlB Try.underlying4 rfl rfl) rfl ?_
    refine wl_val (at_pick_t rfl rfl) rfl ?_
    refine wl_val (at_assign rfl) rfl ?_
    refine wl_nil ?_
    refine wk_prune [(4, .bool (x1.2.2.2 == x6.2.2.2))] ⟨rfl, trivial⟩ (fun f1 => ?_)
    refine wk_then ?_
    refine wc_ret ?_
    exact wk_ret1 (x := (x1.2.2.2 == x6.2.2.2)) rfl (by decide) rfl so h
  · refine wl_set (t := 24) (v := .bool false) (congrArg Value.bool hb) ?_; clear hb
    refine wl_off (t := 24) rfl (by decide) rfl ?_
    refine wl_off (t := 24) rfl (by decide) rfl ?_
    refine wl_off (t := 24) rfl (by decide) rfl ?_
    refine wl_val (at_pick_f rfl rfl) rfl ?_
    refine wl_val (at_assign rfl) rfl ?_
    refine wl_nil ?_
    refine wk_prune [(4, .bool false)] ⟨rfl, trivial⟩ (fun f1 => ?_)
    refine wk_then ?_
    refine wc_ret ?_
    exact wk_ret1 (x := false) rfl (by decide) rfl so h

/-- mosaic/mosaiclaw02.MarkerAll -/
def mosaiclaw02_MarkerAll.enc : Bool → Value := fun r => .bool r
def mosaiclaw02_MarkerAll.s (a0 : ByteArray) (a1 : Int) (H0 : Hp) (Q : Bool → Hp → Prop) : Prop :=
  nw H0 3 [.int .i64 a1] (fun p1 H2 => nw H2 4 [.bool false] (fun p3 H4 => mosaicref02_All.s a0 H4 (fun x5 H6 => nw H6 28 [.slice none 0 0] (fun p7 H8 => st H8 p7 (.slice x5.a x5.n x5.c) (fun H9 => marker_All.s a0 H9 (fun x10 H11 => nw H11 3 [.int .i64 0] (fun p12 H13 => st H13 p12 (.int .i64 0) (fun H14 => Join (fun (s16 : (List Nat)) (H17 : Hp) => st H17 p12 (.int .i64 0) (fun H18 => Rg H18 (fun r19 D27 H22 => marker_All_1.s (fun (x23 : Int × Int × Int) (H25 : Hp) (K24 : Bool → Hp → Prop) => Lp H25 (D27 + 1) r19 ∧ (nw H25 23 (c23 0 0 0) (fun p28 H29 => stA H29 p28 (c23 x23.1 x23.2.1 x23.2.2) (fun H30 => Lp H30 (D27 + 1) r19 ∧ Up (putL H30 (D27 + 1) (bsy r19)) (fun H31 => Join (fun (s33 : Bool) (H34 : Hp) => if s33 = true then (st H34 p3 (.bool false) (fun H31 => Lp H31 (D27 + 1) (bsy r19) ∧ K24 false (putL H31 (D27 + 1) (dn r19 .ret)))) else (ldI .i64 H34 p12 (fun x36 => st H34 p12 (.int .i64 (IntKind.wrap .i64 (x36 + 1))) (fun H38 => Lp H38 (D27 + 1) (bsy r19) ∧ K24 true (putL H38 (D27 + 1) r19))))) (fun (J32 : Bool → Hp → Prop) => ldI .i64 H31 p12 (fun x40 => ldL H31 p7 (fun x42 => if decide ((x42.n : Int) ≤ x40) = true then (J32 (true) H31) else (∃ x44 : Int, ∃ x45 : Int, ∃ x46 : Int, ldA H31 p28 (c23 x44 x45 x46) ∧ (ldL H31 p7 (fun x48 => ldI .i64 H31 p12 (fun x50 => 0 ≤ x50 ∧ x50 < (x48.n : Int) ∧ someA x48.a (fun p54 => ∃ x56 : Int, ∃ x57 : Int, ∃ x58 : Int, ldA H31 (p54.add (Int.toNat x50 * 3)) (c23 x56 x57 x58) ∧ (J32 ((!((x44 == x56) && ((x45 == x57) && (x46 == x58))))) H31)))))))))))))) x10 H22 (fun _ H26 => (Lp H26 (D27 + 1) r19 ∧ Up (putL H26 (D27 + 1) (exh r19)) (fun H61 => ldI .i64 H61 p12 (fun x62 => ldL H61 p7 (fun x64 => st H61 p3 (.bool (x62 == (x64.n : Int))) (fun H66 => tkD (D27 :: s16) H66 (fun H67 => ldB H67 p3 (fun x69 => Q x69 H67))))))) ∨ (Lp H26 (D27 + 1) (dn r19 .ret) ∧ Up (putL H26 (D27 + 1) (exh (dn r19 .ret))) (fun H70 => tkD (D27 :: s16) H70 (fun H71 => ldB H71 p3 (fun x73 => Q x73 H71)))))))) (fun (J15 : (List Nat) → Hp → Prop) => ldI .i64 H14 p1 (fun x74 => if decide ((0 : Int) < x74) = true then (Join (fun (s77 : (List Nat)) (H78 : Hp) => Join (fun (s80 : Bool) (H81 : Hp) => if s80 = true then (st H81 p3 (.bool false) (fun H82 => tkD s77 H82 (fun H83 => ldB H83 p3 (fun x85 => Q x85 H83)))) else (J15 (s77) H81)) (fun (J79 : Bool → Hp → Prop) => ldI .i64 H78 p12 (fun x86 => ldI .i64 H78 p1 (fun x88 => if (x86 != x88) = true then (ldI .i64 H78 p12 (fun x90 => ldL H78 p7 (fun x92 => J79 ((x90 != (x92.n : Int))) H78))) else (J79 (false) H78))))) (fun (J76 : (List Nat) → Hp → Prop) => Rg H14 (fun r94 D102 H97 => marker_All_1.s (fun (x98 : Int × Int × Int) (H100 : Hp) (K99 : Bool → Hp → Prop) => Lp H100 (D102 + 1) r94 ∧ (nw H100 23 (c23 0 0 0) (fun p103 H104 => stA H104 p103 (c23 x98.1 x98.2.1 x98.2.2) (fun H105 => Lp H105 (D102 + 1) r94 ∧ Up (putL H105 (D102 + 1) (bsy r94)) (fun H106 => Join (fun (s108 : Bool) (H109 : Hp) => if s108 = true then (st H109 p3 (.bool false) (fun H106 => Lp H106 (D102 + 1) (bsy r94) ∧ K99 false (putL H106 (D102 + 1) (dn r94 .ret)))) else (ldI .i64 H109 p12 (fun x111 => st H109 p12 (.int .i64 (IntKind.wrap .i64 (x111 + 1))) (fun H113 => ldI .i64 H113 p12 (fun x114 => ldI .i64 H113 p1 (fun x116 => if (x114 == x116) = true then (Lp H113 (D102 + 1) (bsy r94) ∧ K99 false (putL H113 (D102 + 1) (dn r94 (.exit 0)))) else (Lp H113 (D102 + 1) (bsy r94) ∧ K99 true (putL H113 (D102 + 1) r94)))))))) (fun (J107 : Bool → Hp → Prop) => ldI .i64 H106 p12 (fun x119 => ldL H106 p7 (fun x121 => if decide ((x121.n : Int) ≤ x119) = true then (J107 (true) H106) else (∃ x123 : Int, ∃ x124 : Int, ∃ x125 : Int, ldA H106 p103 (c23 x123 x124 x125) ∧ (ldL H106 p7 (fun x127 => ldI .i64 H106 p12 (fun x129 => 0 ≤ x129 ∧ x129 < (x127.n : Int) ∧ someA x127.a (fun p133 => ∃ x135 : Int, ∃ x136 : Int, ∃ x137 : Int, ldA H106 (p133.add (Int.toNat x129 * 3)) (c23 x135 x136 x137) ∧ (J107 ((!((x123 == x135) && ((x124 == x136) && (x125 == x137))))) H106)))))))))))))) x10 H97 (fun _ H101 => (Lp H101 (D102 + 1) r94 ∧ Up (putL H101 (D102 + 1) (exh r94)) (fun H140 => J76 ((D102 :: [])) H140)) ∨ (Lp H101 (D102 + 1) (dn r94 .ret) ∧ Up (putL H101 (D102 + 1) (exh (dn r94 .ret))) (fun H141 => tkD (D102 :: []) H141 (fun H142 => ldB H142 p3 (fun x144 => Q x144 H142)))) ∨ (Lp H101 (D102 + 1) (dn r94 (.exit 0)) ∧ Up (putL H101 (D102 + 1) (exh (dn r94 (.exit 0)))) (fun H145 => J76 ((D102 :: [])) H145)))))) else (J15 ([]) H14)))))))))))
set_option maxRecDepth 20000 in
set_option maxHeartbeats 4000000 in
theorem mosaiclaw02_MarkerAll.calls (a0 : ByteArray) (a1 : Int) (w0 : World) (Q : Bool → Hp → Prop) (h : mosaiclaw02_MarkerAll.s a0 a1 w0.heap Q) :
    Ca Try.prog 5 #[.string a0, .int .i64 a1] w0 (Rt mosaiclaw02_MarkerAll.enc Q w0) := by
  refine ca_startM (c := _) Try.func5 rfl Try.ntmps5 rfl ?_
  have so : Sm w0 w0 := Sm.refl w0
  unfold mosaiclaw02_MarkerAll.s at h
  refine wc_prune [(0, .string a0), (1, .int .i64 a1)] ⟨rfl, rfl, trivial⟩ (fun f1 => ?_)
  refine wc_seq ?_
  refine wc_region ?_
  refine wl_new (ef_box rfl rfl) rfl so h ?_; intro p1 w2 h so
  refine wl_new (ef_alloc zero4 rfl) rfl so h ?_; intro p3 w4 h so
  refine wl_nil ?_
  refine wk_prune [(0, .string a0), (3, .pointer (some p1)), (4, .pointer (some p3))] ⟨rfl, rfl, rfl, trivial⟩ (fun f1 => ?_)
  refine wk_then ?_
  refine wc_seq ?_
  refine wc_region ?_
  refine wl_val (at_move rfl) rfl ?_
  refine wl_callF (mosaicref02_All.calls _ _ _ h) enter8 rfl trivial so ?_; intro x5 w6 h so
  refine wl_new (ef_alloc zero28 rfl) rfl so h ?_; intro p7 w8 h so
  refine wl_st (v := .slice x5.a x5.n x5.c) h rfl so (fun q1 q2 => ef_store (sz := sz28) rfl rfl rfl q1 q2) ?_; intro w9 h so
  refine wl_nil ?_
  refine wk_prune [(0, .string a0), (3, .pointer (some p1)), (4, .pointer (some p3)), (5, .pointer (some p7))] ⟨rfl, rfl, rfl, rfl, trivial⟩ (fun f1 => ?_)
  refine wk_then ?_
  refine wc_seq ?_
  refine wc_region ?_
  refine wl_val (at_move rfl) rfl ?_
  refine wl_callF (marker_All.calls _ _ _ h) enter9 rfl trivial so ?_; intro x10 w11 h so
  refine wl_val (at_assign rfl) rfl ?_
  refine wl_nil ?_
  refine wk_prune [(3, .pointer (some p1)), (4, .pointer (some p3)), (5, .pointer (some p7)), (6, .func (.func 11) #[] #[.pointer (some x10)])] ⟨rfl, rfl, rfl, rfl, trivial⟩ (fun f1 => ?_)
  refine wk_then ?_
  refine wc_seq ?_
  refine wc_seq ?_
  refine wc_region ?_
  refine wl_val (at_move rfl) rfl ?_
  refine wl_val (at_eqlNF (v := .func (.func 11) #[] #[.pointer (some x10)]) Try.underlying31 rfl rfl rfl) rfl ?_
  refine wl_nil ?_
  refine wk_prune [(3, .pointer (some p1)), (4, .pointer (some p3)), (5, .pointer (some p7)), (6, .func (.func 11) #[] #[.pointer (some x10)]), (15, .bool false)] ⟨rfl, rfl, rfl, rfl, rfl, trivial⟩ (fun f1 => ?_)
  refine wk_then ?_
  refine wc_cond_f rfl ?_
  refine wc_skip ?_
  refine wk_prune [(3, .pointer (some p1)), (4, .pointer (some p3)), (5, .pointer (some p7)), (6, .func (.func 11) #[] #[.pointer (some x10)])] ⟨rfl, rfl, rfl, rfl, trivial⟩ (fun f1 => ?_)
  refine wk_then ?_
  refine wc_seq ?_
  refine wc_region ?_
  refine wl_new (ef_alloc zero3 rfl) rfl so h ?_; intro p12 w13 h so
  refine wl_st (v := .int .i64 0) h rfl so (fun q1 q2 => ef_store (sz := sz3) rfl rfl rfl q1 q2) ?_; intro w14 h so
  refine wl_nil ?_
  refine wk_prune [(3, .pointer (some p1)), (4, .pointer (some p3)), (5, .pointer (some p7)), (6, .func (.func 11) #[] #[.pointer (some x10)]), (7, .pointer (some p12))] ⟨rfl, rfl, rfl, rfl, rfl, trivial⟩ (fun f1 => ?_)
  refine wk_then ?_
  refine wc_seq ?_
  refine wc_joinM (w0 := w0) (fun (s16 : (List Nat)) => [(4, .pointer (some p3)), (5, .pointer (some p7)), (6, .func (.func 11) #[] #[.pointer (some x10)]), (7, .pointer (some p12))]) (fun (s16 : (List Nat)) => (mks s16)) h ?_ ?_
  · intro s16 w17 f1 h so; refine wk_then ?_
    refine wc_seq ?_
    refine wc_region ?_
    refine wl_st (v := .int .i64 0) h rfl so (fun q1 q2 => ef_store (sz := sz3) rfl rfl rfl q1 q2) ?_; intro w18 h so
    refine wl_nil ?_
    refine wk_prune [(4, .pointer (some p3)), (5, .pointer (some p7)), (6, .func (.func 11) #[] #[.pointer (some x10)]), (7, .pointer (some p12))] ⟨rfl, rfl, rfl, rfl, trivial⟩ (fun f1 => ?_)
    refine wk_then ?_
    refine wc_seq ?_
    refine wc_seq ?_
    refine wc_region ?_
    refine wl_val (at_move rfl) rfl ?_
    refine wl_nil ?_
    refine wk_prune [(4, .pointer (some p3)), (5, .pointer (some p7)), (7, .pointer (some p12)), (46, .func (.func 11) #[] #[.pointer (some x10)])] ⟨rfl, rfl, rfl, rfl, trivial⟩ (fun f1 => ?_)
    refine wk_then ?_
    refine wc_block ?_
    refine wc_prune [(4, .pointer (some p3)), (5, .pointer (some p7)), (7, .pointer (some p12)), (46, .func (.func 11) #[] #[.pointer (some x10)])] ⟨rfl, rfl, rfl, rfl, trivial⟩ (fun f1 => ?_)
    refine wc_rng (caps := [.pointer (some x10)]) rfl enter11 so h ?_; intro r19 D27 w22 q20 q21 h so
    refine Ca.mono (marker_All_1.calls _ _ (yok (ps := [47]) q21 (fun _ => rfl) fun x23 w25 K24 h => ?_) _ w22 _ h) ?_
    · refine ⟨h.1, ?_⟩; replace h := h.2; have so := Sm.refl w25; refine wc_prune [(4, .pointer (some p3)), (5, .pointer (some p7)), (7, .pointer (some p12)), (47, .agg (c23 x23.1 x23.2.1 x23.2.2).toArray)] ⟨rfl, rfl, rfl, rfl, trivial⟩ (fun f1 => ?_)
      refine wc_region ?_
      refine wl_new (ef_alloc zero23 rfl) rfl so h ?_; intro p28 w29 h so
      refine wl_stA h rfl so (fun q => ef_storeA (by rw [len23]; exact sz23) rfl rfl (one23 _ _ _) q) ?_; intro w30 h so
      refine wl_nil ?_
      refine wk_prune [(4, .pointer (some p3)), (5, .pointer (some p7)), (7, .pointer (some p12)), (9, .pointer (some p28))] ⟨rfl, rfl, rfl, rfl, trivial⟩ (fun f1 => ?_)
      refine wk_asg q20 h so ?_; intro w31 h so
      refine wc_block ?_
      refine wc_seq ?_
      refine wc_seq ?_
      refine wc_join (w0 := w25) (fun (s33 : Bool) => [(4, .pointer (some p3)), (7, .pointer (some p12)), (59, .bool s33)]) h ?_ ?_
      · intro s33 w34 f1 h so; refine wk_then ?_
        refine wc_cond rfl h (fun h => ?_) (fun h => ?_)
        · refine wc_seq ?_
          refine wc_region ?_
          refine wl_st (v := .bool false) h rfl so (fun q1 q2 => ef_store (sz := sz4) rfl rfl rfl q1 q2) ?_; intro w35 h so
          refine wl_nil ?_
          refine wk_prune [(4, .pointer (some p3))] ⟨rfl, trivial⟩ (fun f1 => ?_)
          refine wk_then ?_
          refine wc_ret ?_
          refine wk_thenR ?_
          refine wk_blkR ?_
          exact wk_rdR h so
        · refine wc_skip ?_
          refine wk_prune [(7, .pointer (some p12))] ⟨rfl, trivial⟩ (fun f1 => ?_)
          refine wk_then ?_
          refine wc_region ?_
          obtain ⟨x36, q37, h⟩ := h
          refine wl_val (at_load Try.underlying3 rfl rfl q37) rfl ?_
          refine wl_val (at_add rfl rfl) rfl ?_
          refine wl_st (v := .int .i64 (IntKind.wrap .i64 (x36 + 1))) h rfl so (fun q1 q2 => ef_store (sz := sz3) rfl rfl rfl q1 q2) ?_; intro w38 h so
          refine wl_nil ?_
          refine wk_blkN ?_
          exact wk_rdN q20 h so
      · intro J32 h hJ32
        refine wc_wo [0, 0, 2, 7, 15, 31, 31, 31, 223, 479, 1023, 2047] mixed (by kernel_rfl) so ?_; intro w39 hw so; rw [← hw] at h; clear hw
        obtain ⟨x40, q41, h⟩ := h
        refine wo_load (m' := 1) 0 (fun H => cellAt H p12 = some (.int .i64 x40)) rfl (by kernel_rfl) rfl rfl (fun H q41 => at_load Try.underlying3 rfl rfl q41) q41 ?_
        obtain ⟨x42, q43, h⟩ := h
        refine wo_load (m' := 3) 1 (fun H => cellAt H p7 = some (.slice x42.a x42.n x42.c)) rfl (by kernel_rfl) rfl rfl (fun H q43 => at_load Try.underlying28 rfl rfl q43) q43 ?_
        refine wo_pure (m' := 7) 2 rfl (by kernel_rfl) rfl rfl (fun H => at_lenL Try.underlying28 rfl) ?_
        refine wo_pure (m' := 15) 3 rfl (by kernel_rfl) rfl rfl (fun H => at_geq rfl rfl) ?_
        refine wo_pure (m' := 31) 4 rfl (by kernel_rfl) rfl rfl (fun H => at_move rfl) ?_
        refine bif_ h (fun hb h => ?_) (fun hb h => ?_)
        · refine wo_set (t := 52) (v := .bool true) (congrArg Value.bool hb) ?_; clear hb
          refine wo_off (m' := 63) 5 rfl (by kernel_rfl) rfl (t := 52) rfl (by decide) rfl ?_
          refine wo_off (m' := 127) 6 rfl (by kernel_rfl) rfl (t := 52) rfl (by decide) rfl ?_
          refine wo_off (m' := 255) 7 rfl (by kernel_rfl) rfl (t := 52) rfl (by decide) rfl ?_
          refine wo_off (m' := 511) 8 rfl (by kernel_rfl) rfl (t := 52) rfl (by decide) rfl ?_
          refine wo_off (m' := 1023) 9 rfl (by kernel_rfl) rfl (t := 52) rfl (by decide) rfl ?_
          refine wo_off (m' := 2047) 10 rfl (by kernel_rfl) rfl (t := 52) rfl (by decide) rfl ?_
          refine wo_pure (m' := 4095) 11 rfl (by kernel_rfl) rfl rfl (fun H => at_pick_t rfl rfl) ?_
          refine wo_done (by kernel_rfl) ?_
          exact wk_prune [(4, .pointer (some p3)), (7, .pointer (some p12)), (59, .bool true)] ⟨rfl, rfl, rfl, trivial⟩ (fun f1 => hJ32 (true) _ f1 h so)
        · refine wo_set (t := 52) (v := .bool false) (congrArg Value.bool hb) ?_; clear hb
          obtain ⟨x44, x45, x46, q47, h⟩ := h
          refine wo_loadG (m' := 63) 5 (fun H => ldA H p28 (c23 x44 x45 x46)) rfl (by kernel_rfl) rfl (t := 52) rfl (by decide) rfl (fun H q47 => at_loadA (cs := (c23 x44 x45 x46)) Try.underlying23 rfl (by rw [len23]; exact sz23) rfl q47) q47 ?_
          obtain ⟨x48, q49, h⟩ := h
          refine wo_loadG (m' := 127) 6 (fun H => cellAt H p7 = some (.slice x48.a x48.n x48.c)) rfl (by kernel_rfl) rfl (t := 52) rfl (by decide) rfl (fun H q49 => at_load Try.underlying28 rfl rfl q49) q49 ?_
          obtain ⟨x50, q51, h⟩ := h
          refine wo_loadG (m' := 255) 7 (fun H => cellAt H p12 = some (.int .i64 x50)) rfl (by kernel_rfl) rfl (t := 52) rfl (by decide) rfl (fun H q51 => at_load Try.underlying3 rfl rfl q51) q51 ?_
          obtain ⟨q52, q53, p54, q55, h⟩ := h
          refine wo_pureG (m' := 511) 8 rfl (by kernel_rfl) rfl (t := 52) rfl (by decide) rfl (fun H => at_ixAddrL Try.underlying28 sz23 (sl_some q55) rfl q52 q53) ?_
          obtain ⟨x56, x57, x58, q59, h⟩ := h
          refine wo_loadG (m' := 1023) 9 (fun H => ldA H (p54.add (Int.toNat x50 * 3)) (c23 x56 x57 x58)) rfl (by kernel_rfl) rfl (t := 52) rfl (by decide) rfl (fun H q59 => at_loadA (cs := (c23 x56 x57 x58)) Try.underlying23 rfl (by rw [len23]; exact sz23) rfl q59) q59 ?_
          refine wo_pureG (m' := 2047) 10 rfl (by kernel_rfl) rfl (t := 52) rfl (by decide) rfl (fun H => at_neqA (xs := (c23 x44 x45 x46)) (ys := (c23 x56 x57 x58)) rfl rfl (by kernel_rfl) (eqv_struct Try.underlying23 (by kernel_rfl) (eqf_cons rfl (pt_one (v := .int .i64 x44) Try.underlying3 rfl rfl) (pt_one (v := .int .i64 x56) Try.underlying3 rfl rfl) (eqv_int Try.underlying3) (eqf_cons rfl (pt_one (v := .int .i64 x45) Try.underlying3 rfl rfl) (pt_one (v := .int .i64 x57) Try.underlying3 rfl rfl) (eqv_int Try.underlying3) (eqf_last rfl (pt_one (v := .int .u8 x46) Try.underlying5 rfl rfl) (pt_one (v := .int .u8 x58) Try.underlying5 rfl rfl) (eqv_int Try.underlying5)))))) ?_
          refine wo_pure (m' := 4095) 11 rfl (by kernel_rfl) rfl rfl (fun H => at_pick_f rfl rfl) ?_
          refine wo_done (by kernel_rfl) ?_
          exact wk_prune [(4, .pointer (some p3)), (7, .pointer (some p12)), (59, .bool (!((x44 == x56) && ((x45 == x57) && (x46 == x58)))))] ⟨rfl, rfl, rfl, trivial⟩ (fun f1 => hJ32 ((!((x44 == x56) && ((x45 == x57) && (x46 == x58))))) _ f1 h so)
    · rintro _ w26 ⟨_, rfl, h, q60⟩; replace so := so.trans q60
      rcases h with h | h
      · refine rp_none q20 h so ?_; intro w61 h so
        refine wk_blkN ?_
        refine wk_prune [(4, .pointer (some p3)), (5, .pointer (some p7)), (7, .pointer (some p12))] ⟨rfl, rfl, rfl, trivial⟩ (fun f1 => ?_)
        refine wk_then ?_
        refine wc_seq ?_
        refine wc_region ?_
        obtain ⟨x62, q63, h⟩ := h
        refine wl_val (at_load Try.underlying3 rfl rfl q63) rfl ?_
        obtain ⟨x64, q65, h⟩ := h
        refine wl_val (at_load Try.underlying28 rfl rfl q65) rfl ?_
        refine wl_val (at_lenL Try.underlying28 rfl) rfl ?_
        refine wl_val (at_eql rfl rfl) rfl ?_
        refine wl_st (v := .bool (x62 == (x64.n : Int))) h rfl so (fun q1 q2 => ef_store (sz := sz4) rfl rfl rfl q1 q2) ?_; intro w66 h so
        refine wl_nil ?_
        refine wk_prune [(4, .pointer (some p3))] ⟨rfl, trivial⟩ (fun f1 => ?_)
        refine wk_then ?_
        refine wc_ret ?_
        refine wk_tk h so ?_; intro w67 h so
        obtain ⟨x69, q68, h⟩ := h
        exact wk_retR1 (x := x69) rfl ⟨by decide, _, rfl, loadVar_one Try.underlying4 rfl q68⟩ rfl so h
      · refine rp_jump h so ?_; intro w70 h so; refine wc_ret ?_
        refine wk_blkR ?_
        refine wk_thenR ?_
        refine wk_tk h so ?_; intro w71 h so
        obtain ⟨x73, q72, h⟩ := h
        exact wk_retR1 (x := x73) rfl ⟨by decide, _, rfl, loadVar_one Try.underlying4 rfl q72⟩ rfl so h
  · intro J15 h hJ15
    refine wc_seq ?_
    refine wc_region ?_
    obtain ⟨x74, q75, h⟩ := h
    refine wl_val (at_load Try.underlying3 rfl rfl q75) rfl ?_
    refine wl_val (at_gtr rfl rfl) rfl ?_
    refine wl_nil ?_
    refine wk_prune [(3, .pointer (some p1)), (4, .pointer (some p3)), (5, .pointer (some p7)), (6, .func (.func 11) #[] #[.pointer (some x10)]), (7, .pointer (some p12)), (17, .bool (decide ((0 : Int) < x74)))] ⟨rfl, rfl, rfl, rfl, rfl, rfl, trivial⟩ (fun f1 => ?_)
    refine wk_then ?_
    refine wc_cond rfl h (fun h => ?_) (fun h => ?_)
    · refine wc_seq ?_
      refine wc_joinM (w0 := w0) (fun (s77 : (List Nat)) => [(3, .pointer (some p1)), (4, .pointer (some p3)), (5, .pointer (some p7)), (6, .func (.func 11) #[] #[.pointer (some x10)]), (7, .pointer (some p12))]) (fun (s77 : (List Nat)) => (mks s77)) h ?_ ?_
      · intro s77 w78 f1 h so; refine wk_then ?_
        refine wc_seq ?_
        refine wc_join (w0 := w0) (fun (s80 : Bool) => [(4, .pointer (some p3)), (5, .pointer (some p7)), (6, .func (.func 11) #[] #[.pointer (some x10)]), (7, .pointer (some p12)), (45, .bool s80)]) h ?_ ?_
        · intro s80 w81 f1 h so; refine wk_then ?_
          refine wc_cond rfl h (fun h => ?_) (fun h => ?_)
          · refine wc_seq ?_
            refine wc_region ?_
            refine wl_st (v := .bool false) h rfl so (fun q1 q2 => ef_store (sz := sz4) rfl rfl rfl q1 q2) ?_; intro w82 h so
            refine wl_nil ?_
            refine wk_prune [(4, .pointer (some p3))] ⟨rfl, trivial⟩ (fun f1 => ?_)
            refine wk_then ?_
            refine wc_ret ?_
            refine wk_thenR ?_
            refine wk_tk h so ?_; intro w83 h so
            obtain ⟨x85, q84, h⟩ := h
            exact wk_retR1 (x := x85) rfl ⟨by decide, _, rfl, loadVar_one Try.underlying4 rfl q84⟩ rfl so h
          · refine wc_skip ?_
            exact wk_prune [(4, .pointer (some p3)), (5, .pointer (some p7)), (6, .func (.func 11) #[] #[.pointer (some x10)]), (7, .pointer (some p12))] ⟨rfl, rfl, rfl, rfl, trivial⟩ (fun f1 => hJ15 (s77) _ f1 h so)
        · intro J79 h hJ79
          refine wc_region ?_
          obtain ⟨x86, q87, h⟩ := h
          refine wl_val (at_load Try.underlying3 rfl rfl q87) rfl ?_
          obtain ⟨x88, q89, h⟩ := h
          refine wl_val (at_load Try.underlying3 rfl rfl q89) rfl ?_
          refine wl_val (at_neq rfl rfl) rfl ?_
          refine wl_val (at_move rfl) rfl ?_
          refine bif_ h (fun hb h => ?_) (fun hb h => ?_)
          · refine wl_set (t := 40) (v := .bool true) (congrArg Value.bool hb) ?_; clear hb
            refine wl_on (t := 40) rfl (by decide) rfl ?_
            obtain ⟨x90, q91, h⟩ := h
            refine wl_val (at_load Try.underlying3 rfl rfl q91) rfl ?_
            refine wl_on (t := 40) rfl (by decide) rfl ?_
            obtain ⟨x92, q93, h⟩ := h
            refine wl_val (at_load Try.underlying28 rfl rfl q93) rfl ?_
            refine wl_on (t := 40) rfl (by decide) rfl ?_
            refine wl_val (at_lenL Try.underlying28 rfl) rfl ?_
            refine wl_on (t := 40) rfl (by decide) rfl ?_
            refine wl_val (at_neq rfl rfl) rfl ?_
            refine wl_val (at_pick_t rfl rfl) rfl ?_
            refine wl_nil ?_
            exact wk_prune [(4, .pointer (some p3)), (5, .pointer (some p7)), (6, .func (.func 11) #[] #[.pointer (some x10)]), (7, .pointer (some p12)), (45, .bool (x90 != (x92.n : Int)))] ⟨rfl, rfl, rfl, rfl, rfl, trivial⟩ (fun f1 => hJ79 ((x90 != (x92.n : Int))) _ f1 h so)
          · refine wl_set (t := 40) (v := .bool false) (congrArg Value.bool hb) ?_; clear hb
            refine wl_off (t := 40) rfl (by decide) rfl ?_
            refine wl_off (t := 40) rfl (by decide) rfl ?_
            refine wl_off (t := 40) rfl (by decide) rfl ?_
            refine wl_off (t := 40) rfl (by decide) rfl ?_
            refine wl_val (at_pick_f rfl rfl) rfl ?_
            refine wl_nil ?_
            exact wk_prune [(4, .pointer (some p3)), (5, .pointer (some p7)), (6, .func (.func 11) #[] #[.pointer (some x10)]), (7, .pointer (some p12)), (45, .bool false)] ⟨rfl, rfl, rfl, rfl, rfl, trivial⟩ (fun f1 => hJ79 (false) _ f1 h so)
      · intro J76 h hJ76
        refine wc_seq ?_
        refine wc_region ?_
        refine wl_val (at_move rfl) rfl ?_
        refine wl_nil ?_
        refine wk_prune [(3, .pointer (some p1)), (4, .pointer (some p3)), (5, .pointer (some p7)), (6, .func (.func 11) #[] #[.pointer (some x10)]), (7, .pointer (some p12)), (18, .func (.func 11) #[] #[.pointer (some x10)])] ⟨rfl, rfl, rfl, rfl, rfl, rfl, trivial⟩ (fun f1 => ?_)
        refine wk_then ?_
        refine wc_block ?_
        refine wc_prune [(3, .pointer (some p1)), (4, .pointer (some p3)), (5, .pointer (some p7)), (6, .func (.func 11) #[] #[.pointer (some x10)]), (7, .pointer (some p12)), (18, .func (.func 11) #[] #[.pointer (some x10)])] ⟨rfl, rfl, rfl, rfl, rfl, rfl, trivial⟩ (fun f1 => ?_)
        refine wc_rng (caps := [.pointer (some x10)]) rfl enter11 so h ?_; intro r94 D102 w97 q95 q96 h so
        refine Ca.mono (marker_All_1.calls _ _ (yok (ps := [19]) q96 (fun _ => rfl) fun x98 w100 K99 h => ?_) _ w97 _ h) ?_
        · refine ⟨h.1, ?_⟩; replace h := h.2; have so := Sm.refl w100; refine wc_prune [(3, .pointer (some p1)), (4, .pointer (some p3)), (5, .pointer (some p7)), (6, .func (.func 11) #[] #[.pointer (some x10)]), (7, .pointer (some p12)), (19, .agg (c23 x98.1 x98.2.1 x98.2.2).toArray)] ⟨rfl, rfl, rfl, rfl, rfl, rfl, trivial⟩ (fun f1 => ?_)
          refine wc_region ?_
          refine wl_new (ef_alloc zero23 rfl) rfl so h ?_; intro p103 w104 h so
          refine wl_stA h rfl so (fun q => ef_storeA (by rw [len23]; exact sz23) rfl rfl (one23 _ _ _) q) ?_; intro w105 h so
          refine wl_nil ?_
          refine wk_prune [(3, .pointer (some p1)), (4, .pointer (some p3)), (5, .pointer (some p7)), (6, .func (.func 11) #[] #[.pointer (some x10)]), (7, .pointer (some p12)), (8, .pointer (some p103))] ⟨rfl, rfl, rfl, rfl, rfl, rfl, trivial⟩ (fun f1 => ?_)
          refine wk_asg q95 h so ?_; intro w106 h so
          refine wc_block ?_
          refine wc_seq ?_
          refine wc_seq ?_
          refine wc_join (w0 := w100) (fun (s108 : Bool) => [(3, .pointer (some p1)), (4, .pointer (some p3)), (5, .pointer (some p7)), (6, .func (.func 11) #[] #[.pointer (some x10)]), (7, .pointer (some p12)), (31, .bool s108)]) h ?_ ?_
          · intro s108 w109 f1 h so; refine wk_then ?_
            refine wc_cond rfl h (fun h => ?_) (fun h => ?_)
            · refine wc_seq ?_
              refine wc_region ?_
              refine wl_st (v := .bool false) h rfl so (fun q1 q2 => ef_store (sz := sz4) rfl rfl rfl q1 q2) ?_; intro w110 h so
              refine wl_nil ?_
              refine wk_prune [(4, .pointer (some p3))] ⟨rfl, trivial⟩ (fun f1 => ?_)
              refine wk_then ?_
              refine wc_ret ?_
              refine wk_thenR ?_
              refine wk_blkR ?_
              exact wk_rdR h so
            · refine wc_skip ?_
              refine wk_prune [(3, .pointer (some p1)), (4, .pointer (some p3)), (5, .pointer (some p7)), (6, .func (.func 11) #[] #[.pointer (some x10)]), (7, .pointer (some p12))] ⟨rfl, rfl, rfl, rfl, rfl, trivial⟩ (fun f1 => ?_)
              refine wk_then ?_
              refine wc_seq ?_
              refine wc_region ?_
              obtain ⟨x111, q112, h⟩ := h
              refine wl_val (at_load Try.underlying3 rfl rfl q112) rfl ?_
              refine wl_val (at_add rfl rfl) rfl ?_
              refine wl_st (v := .int .i64 (IntKind.wrap .i64 (x111 + 1))) h rfl so (fun q1 q2 => ef_store (sz := sz3) rfl rfl rfl q1 q2) ?_; intro w113 h so
              refine wl_nil ?_
              refine wk_prune [(3, .pointer (some p1)), (4, .pointer (some p3)), (5, .pointer (some p7)), (6, .func (.func 11) #[] #[.pointer (some x10)]), (7, .pointer (some p12))] ⟨rfl, rfl, rfl, rfl, rfl, trivial⟩ (fun f1 => ?_)
              refine wk_then ?_
              refine wc_seq ?_
              refine wc_region ?_
              obtain ⟨x114, q115, h⟩ := h
              refine wl_val (at_load Try.underlying3 rfl rfl q115) rfl ?_
              obtain ⟨x116, q117, h⟩ := h
              refine wl_val (at_load Try.underlying3 rfl rfl q117) rfl ?_
              refine wl_val (at_eql rfl rfl) rfl ?_
              refine wl_nil ?_
              refine wk_prune [(3, .pointer (some p1)), (4, .pointer (some p3)), (5, .pointer (some p7)), (6, .func (.func 11) #[] #[.pointer (some x10)]), (7, .pointer (some p12)), (36, .bool (x114 == x116))] ⟨rfl, rfl, rfl, rfl, rfl, rfl, trivial⟩ (fun f1 => ?_)
              refine wk_then ?_
              refine wc_cond rfl h (fun h => ?_) (fun h => ?_)
              · refine wc_exit ?_
                refine wk_blkO (by decide) ?_
                exact wk_rdE h so
              · refine wc_skip ?_
                refine wk_blkN ?_
                exact wk_rdN q95 h so
          · intro J107 h hJ107
            refine wc_wo [0, 0, 2, 7, 15, 31, 31, 31, 223, 479, 1023, 2047] mixed (by kernel_rfl) so ?_; intro w118 hw so; rw [← hw] at h; clear hw
            obtain ⟨x119, q120, h⟩ := h
            refine wo_load (m' := 1) 0 (fun H => cellAt H p12 = some (.int .i64 x119)) rfl (by kernel_rfl) rfl rfl (fun H q120 => at_load Try.underlying3 rfl rfl q120) q120 ?_
            obtain ⟨x121, q122, h⟩ := h
            refine wo_load (m' := 3) 1 (fun H => cellAt H p7 = some (.slice x121.a x121.n x121.c)) rfl (by kernel_rfl) rfl rfl (fun H q122 => at_load Try.underlying28 rfl rfl q122) q122 ?_
            refine wo_pure (m' := 7) 2 rfl (by kernel_rfl) rfl rfl (fun H => at_lenL Try.underlying28 rfl) ?_
            refine wo_pure (m' := 15) 3 rfl (by kernel_rfl) rfl rfl (fun H => at_geq rfl rfl) ?_
            refine wo_pure (m' := 31) 4 rfl (by kernel_rfl) rfl rfl (fun H => at_move rfl) ?_
            refine bif_ h (fun hb h => ?_) (fun hb h => ?_)
            · refine wo_set (t := 24) (v := .bool true) (congrArg Value.bool hb) ?_; clear hb
              refine wo_off (m' := 63) 5 rfl (by kernel_rfl) rfl (t := 24) rfl (by decide) rfl ?_
              refine wo_off (m' := 127) 6 rfl (by kernel_rfl) rfl (t := 24) rfl (by decide) rfl ?_
              refine wo_off (m' := 255) 7 rfl (by kernel_rfl) rfl (t := 24) rfl (by decide) rfl ?_
              refine wo_off (m' := 511) 8 rfl (by kernel_rfl) rfl (t := 24) rfl (by decide) rfl ?_
              refine wo_off (m' := 1023) 9 rfl (by kernel_rfl) rfl (t := 24) rfl (by decide) rfl ?_
              refine wo_off (m' := 2047) 10 rfl (by kernel_rfl) rfl (t := 24) rfl (by decide) rfl ?_
              refine wo_pure (m' := 4095) 11 rfl (by kernel_rfl) rfl rfl (fun H => at_pick_t rfl rfl) ?_
              refine wo_done (by kernel_rfl) ?_
              exact wk_prune [(3, .pointer (some p1)), (4, .pointer (some p3)), (5, .pointer (some p7)), (6, .func (.func 11) #[] #[.pointer (some x10)]), (7, .pointer (some p12)), (31, .bool true)] ⟨rfl, rfl, rfl, rfl, rfl, rfl, trivial⟩ (fun f1 => hJ107 (true) _ f1 h so)
            · refine wo_set (t := 24) (v := .bool false) (congrArg Value.bool hb) ?_; clear hb
              obtain ⟨x123, x124, x125, q126, h⟩ := h
              refine wo_loadG (m' := 63) 5 (fun H => ldA H p103 (c23 x123 x124 x125)) rfl (by kernel_rfl) rfl (t := 24) rfl (by decide) rfl (fun H q126 => at_loadA (cs := (c23 x123 x124 x125)) Try.underlying23 rfl (by rw [len23]; exact sz23) rfl q126) q126 ?_
              obtain ⟨x127, q128, h⟩ := h
              refine wo_loadG (m' := 127) 6 (fun H => cellAt H p7 = some (.slice x127.a x127.n x127.c)) rfl (by kernel_rfl) rfl (t := 24) rfl (by decide) rfl (fun H q128 => at_load Try.underlying28 rfl rfl q128) q128 ?_
              obtain ⟨x129, q130, h⟩ := h
              refine wo_loadG (m' := 255) 7 (fun H => cellAt H p12 = some (.int .i64 x129)) rfl (by kernel_rfl) rfl (t := 24) rfl (by decide) rfl (fun H q130 => at_load Try.underlying3 rfl rfl q130) q130 ?_
              obtain ⟨q131, q132, p133, q134, h⟩ := h
              refine wo_pureG (m' := 511) 8 rfl (by kernel_rfl) rfl (t := 24) rfl (by decide) rfl (fun H => at_ixAddrL Try.underlying28 sz23 (sl_some q134) rfl q131 q132) ?_
              obtain ⟨x135, x136, x137, q138, h⟩ := h
              refine wo_loadG (m' := 1023) 9 (fun H => ldA H (p133.add (Int.toNat x129 * 3)) (c23 x135 x136 x137)) rfl (by kernel_rfl) rfl (t := 24) rfl (by decide) rfl (fun H q138 => at_loadA (cs := (c23 x135 x136 x137)) Try.underlying23 rfl (by rw [len23]; exact sz23) rfl q138) q138 ?_
              refine wo_pureG (m' := 2047) 10 rfl (by kernel_rfl) rfl (t := 24) rfl (by decide) rfl (fun H => at_neqA (xs := (c23 x123 x124 x125)) (ys := (c23 x135 x136 x137)) rfl rfl (by kernel_rfl) (eqv_struct Try.underlying23 (by kernel_rfl) (eqf_cons rfl (pt_one (v := .int .i64 x123) Try.underlying3 rfl rfl) (pt_one (v := .int .i64 x135) Try.underlying3 rfl rfl) (eqv_int Try.underlying3) (eqf_cons rfl (pt_one (v := .int .i64 x124) Try.underlying3 rfl rfl) (pt_one (v := .int .i64 x136) Try.underlying3 rfl rfl) (eqv_int Try.underlying3) (eqf_last rfl (pt_one (v := .int .u8 x125) Try.underlying5 rfl rfl) (pt_one (v := .int .u8 x137) Try.underlying5 rfl rfl) (eqv_int Try.underlying5)))))) ?_
              refine wo_pure (m' := 4095) 11 rfl (by kernel_rfl) rfl rfl (fun H => at_pick_f rfl rfl) ?_
              refine wo_done (by kernel_rfl) ?_
              exact wk_prune [(3, .pointer (some p1)), (4, .pointer (some p3)), (5, .pointer (some p7)), (6, .func (.func 11) #[] #[.pointer (some x10)]), (7, .pointer (some p12)), (31, .bool (!((x123 == x135) && ((x124 == x136) && (x125 == x137)))))] ⟨rfl, rfl, rfl, rfl, rfl, rfl, trivial⟩ (fun f1 => hJ107 ((!((x123 == x135) && ((x124 == x136) && (x125 == x137))))) _ f1 h so)
        · rintro _ w101 ⟨_, rfl, h, q139⟩; replace so := so.trans q139
          rcases h with h | h | h
          · refine rp_none q95 h so ?_; intro w140 h so
            refine wk_blkN ?_
            exact wk_prune [(3, .pointer (some p1)), (4, .pointer (some p3)), (5, .pointer (some p7)), (6, .func (.func 11) #[] #[.pointer (some x10)]), (7, .pointer (some p12))] ⟨rfl, rfl, rfl, rfl, rfl, trivial⟩ (fun f1 => hJ76 ((D102 :: [])) _ f1 h so)
          · refine rp_jump h so ?_; intro w141 h so; refine wc_ret ?_
            refine wk_blkR ?_
            refine wk_thenR ?_
            refine wk_thenR ?_
            refine wk_tk h so ?_; intro w142 h so
            obtain ⟨x144, q143, h⟩ := h
            exact wk_retR1 (x := x144) rfl ⟨by decide, _, rfl, loadVar_one Try.underlying4 rfl q143⟩ rfl so h
          · refine rp_jump h so ?_; intro w145 h so; refine wc_exit ?_
            refine wk_blkE ?_
            exact wk_prune [(3, .pointer (some p1)), (4, .pointer (some p3)), (5, .pointer (some p7)), (6, .func (.func 11) #[] #[.pointer (some x10)]), (7, .pointer (some p12))] ⟨rfl, rfl, rfl, rfl, rfl, trivial⟩ (fun f1 => hJ76 ((D102 :: [])) _ f1 h so)
    · refine wc_skip ?_
      exact wk_prune [(4, .pointer (some p3)), (5, .pointer (some p7)), (6, .func (.func 11) #[] #[.pointer (some x10)]), (7, .pointer (some p12))] ⟨rfl, rfl, rfl, rfl, trivial⟩ (fun f1 => hJ15 ([]) _ f1 h so)
end Go.Proofs.Ytkplpbnifinlbaa.G
