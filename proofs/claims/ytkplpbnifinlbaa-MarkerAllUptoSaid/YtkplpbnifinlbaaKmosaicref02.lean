import Derived.Test.YtkplpbnifinlbaaKshelf
namespace Go.Proofs.Ytkplpbnifinlbaa.G
open Go.RowKit
set_option linter.unusedVariables false
set_option linter.unusedSimpArgs false
/-- mosaic/mosaicref02.Next -/
def mosaicref02_Next.enc : Int × Int × Int × Bool → Value := fun r => .tuple #[.agg (c23 r.1 r.2.1 r.2.2.1).toArray, .bool r.2.2.2]
def mosaicref02_Next.s (a0 : ByteArray) (a1 : Int) (H0 : Hp) (Q : (Int × Int × Int × Bool) → Hp → Prop) : Prop :=
  nw H0 23 (c23 0 0 0) (fun p1 H2 => ∃ k3, Fix (fun (rec8 : Int → Hp → Prop) (s5 : Int) (H6 : Hp) => if decide ((IntKind.wrap .i64 (s5 + 1)) < (a0.size : Int)) = true then (Join (fun (s10 : Bool) (H11 : Hp) => if s10 = true then (0 ≤ (IntKind.wrap .i64 (s5 + 1)) ∧ (IntKind.wrap .i64 (s5 + 1)) < (a0.size : Int) ∧ (stA H11 p1 (c23 s5 (IntKind.wrap .i64 (s5 + 2)) (bt a0 (IntKind.wrap .i64 (s5 + 1)))) (fun H14 => ∃ x16 : Int, ∃ x17 : Int, ∃ x18 : Int, ldA H14 p1 (c23 x16 x17 x18) ∧ (Q (x16, x17, x18, true) H14)))) else (rec8 ((IntKind.wrap .i64 (s5 + 1))) H11)) (fun (J9 : Bool → Hp → Prop) => if decide (a1 ≤ s5) = true then (0 ≤ s5 ∧ s5 < (a0.size : Int) ∧ (if ((bt a0 s5) == 255) = true then (0 ≤ (IntKind.wrap .i64 (s5 + 1)) ∧ (IntKind.wrap .i64 (s5 + 1)) < (a0.size : Int) ∧ (if ((bt a0 (IntKind.wrap .i64 (s5 + 1))) != 0) = true then (0 ≤ (IntKind.wrap .i64 (s5 + 1)) ∧ (IntKind.wrap .i64 (s5 + 1)) < (a0.size : Int) ∧ (J9 (((bt a0 (IntKind.wrap .i64 (s5 + 1))) != 255)) H6)) else (J9 (false) H6))) else (J9 (false) H6))) else (J9 (false) H6))) else (stA H6 p1 (c23 0 0 0) (fun H25 => ∃ x27 : Int, ∃ x28 : Int, ∃ x29 : Int, ldA H25 p1 (c23 x27 x28 x29) ∧ (Q (x27, x28, x29, false) H25)))) k3 (0) H2)
set_option maxRecDepth 20000 in
set_option maxHeartbeats 4000000 in
theorem mosaicref02_Next.calls (a0 : ByteArray) (a1 : Int) (w0 : World) (Q : (Int × Int × Int × Bool) → Hp → Prop) (h : mosaicref02_Next.s a0 a1 w0.heap Q) :
    Ca Try.prog 7 #[.string a0, .int .i64 a1] w0 (Rt mosaicref02_Next.enc Q w0) := by
  refine ca_start (c := _) Try.func7 rfl Try.ntmps7 rfl ?_
  have so : Sm w0 w0 := Sm.refl w0
  unfold mosaicref02_Next.s at h
  refine wc_prune [(0, .string a0), (1, .int .i64 a1)] ⟨rfl, rfl, trivial⟩ (fun f1 => ?_)
  refine wc_seq ?_
  refine wc_region ?_
  refine wl_new (ef_alloc zero23 rfl) rfl so h ?_; intro p1 w2 h so
  refine wl_val (at_assign rfl) rfl ?_
  refine wl_nil ?_
  refine wk_prune [(0, .string a0), (1, .int .i64 a1), (4, .pointer (some p1))] ⟨rfl, rfl, rfl, trivial⟩ (fun f1 => ?_)
  refine wk_then ?_
  refine wc_seq ?_
  refine wc_seq ?_
  refine wc_region ?_
  refine wl_val (at_assign rfl) rfl ?_
  refine wl_nil ?_
  refine wk_prune [(0, .string a0), (1, .int .i64 a1), (4, .pointer (some p1)), (6, .int .i64 0)] ⟨rfl, rfl, rfl, rfl, trivial⟩ (fun f1 => ?_)
  refine wk_then ?_
  refine wc_block ?_
  obtain ⟨k3, h⟩ := h
  refine wc_loop (fun k a w => ∃ (s5 : Int) (f1 : Nat → Value), a = ac 46 (en f1 [(0, .string a0), (1, .int .i64 a1), (4, .pointer (some p1)), (6, .int .i64 s5)]) [] ∧ Sm w0 w ∧ Fix _ k s5 w.heap) k3 ⟨(0), _, ac_again ⟨rfl, rfl, rfl, rfl, trivial⟩, so, h⟩ ?_
  rintro k4 a7 w6 ⟨s5, f1, rfl, so, h⟩
  rcases k4 with _ | k4
  · exact h.elim
  replace h := Fix.un h; refine wc_in ?_
  refine wc_seq ?_
  refine wc_seq ?_
  refine wc_region ?_
  refine wl_val (at_move rfl) rfl ?_
  refine wl_val (at_add rfl rfl) rfl ?_
  refine wl_val (at_move rfl) rfl ?_
  refine wl_val (at_lenS Try.underlying9 rfl) rfl ?_
  refine wl_val (at_lss rfl rfl) rfl ?_
  refine wl_nil ?_
  refine wk_prune [(0, .string a0), (1, .int .i64 a1), (4, .pointer (some p1)), (6, .int .i64 s5), (11, .bool (decide ((IntKind.wrap .i64 (s5 + 1)) < (a0.size : Int))))] ⟨rfl, rfl, rfl, rfl, rfl, trivial⟩ (fun f1 => ?_)
  refine wk_then ?_
  refine wc_cond rfl h (fun h => ?_) (fun h => ?_)
  · refine wc_skip ?_
    refine wk_prune [(0, .string a0), (1, .int .i64 a1), (4, .pointer (some p1)), (6, .int .i64 s5)] ⟨rfl, rfl, rfl, rfl, trivial⟩ (fun f1 => ?_)
    refine wk_then ?_
    refine wc_seq ?_
    refine wc_block ?_
    refine wc_seq ?_
    refine wc_join (w0 := w0) (fun (s10 : Bool) => [(0, .string a0), (1, .int .i64 a1), (4, .pointer (some p1)), (6, .int .i64 s5), (36, .bool s10)]) h ?_ ?_
    · intro s10 w11 f1 h so; refine wk_then ?_
      refine wc_cond rfl h (fun h => ?_) (fun h => ?_)
      · refine wc_seq ?_
        refine wc_region ?_
        refine wl_val (at_move rfl) rfl ?_
        refine wl_val (at_move rfl) rfl ?_
        refine wl_val (at_add rfl rfl) rfl ?_
        refine wl_val (at_move rfl) rfl ?_
        refine wl_val (at_move rfl) rfl ?_
        refine wl_val (at_add rfl rfl) rfl ?_
        obtain ⟨q12, q13, h⟩ := h
        refine wl_val (at_ixS Try.underlying9 rfl rfl q12 q13) rfl ?_
        refine wl_val (at_build (cs := (c23 s5 (IntKind.wrap .i64 (s5 + 2)) (bt a0 (IntKind.wrap .i64 (s5 + 1))))) (ps := [(0, .int .i64 s5), (1, .int .i64 (IntKind.wrap .i64 (s5 + 2))), (2, .int .u8 (bt a0 (IntKind.wrap .i64 (s5 + 1))))]) rfl (fun w => by simp [Instr.build, Instr.fill, go_sem, Try.underlying23, z23])) rfl ?_
        refine wl_stA h rfl so (fun q => ef_storeA (by rw [len23]; exact sz23) rfl rfl (one23 _ _ _) q) ?_; intro w14 h so
        refine wl_val (at_assign rfl) rfl ?_
        refine wl_nil ?_
        refine wk_prune [(4, .pointer (some p1)), (5, .bool true)] ⟨rfl, rfl, trivial⟩ (fun f1 => ?_)
        refine wk_then ?_
        refine wc_ret ?_
        refine wk_blkR ?_
        refine wk_thenR ?_
        refine wk_thenR ?_
        refine wk_blkR ?_
        refine wk_thenR ?_
        obtain ⟨x16, x17, x18, q15, h⟩ := h
        exact wk_retR2 (x := (x16, x17, x18, true)) rfl ⟨by decide, _, rfl, loadVar_agg (cs := (c23 x16 x17 x18)) Try.underlying23 rfl (by rw [len23]; exact sz23) q15⟩ ⟨by decide, rfl⟩ rfl so h
      · refine wc_skip ?_
        refine wk_blkN ?_
        refine wk_prune [(0, .string a0), (1, .int .i64 a1), (4, .pointer (some p1)), (6, .int .i64 s5)] ⟨rfl, rfl, rfl, rfl, trivial⟩ (fun f1 => ?_)
        refine wk_then ?_
        refine wc_region ?_
        refine wl_val (at_move rfl) rfl ?_
        refine wl_val (at_add rfl rfl) rfl ?_
        refine wl_val (at_assign rfl) rfl ?_
        refine wl_nil ?_
        exact wk_again ⟨((IntKind.wrap .i64 (s5 + 1))), _, ac_again ⟨rfl, rfl, rfl, rfl, trivial⟩, so, h⟩
    · intro J9 h hJ9
      refine wc_region ?_
      refine wl_val (at_move rfl) rfl ?_
      refine wl_val (at_move rfl) rfl ?_
      refine wl_val (at_geq rfl rfl) rfl ?_
      refine wl_val (at_move rfl) rfl ?_
      refine bif_ h (fun hb h => ?_) (fun hb h => ?_)
      · refine wl_set (t := 17) (v := .bool true) (congrArg Value.bool hb) ?_; clear hb
        refine wl_on (t := 17) rfl (by decide) rfl ?_
        refine wl_val (at_move rfl) rfl ?_
        refine wl_on (t := 17) rfl (by decide) rfl ?_
        refine wl_val (at_move rfl) rfl ?_
        refine wl_on (t := 17) rfl (by decide) rfl ?_
        obtain ⟨q19, q20, h⟩ := h
        refine wl_val (at_ixS Try.underlying9 rfl rfl q19 q20) rfl ?_
        refine wl_on (t := 17) rfl (by decide) rfl ?_
        refine wl_val (at_eql rfl rfl) rfl ?_
        refine wl_val (at_pick_t rfl rfl) rfl ?_
        refine wl_val (at_move rfl) rfl ?_
        refine bif_ h (fun hb h => ?_) (fun hb h => ?_)
        · refine wl_set (t := 23) (v := .bool true) (congrArg Value.bool hb) ?_; clear hb
          refine wl_on (t := 23) rfl (by decide) rfl ?_
          refine wl_val (at_move rfl) rfl ?_
          refine wl_on (t := 23) rfl (by decide) rfl ?_
          refine wl_val (at_move rfl) rfl ?_
          refine wl_on (t := 23) rfl (by decide) rfl ?_
          refine wl_val (at_add rfl rfl) rfl ?_
          refine wl_on (t := 23) rfl (by decide) rfl ?_
          obtain ⟨q21, q22, h⟩ := h
          refine wl_val (at_ixS Try.underlying9 rfl rfl q21 q22) rfl ?_
          refine wl_on (t := 23) rfl (by decide) rfl ?_
          refine wl_val (at_neq rfl rfl) rfl ?_
          refine wl_val (at_pick_t rfl rfl) rfl ?_
          refine wl_val (at_move rfl) rfl ?_
          refine bif_ h (fun hb h => ?_) (fun hb h => ?_)
          · refine wl_set (t := 30) (v := .bool true) (congrArg Value.bool hb) ?_; clear hb
            refine wl_on (t := 30) rfl (by decide) rfl ?_
            refine wl_val (at_move rfl) rfl ?_
            refine wl_on (t := 30) rfl (by decide) rfl ?_
            refine wl_val (at_move rfl) rfl ?_
            refine wl_on (t := 30) rfl (by decide) rfl ?_
            refine wl_val (at_add rfl rfl) rfl ?_
            refine wl_on (t := 30) rfl (by decide) rfl ?_
            obtain ⟨q23, q24, h⟩ := h
            refine wl_val (at_ixS Try.underlying9 rfl rfl q23 q24) rfl ?_
            refine wl_on (t := 30) rfl (by decide) rfl ?_
            refine wl_val (at_neq rfl rfl) rfl ?_
            refine wl_val (at_pick_t rfl rfl) rfl ?_
            refine wl_nil ?_
            exact wk_prune [(0, .string a0), (1, .int .i64 a1), (4, .pointer (some p1)), (6, .int .i64 s5), (36, .bool ((bt a0 (IntKind.wrap .i64 (s5 + 1))) != 255))] ⟨rfl, rfl, rfl, rfl, rfl, trivial⟩ (fun f1 => hJ9 (((bt a0 (IntKind.wrap .i64 (s5 + 1))) != 255)) _ f1 h so)
          · refine wl_set (t := 30) (v := .bool false) (congrArg Value.bool hb) ?_; clear hb
            refine wl_off (t := 30) rfl (by decide) rfl ?_
            refine wl_off (t := 30) rfl (by decide) rfl ?_
            refine wl_off (t := 30) rfl (by decide) rfl ?_
            refine wl_off (t := 30) rfl (by decide) rfl ?_
            refine wl_off (t := 30) rfl (by decide) rfl ?_
            refine wl_val (at_pick_f rfl rfl) rfl ?_
            refine wl_nil ?_
            exact wk_prune [(0, .string a0), (1, .int .i64 a1), (4, .pointer (some p1)), (6, .int .i64 s5), (36, .bool false)] ⟨rfl, rfl, rfl, rfl, rfl, trivial⟩ (fun f1 => hJ9 (false) _ f1 h so)
        · refine wl_set (t := 23) (v := .bool false) (congrArg Value.bool hb) ?_; clear hb
          refine wl_off (t := 23) rfl (by decide) rfl ?_
          refine wl_off (t := 23) rfl (by decide) rfl ?_
          refine wl_off (t := 23) rfl (by decide) rfl ?_
          refine wl_off (t := 23) rfl (by decide) rfl ?_
          refine wl_off (t := 23) rfl (by decide) rfl ?_
          refine wl_val (at_pick_f rfl rfl) rfl ?_
          refine wl_val (at_move rfl) rfl ?_
          refine wl_off (t := 30) rfl (by decide) rfl ?_
          refine wl_off (t := 30) rfl (by decide) rfl ?_
          refine wl_off (t := 30) rfl (by decide) rfl ?_
          refine wl_off (t := 30) rfl (by decide) rfl ?_
          refine wl_off (t := 30) rfl (by decide) rfl ?_
          refine wl_val (at_pick_f rfl rfl) rfl ?_
          refine wl_nil ?_
          exact wk_prune [(0, .string a0), (1, .int .i64 a1), (4, .pointer (some p1)), (6, .int .i64 s5), (36, .bool false)] ⟨rfl, rfl, rfl, rfl, rfl, trivial⟩ (fun f1 => hJ9 (false) _ f1 h so)
      · refine wl_set (t := 17) (v := .bool false) (congrArg Value.bool hb) ?_; clear hb
        refine wl_off (t := 17) rfl (by decide) rfl ?_
        refine wl_off (t := 17) rfl (by decide) rfl ?_
        refine wl_off (t := 17) rfl (by decide) rfl ?_
        refine wl_off (t := 17) rfl (by decide) rfl ?_
        refine wl_val (at_pick_f rfl rfl) rfl ?_
        refine wl_val (at_move rfl) rfl ?_
        refine wl_off (t := 23) rfl (by decide) rfl ?_
        refine wl_off (t := 23) rfl (by decide) rfl ?_
        refine wl_off (t := 23) rfl (by decide) rfl ?_
        refine wl_off (t := 23) rfl (by decide) rfl ?_
        refine wl_off (t := 23) rfl (by decide) rfl ?_
        refine wl_val (at_pick_f rfl rfl) rfl ?_
        refine wl_val (at_move rfl) rfl ?_
        refine wl_off (t := 30) rfl (by decide) rfl ?_
        refine wl_off (t := 30) rfl (by decide) rfl ?_
        refine wl_off (t := 30) rfl (by decide) rfl ?_
        refine wl_off (t := 30) rfl (by decide) rfl ?_
        refine wl_off (t := 30) rfl (by decide) rfl ?_
        refine wl_val (at_pick_f rfl rfl) rfl ?_
        refine wl_nil ?_
        exact wk_prune [(0, .string a0), (1, .int .i64 a1), (4, .pointer (some p1)), (6, .int .i64 s5), (36, .bool false)] ⟨rfl, rfl, rfl, rfl, rfl, trivial⟩ (fun f1 => hJ9 (false) _ f1 h so)
  · refine wc_exit ?_
    refine wk_thenE ?_
    refine wk_thenE ?_
    refine wk_blkE ?_
    refine wk_prune [(4, .pointer (some p1))] ⟨rfl, trivial⟩ (fun f1 => ?_)
    refine wk_then ?_
    refine wc_seq ?_
    refine wc_region ?_
    refine wl_val (at_build (cs := (c23 0 0 0)) (ps := []) rfl (fun w => by simp [Instr.build, Instr.fill, go_sem, Try.underlying23, z23])) rfl ?_
    refine wl_stA h rfl so (fun q => ef_storeA (by rw [len23]; exact sz23) rfl rfl (one23 _ _ _) q) ?_; intro w25 h so
    refine wl_val (at_assign rfl) rfl ?_
    refine wl_nil ?_
    refine wk_prune [(4, .pointer (some p1)), (5, .bool false)] ⟨rfl, rfl, trivial⟩ (fun f1 => ?_)
    refine wk_then ?_
    refine wc_ret ?_
    obtain ⟨x27, x28, x29, q26, h⟩ := h
    exact wk_retR2 (x := (x27, x28, x29, false)) rfl ⟨by decide, _, rfl, loadVar_agg (cs := (c23 x27 x28 x29)) Try.underlying23 rfl (by rw [len23]; exact sz23) q26⟩ ⟨by decide, rfl⟩ rfl so h

/-- mosaic/mosaicref02.All -/
def mosaicref02_All.enc : Sl → Value := fun r => .slice r.a r.n r.c
def mosaicref02_All.s (a0 : ByteArray) (H0 : Hp) (Q : Sl → Hp → Prop) : Prop :=
  ∃ k1, Fix (fun (rec6 : (Sl × Int) → Hp → Prop) (s3 : Sl × Int) (H4 : Hp) => if decide ((IntKind.wrap .i64 (s3.2 + 1)) < (a0.size : Int)) = true then (Join (fun (s8 : Sl) (H9 : Hp) => rec6 (s8, (IntKind.wrap .i64 (s3.2 + 1))) H9) (fun (J7 : Sl → Hp → Prop) => Join (fun (s11 : Bool) (H12 : Hp) => if s11 = true then (0 ≤ (IntKind.wrap .i64 (s3.2 + 1)) ∧ (IntKind.wrap .i64 (s3.2 + 1)) < (a0.size : Int) ∧ (nw H12 23 (c23 s3.2 (IntKind.wrap .i64 (s3.2 + 2)) (bt a0 (IntKind.wrap .i64 (s3.2 + 1)))) (fun p15 H16 => apS H16 s3.1 23 3 24 z23.cells 1 (c23 s3.2 (IntKind.wrap .i64 (s3.2 + 2)) (bt a0 (IntKind.wrap .i64 (s3.2 + 1)))) (fun l20 H21 => J7 (l20) H21)))) else (J7 (s3.1) H12)) (fun (J10 : Bool → Hp → Prop) => 0 ≤ s3.2 ∧ s3.2 < (a0.size : Int) ∧ (if ((bt a0 s3.2) == 255) = true then (0 ≤ (IntKind.wrap .i64 (s3.2 + 1)) ∧ (IntKind.wrap .i64 (s3.2 + 1)) < (a0.size : Int) ∧ (if ((bt a0 (IntKind.wrap .i64 (s3.2 + 1))) != 0) = true then (0 ≤ (IntKind.wrap .i64 (s3.2 + 1)) ∧ (IntKind.wrap .i64 (s3.2 + 1)) < (a0.size : Int) ∧ (J10 (((bt a0 (IntKind.wrap .i64 (s3.2 + 1))) != 255)) H4)) else (J10 (false) H4))) else (J10 (false) H4))))) else (Q s3.1 H4)) k1 (⟨none, 0, 0⟩, 0) H0
set_option maxRecDepth 20000 in
set_option maxHeartbeats 4000000 in
theorem mosaicref02_All.calls (a0 : ByteArray) (w0 : World) (Q : Sl → Hp → Prop) (h : mosaicref02_All.s a0 w0.heap Q) :
    Ca Try.prog 8 #[.string a0] w0 (Rt mosaicref02_All.enc Q w0) := by
  refine ca_start (c := _) Try.func8 rfl Try.ntmps8 rfl ?_
  have so : Sm w0 w0 := Sm.refl w0
  unfold mosaicref02_All.s at h
  refine wc_prune [(0, .string a0)] ⟨rfl, trivial⟩ (fun f1 => ?_)
  refine wc_seq ?_
  refine wc_region ?_
  refine wl_val (at_assign rfl) rfl ?_
  refine wl_nil ?_
  refine wk_prune [(0, .string a0)] ⟨rfl, trivial⟩ (fun f1 => ?_)
  refine wk_then ?_
  refine wc_seq ?_
  refine wc_region ?_
  refine wl_val (at_assign rfl) rfl ?_
  refine wl_nil ?_
  refine wk_prune [(0, .string a0), (3, .slice none 0 0)] ⟨rfl, rfl, trivial⟩ (fun f1 => ?_)
  refine wk_then ?_
  refine wc_seq ?_
  refine wc_seq ?_
  refine wc_region ?_
  refine wl_val (at_assign rfl) rfl ?_
  refine wl_nil ?_
  refine wk_prune [(0, .string a0), (3, .slice none 0 0), (4, .int .i64 0)] ⟨rfl, rfl, rfl, trivial⟩ (fun f1 => ?_)
  refine wk_then ?_
  refine wc_block ?_
  obtain ⟨k1, h⟩ := h
  refine wc_loop (fun k a w => ∃ (s3 : Sl × Int) (f1 : Nat → Value), a = ac 42 (en f1 [(0, .string a0), (3, .slice s3.1.a s3.1.n s3.1.c), (4, .int .i64 s3.2)]) [] ∧ Sm w0 w ∧ Fix _ k s3 w.heap) k1 ⟨(⟨none, 0, 0⟩, 0), _, ac_again ⟨rfl, rfl, rfl, trivial⟩, so, h⟩ ?_
  rintro k2 a5 w4 ⟨s3, f1, rfl, so, h⟩
  rcases k2 with _ | k2
  · exact h.elim
  replace h := Fix.un h; refine wc_in ?_
  refine wc_seq ?_
  refine wc_seq ?_
  refine wc_region ?_
  refine wl_val (at_move rfl) rfl ?_
  refine wl_val (at_add rfl rfl) rfl ?_
  refine wl_val (at_move rfl) rfl ?_
  refine wl_val (at_lenS Try.underlying9 rfl) rfl ?_
  refine wl_val (at_lss rfl rfl) rfl ?_
  refine wl_nil ?_
  refine wk_prune [(0, .string a0), (3, .slice s3.1.a s3.1.n s3.1.c), (4, .int .i64 s3.2), (9, .bool (decide ((IntKind.wrap .i64 (s3.2 + 1)) < (a0.size : Int))))] ⟨rfl, rfl, rfl, rfl, trivial⟩ (fun f1 => ?_)
  refine wk_then ?_
  refine wc_cond rfl h (fun h => ?_) (fun h => ?_)
  · refine wc_skip ?_
    refine wk_prune [(0, .string a0), (3, .slice s3.1.a s3.1.n s3.1.c), (4, .int .i64 s3.2)] ⟨rfl, rfl, rfl, trivial⟩ (fun f1 => ?_)
    refine wk_then ?_
    refine wc_seq ?_
    refine wc_join (w0 := w0) (fun (s8 : Sl) => [(0, .string a0), (3, .slice s8.a s8.n s8.c), (4, .int .i64 s3.2)]) h ?_ ?_
    · intro s8 w9 f1 h so; refine wk_then ?_
      refine wc_region ?_
      refine wl_val (at_move rfl) rfl ?_
      refine wl_val (at_add rfl rfl) rfl ?_
      refine wl_val (at_assign rfl) rfl ?_
      refine wl_nil ?_
      exact wk_again ⟨(s8, (IntKind.wrap .i64 (s3.2 + 1))), _, ac_again ⟨rfl, rfl, rfl, trivial⟩, so, h⟩
    · intro J7 h hJ7
      refine wc_block ?_
      refine wc_seq ?_
      refine wc_join (w0 := w0) (fun (s11 : Bool) => [(0, .string a0), (3, .slice s3.1.a s3.1.n s3.1.c), (4, .int .i64 s3.2), (29, .bool s11)]) h ?_ ?_
      · intro s11 w12 f1 h so; refine wk_then ?_
        refine wc_cond rfl h (fun h => ?_) (fun h => ?_)
        · refine wc_region ?_
          refine wl_val (at_move rfl) rfl ?_
          refine wl_val (at_move rfl) rfl ?_
          refine wl_val (at_move rfl) rfl ?_
          refine wl_val (at_add rfl rfl) rfl ?_
          refine wl_val (at_move rfl) rfl ?_
          refine wl_val (at_move rfl) rfl ?_
          refine wl_val (at_add rfl rfl) rfl ?_
          obtain ⟨q13, q14, h⟩ := h
          refine wl_val (at_ixS Try.underlying9 rfl rfl q13 q14) rfl ?_
          refine wl_val (at_build (cs := (c23 s3.2 (IntKind.wrap .i64 (s3.2 + 2)) (bt a0 (IntKind.wrap .i64 (s3.2 + 1))))) (ps := [(0, .int .i64 s3.2), (1, .int .i64 (IntKind.wrap .i64 (s3.2 + 2))), (2, .int .u8 (bt a0 (IntKind.wrap .i64 (s3.2 + 1))))]) rfl (fun w => by simp [Instr.build, Instr.fill, go_sem, Try.underlying23, z23])) rfl ?_
          obtain ⟨i18, i18a, i18b, i18c, i18d⟩ := info23
          refine wl_newS (ef_buildSlice (cs := (c23 s3.2 (IntKind.wrap .i64 (s3.2 + 2)) (bt a0 (IntKind.wrap .i64 (s3.2 + 1))))) (ps := [(0, .agg (c23 s3.2 (IntKind.wrap .i64 (s3.2 + 2)) (bt a0 (IntKind.wrap .i64 (s3.2 + 1)))).toArray)]) Try.underlying28 i18a i18b rfl (by rw [i18c]; decide) (by rw [i18c]; exact fill_full (vs := [.agg (c23 s3.2 (IntKind.wrap .i64 (s3.2 + 2)) (bt a0 (IntKind.wrap .i64 (s3.2 + 1)))).toArray]) rfl (by simp [Value.cells]) (by simp [Value.cells, len23]) rfl (by simp))) rfl so (one23 _ _ _) h ?_; intro p15 w16 h r17 so
          obtain ⟨i19, i19a, i19b, i19c, i19d⟩ := info23
          refine wl_ap (fx_append (s := s3.1) (t := ⟨(some p15), 1, 1⟩) (m := 1) (xs := (c23 s3.2 (IntKind.wrap .i64 (s3.2 + 2)) (bt a0 (IntKind.wrap .i64 (s3.2 + 1))))) Try.underlying28 Try.underlying28 i19a i19b i19c i19d rfl rfl rfl (by rfl) r17 h) rfl so ?_; intro l20 w21 h so
          refine wl_val (at_assign rfl) rfl ?_
          refine wl_nil ?_
          refine wk_blkN ?_
          exact wk_prune [(0, .string a0), (3, .slice l20.a l20.n l20.c), (4, .int .i64 s3.2)] ⟨rfl, rfl, rfl, trivial⟩ (fun f1 => hJ7 (l20) _ f1 h so)
        · refine wc_skip ?_
          refine wk_blkN ?_
          exact wk_prune [(0, .string a0), (3, .slice s3.1.a s3.1.n s3.1.c), (4, .int .i64 s3.2)] ⟨rfl, rfl, rfl, trivial⟩ (fun f1 => hJ7 (s3.1) _ f1 h so)
      · intro J10 h hJ10
        refine wc_region ?_
        refine wl_val (at_move rfl) rfl ?_
        refine wl_val (at_move rfl) rfl ?_
        obtain ⟨q22, q23, h⟩ := h
        refine wl_val (at_ixS Try.underlying9 rfl rfl q22 q23) rfl ?_
        refine wl_val (at_eql rfl rfl) rfl ?_
        refine wl_val (at_move rfl) rfl ?_
        refine bif_ h (fun hb h => ?_) (fun hb h => ?_)
        · refine wl_set (t := 16) (v := .bool true) (congrArg Value.bool hb) ?_; clear hb
          refine wl_on (t := 16) rfl (by decide) rfl ?_
          refine wl_val (at_move rfl) rfl ?_
          refine wl_on (t := 16) rfl (by decide) rfl ?_
          refine wl_val (at_move rfl) rfl ?_
          refine wl_on (t := 16) rfl (by decide) rfl ?_
          refine wl_val (at_add rfl rfl) rfl ?_
          refine wl_on (t := 16) rfl (by decide) rfl ?_
          obtain ⟨q24, q25, h⟩ := h
          refine wl_val (at_ixS Try.underlying9 rfl rfl q24 q25) rfl ?_
          refine wl_on (t := 16) rfl (by decide) rfl ?_
          refine wl_val (at_neq rfl rfl) rfl ?_
          refine wl_val (at_pick_t rfl rfl) rfl ?_
          refine wl_val (at_move rfl) rfl ?_
          refine bif_ h (fun hb h => ?_) (fun hb h => ?_)
          · refine wl_set (t := 23) (v := .bool true) (congrArg Value.bool hb) ?_; clear hb
            refine wl_on (t := 23) rfl (by decide) rfl ?_
            refine wl_val (at_move rfl) rfl ?_
            refine wl_on (t := 23) rfl (by decide) rfl ?_
            refine wl_val (at_move rfl) rfl ?_
            refine wl_on (t := 23) rfl (by decide) rfl ?_
            refine wl_val (at_add rfl rfl) rfl ?_
            refine wl_on (t := 23) rfl (by decide) rfl ?_
            obtain ⟨q26, q27, h⟩ := h
            refine wl_val (at_ixS Try.underlying9 rfl rfl q26 q27) rfl ?_
            refine wl_on (t := 23) rfl (by decide) rfl ?_
            refine wl_val (at_neq rfl rfl) rfl ?_
            refine wl_val (at_pick_t rfl rfl) rfl ?_
            refine wl_nil ?_
            exact wk_prune [(0, .string a0), (3, .slice s3.1.a s3.1.n s3.1.c), (4, .int .i64 s3.2), (29, .bool ((bt a0 (IntKind.wrap .i64 (s3.2 + 1))) != 255))] ⟨rfl, rfl, rfl, rfl, trivial⟩ (fun f1 => hJ10 (((bt a0 (IntKind.wrap .i64 (s3.2 + 1))) != 255)) _ f1 h so)
          · refine wl_set (t := 23) (v := .bool false) (congrArg Value.bool hb) ?_; clear hb
            refine wl_off (t := 23) rfl (by decide) rfl ?_
            refine wl_off (t := 23) rfl (by decide) rfl ?_
            refine wl_off (t := 23) rfl (by decide) rfl ?_
            refine wl_off (t := 23) rfl (by decide) rfl ?_
            refine wl_off (t := 23) rfl (by decide) rfl ?_
            refine wl_val (at_pick_f rfl rfl) rfl ?_
            refine wl_nil ?_
            exact wk_prune [(0, .string a0), (3, .slice s3.1.a s3.1.n s3.1.c), (4, .int .i64 s3.2), (29, .bool false)] ⟨rfl, rfl, rfl, rfl, trivial⟩ (fun f1 => hJ10 (false) _ f1 h so)
        · refine wl_set (t := 16) (v := .bool false) (congrArg Value.bool hb) ?_; clear hb
          refine wl_off (t := 16) rfl (by decide) rfl ?_
          refine wl_off (t := 16) rfl (by decide) rfl ?_
          refine wl_off (t := 16) rfl (by decide) rfl ?_
          refine wl_off (t := 16) rfl (by decide) rfl ?_
          refine wl_off (t := 16) rfl (by decide) rfl ?_
          refine wl_val (at_pick_f rfl rfl) rfl ?_
          refine wl_val (at_move rfl) rfl ?_
          refine wl_off (t := 23) rfl (by decide) rfl ?_
          refine wl_off (t := 23) rfl (by decide) rfl ?_
          refine wl_off (t := 23) rfl (by decide) rfl ?_
          refine wl_off (t := 23) rfl (by decide) rfl ?_
          refine wl_off (t := 23) rfl (by decide) rfl ?_
          refine wl_val (at_pick_f rfl rfl) rfl ?_
          refine wl_nil ?_
          exact wk_prune [(0, .string a0), (3, .slice s3.1.a s3.1.n s3.1.c), (4, .int .i64 s3.2), (29, .bool false)] ⟨rfl, rfl, rfl, rfl, trivial⟩ (fun f1 => hJ10 (false) _ f1 h so)
  · refine wc_exit ?_
    refine wk_thenE ?_
    refine wk_thenE ?_
    refine wk_blkE ?_
    refine wk_prune [(3, .slice s3.1.a s3.1.n s3.1.c)] ⟨rfl, trivial⟩ (fun f1 => ?_)
    refine wk_then ?_
    refine wc_seq ?_
    refine wc_region ?_
    refine wl_val (at_move rfl) rfl ?_
    refine wl_val (at_assign rfl) rfl ?_
    refine wl_nil ?_
    refine wk_prune [(2, .slice s3.1.a s3.1.n s3.1.c)] ⟨rfl, trivial⟩ (fun f1 => ?_)
    refine wk_then ?_
    refine wc_ret ?_
    exact wk_ret1 (x := s3.1) rfl (by decide) rfl so h
end Go.Proofs.Ytkplpbnifinlbaa.G
