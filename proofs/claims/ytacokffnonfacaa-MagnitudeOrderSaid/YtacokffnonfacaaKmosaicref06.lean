import Derived.Test.YtacokffnonfacaaGF
namespace Go.Proofs.Ytacokffnonfacaa.G
open Go.RowKit
set_option linter.unusedVariables false
/-- mosaic/mosaicref06.power -/
def mosaicref06_power.enc : Int → Value := fun r => .int .i64 r
def mosaicref06_power.s (a0 : Int) (H0 : Hp) (Q : Int → Hp → Prop) : Prop :=
  ∃ k1, Fix (fun (rec6 : (Int × Int) → Hp → Prop) (s3 : Int × Int) (H4 : Hp) => if decide (s3.2 < a0) = true then (rec6 ((IntKind.wrap .i64 ((2 : Int) * s3.1)), (IntKind.wrap .i64 (s3.2 + 1))) H4) else (Q s3.1 H4)) k1 (1, 0) H0
set_option maxRecDepth 20000 in
set_option maxHeartbeats 4000000 in
theorem mosaicref06_power.calls (a0 : Int) (w0 : World) (Q : Int → Hp → Prop) (h : mosaicref06_power.s a0 w0.heap Q) :
    Ca Try.prog 18 #[.int .i64 a0] w0 (Rt mosaicref06_power.enc Q w0) := by
  refine ca_start (c := _) Try.func18 rfl Try.ntmps18 rfl ?_
  have so : Sm w0 w0 := Sm.refl w0
  unfold mosaicref06_power.s at h
  refine wc_prune [(0, .int .i64 a0)] ⟨rfl, trivial⟩ (fun f1 => ?_)
  refine wc_seq ?_
  refine wc_region ?_
  refine wl_val (at_assign rfl) rfl ?_
  refine wl_nil ?_
  refine wk_prune [(0, .int .i64 a0)] ⟨rfl, trivial⟩ (fun f1 => ?_)
  refine wk_then ?_
  refine wc_seq ?_
  refine wc_region ?_
  refine wl_val (at_assign rfl) rfl ?_
  refine wl_nil ?_
  refine wk_prune [(0, .int .i64 a0), (3, .int .i64 1)] ⟨rfl, rfl, trivial⟩ (fun f1 => ?_)
  refine wk_then ?_
  refine wc_seq ?_
  refine wc_seq ?_
  refine wc_region ?_
  refine wl_val (at_assign rfl) rfl ?_
  refine wl_nil ?_
  refine wk_prune [(0, .int .i64 a0), (3, .int .i64 1), (4, .int .i64 0)] ⟨rfl, rfl, rfl, trivial⟩ (fun f1 => ?_)
  refine wk_then ?_
  refine wc_block ?_
  obtain ⟨k1, h⟩ := h
  refine wc_loop (fun k a w => ∃ (s3 : Int × Int) (f1 : Nat → Value), a = ac 13 (en f1 [(0, .int .i64 a0), (3, .int .i64 s3.1), (4, .int .i64 s3.2)]) [] ∧ Sm w0 w ∧ Fix _ k s3 w.heap) k1 ⟨(1, 0), _, ac_again ⟨rfl, rfl, rfl, trivial⟩, so, h⟩ ?_
  rintro k2 a5 w4 ⟨s3, f1, rfl, so, h⟩
  rcases k2 with _ | k2
  · exact h.elim
  replace h := Fix.un h; refine wc_in ?_
  refine wc_seq ?_
  refine wc_seq ?_
  refine wc_region ?_
  refine wl_val (at_move rfl) rfl ?_
  refine wl_val (at_move rfl) rfl ?_
  refine wl_val (at_lss rfl rfl) rfl ?_
  refine wl_nil ?_
  refine wk_prune [(0, .int .i64 a0), (3, .int .i64 s3.1), (4, .int .i64 s3.2), (7, .bool (decide (s3.2 < a0)))] ⟨rfl, rfl, rfl, rfl, trivial⟩ (fun f1 => ?_)
  refine wk_then ?_
  refine wc_cond rfl h (fun h => ?_) (fun h => ?_)
  · refine wc_skip ?_
    refine wk_prune [(0, .int .i64 a0), (3, .int .i64 s3.1), (4, .int .i64 s3.2)] ⟨rfl, rfl, rfl, trivial⟩ (fun f1 => ?_)
    refine wk_then ?_
    refine wc_seq ?_
    refine wc_block ?_
    refine wc_region ?_
    refine wl_val (at_move rfl) rfl ?_
    refine wl_val (at_mul rfl rfl) rfl ?_
    refine wl_val (at_assign rfl) rfl ?_
    refine wl_nil ?_
    refine wk_blkN ?_
    refine wk_prune [(0, .int .i64 a0), (3, .int .i64 (IntKind.wrap .i64 ((2 : Int) * s3.1))), (4, .int .i64 s3.2)] ⟨rfl, rfl, rfl, trivial⟩ (fun f1 => ?_)
    refine wk_then ?_
    refine wc_region ?_
    refine wl_val (at_move rfl) rfl ?_
    refine wl_val (at_add rfl rfl) rfl ?_
    refine wl_val (at_assign rfl) rfl ?_
    refine wl_nil ?_
    exact wk_again ⟨((IntKind.wrap .i64 ((2 : Int) * s3.1)), (IntKind.wrap .i64 (s3.2 + 1))), _, ac_again ⟨rfl, rfl, rfl, trivial⟩, so, h⟩
  · refine wc_exit ?_
    refine wk_thenE ?_
    refine wk_thenE ?_
    refine wk_blkE ?_
    refine wk_prune [(3, .int .i64 s3.1)] ⟨rfl, trivial⟩ (fun f1 => ?_)
    refine wk_then ?_
    refine wc_seq ?_
    refine wc_region ?_
    refine wl_val (at_move rfl) rfl ?_
    refine wl_val (at_assign rfl) rfl ?_
    refine wl_nil ?_
    refine wk_prune [(2, .int .i64 s3.1)] ⟨rfl, trivial⟩ (fun f1 => ?_)
    refine wk_then ?_
    refine wc_ret ?_
    exact wk_ret1 (x := s3.1) rfl (by decide) rfl so h

/-- mosaic/mosaicref06.Clip -/
def mosaicref06_Clip.enc : Int → Value := fun r => .int .i16 r
def mosaicref06_Clip.s (a0 : Int) (a1 : Int) (H0 : Hp) (Q : Int → Hp → Prop) : Prop :=
  Join (fun (s2 : Int) (H3 : Hp) => Join (fun (s5 : Int) (H6 : Hp) => mosaicref06_power.s s5 H6 (fun x7 H8 => if decide ((IntKind.wrap .i64 (x7 - 1)) < a0) = true then (Lt ((IntKind.wrap .i16 (IntKind.wrap .i64 (x7 - 1))) : Int) (fun x9 => Q x9 H8)) else (if decide (a0 < (IntKind.wrap .i64 (0 - (IntKind.wrap .i64 (x7 - 1))))) = true then (Lt ((IntKind.wrap .i16 (IntKind.wrap .i64 (0 - (IntKind.wrap .i64 (x7 - 1))))) : Int) (fun x11 => Q x11 H8)) else (Q (IntKind.wrap .i16 a0) H8)))) (fun (J4 : Int → Hp → Prop) => if decide ((15 : Int) < s2) = true then (J4 (15) H3) else (J4 (s2) H3))) (fun (J1 : Int → Hp → Prop) => if decide ((IntKind.wrap .i64 a1) < 0) = true then (J1 (0) H0) else (J1 ((IntKind.wrap .i64 a1)) H0))
set_option maxRecDepth 20000 in
set_option maxHeartbeats 4000000 in
theorem mosaicref06_Clip.calls (a0 : Int) (a1 : Int) (w0 : World) (Q : Int → Hp → Prop) (h : mosaicref06_Clip.s a0 a1 w0.heap Q) :
    Ca Try.prog 10 #[.int .i64 a0, .int .i8 a1] w0 (Rt mosaicref06_Clip.enc Q w0) := by
  refine ca_start (c := _) Try.func10 rfl Try.ntmps10 rfl ?_
  have so : Sm w0 w0 := Sm.refl w0
  unfold mosaicref06_Clip.s at h
  refine wc_prune [(0, .int .i64 a0), (1, .int .i8 a1)] ⟨rfl, rfl, trivial⟩ (fun f1 => ?_)
  refine wc_seq ?_
  refine wc_region ?_
  refine wl_val (at_assign rfl) rfl ?_
  refine wl_nil ?_
  refine wk_prune [(0, .int .i64 a0), (1, .int .i8 a1)] ⟨rfl, rfl, trivial⟩ (fun f1 => ?_)
  refine wk_then ?_
  refine wc_seq ?_
  refine wc_region ?_
  refine wl_val (at_move rfl) rfl ?_
  refine wl_val (at_conv Try.underlying22 Try.underlying3 rfl) rfl ?_
  refine wl_val (at_assign rfl) rfl ?_
  refine wl_nil ?_
  refine wk_prune [(0, .int .i64 a0), (5, .int .i64 (IntKind.wrap .i64 a1))] ⟨rfl, rfl, trivial⟩ (fun f1 => ?_)
  refine wk_then ?_
  refine wc_seq ?_
  refine wc_join (w0 := w0) (fun (s2 : Int) => [(0, .int .i64 a0), (5, .int .i64 s2)]) h ?_ ?_
  · intro s2 w3 f1 h so; refine wk_then ?_
    refine wc_seq ?_
    refine wc_join (w0 := w0) (fun (s5 : Int) => [(0, .int .i64 a0), (5, .int .i64 s5)]) h ?_ ?_
    · intro s5 w6 f1 h so; refine wk_then ?_
      refine wc_seq ?_
      refine wc_region ?_
      refine wl_val (at_move rfl) rfl ?_
      refine wl_callF (mosaicref06_power.calls _ _ _ h) enter18 rfl trivial so ?_; intro x7 w8 h so
      refine wl_val (at_sub rfl rfl) rfl ?_
      refine wl_val (at_assign rfl) rfl ?_
      refine wl_nil ?_
      refine wk_prune [(0, .int .i64 a0), (6, .int .i64 (IntKind.wrap .i64 (x7 - 1)))] ⟨rfl, rfl, trivial⟩ (fun f1 => ?_)
      refine wk_then ?_
      refine wc_seq ?_
      refine wc_seq ?_
      refine wc_region ?_
      refine wl_val (at_move rfl) rfl ?_
      refine wl_val (at_move rfl) rfl ?_
      refine wl_val (at_gtr rfl rfl) rfl ?_
      refine wl_nil ?_
      refine wk_prune [(0, .int .i64 a0), (6, .int .i64 (IntKind.wrap .i64 (x7 - 1))), (18, .bool (decide ((IntKind.wrap .i64 (x7 - 1)) < a0)))] ⟨rfl, rfl, rfl, trivial⟩ (fun f1 => ?_)
      refine wk_then ?_
      refine wc_cond rfl h (fun h => ?_) (fun h => ?_)
      · refine wc_seq ?_
        refine wc_region ?_
        refine wl_val (at_move rfl) rfl ?_
        refine wl_val (at_conv Try.underlying3 Try.underlying23 rfl) rfl ?_
        refine wl_val (at_assign rfl) rfl ?_
        obtain ⟨x9, e10⟩ : ∃ x : Int, x = (IntKind.wrap .i16 (IntKind.wrap .i64 (x7 - 1))) := ⟨_, rfl⟩; replace h := h x9 e10
        refine wl_set (t := 4) (v := .int .i16 x9) (congrArg (Value.int .i16) e10.symm) ?_
        refine wl_nil ?_
        refine wk_prune [(4, .int .i16 x9)] ⟨rfl, trivial⟩ (fun f1 => ?_)
        refine wk_then ?_
        refine wc_ret ?_
        refine wk_thenR ?_
        exact wk_ret1 (x := x9) rfl (by decide) rfl so h
      · refine wc_skip ?_
        refine wk_prune [(0, .int .i64 a0), (6, .int .i64 (IntKind.wrap .i64 (x7 - 1)))] ⟨rfl, rfl, trivial⟩ (fun f1 => ?_)
        refine wk_then ?_
        refine wc_seq ?_
        refine wc_seq ?_
        refine wc_region ?_
        refine wl_val (at_move rfl) rfl ?_
        refine wl_val (at_move rfl) rfl ?_
        refine wl_val (at_neg rfl) rfl ?_
        refine wl_val (at_lss rfl rfl) rfl ?_
        refine wl_nil ?_
        refine wk_prune [(0, .int .i64 a0), (6, .int .i64 (IntKind.wrap .i64 (x7 - 1))), (24, .bool (decide (a0 < (IntKind.wrap .i64 (0 - (IntKind.wrap .i64 (x7 - 1)))))))] ⟨rfl, rfl, rfl, trivial⟩ (fun f1 => ?_)
        refine wk_then ?_
        refine wc_cond rfl h (fun h => ?_) (fun h => ?_)
        · refine wc_seq ?_
          refine wc_region ?_
          refine wl_val (at_move rfl) rfl ?_
          refine wl_val (at_neg rfl) rfl ?_
          refine wl_val (at_conv Try.underlying3 Try.underlying23 rfl) rfl ?_
          refine wl_val (at_assign rfl) rfl ?_
          obtain ⟨x11, e12⟩ : ∃ x : Int, x = (IntKind.wrap .i16 (IntKind.wrap .i64 (0 - (IntKind.wrap .i64 (x7 - 1))))) := ⟨_, rfl⟩; replace h := h x11 e12
          refine wl_set (t := 4) (v := .int .i16 x11) (congrArg (Value.int .i16) e12.symm) ?_
          refine wl_nil ?_
          refine wk_prune [(4, .int .i16 x11)] ⟨rfl, trivial⟩ (fun f1 => ?_)
          refine wk_then ?_
          refine wc_ret ?_
          refine wk_thenR ?_
          exact wk_ret1 (x := x11) rfl (by decide) rfl so h
        · refine wc_skip ?_
          refine wk_prune [(0, .int .i64 a0)] ⟨rfl, trivial⟩ (fun f1 => ?_)
          refine wk_then ?_
          refine wc_seq ?_
          refine wc_region ?_
          refine wl_val (at_move rfl) rfl ?_
          refine wl_val (at_conv Try.underlying3 Try.underlying23 rfl) rfl ?_
          refine wl_val (at_assign rfl) rfl ?_
          refine wl_nil ?_
          refine wk_prune [(4, .int .i16 (IntKind.wrap .i16 a0))] ⟨rfl, trivial⟩ (fun f1 => ?_)
          refine wk_then ?_
          refine wc_ret ?_
          exact wk_ret1 (x := (IntKind.wrap .i16 a0)) rfl (by decide) rfl so h
    · intro J4 h hJ4
      refine wc_seq ?_
      refine wc_region ?_
      refine wl_val (at_move rfl) rfl ?_
      refine wl_val (at_gtr rfl rfl) rfl ?_
      refine wl_nil ?_
      refine wk_prune [(0, .int .i64 a0), (5, .int .i64 s2), (12, .bool (decide ((15 : Int) < s2)))] ⟨rfl, rfl, rfl, trivial⟩ (fun f1 => ?_)
      refine wk_then ?_
      refine wc_cond rfl h (fun h => ?_) (fun h => ?_)
      · refine wc_region ?_
        refine wl_val (at_assign rfl) rfl ?_
        refine wl_nil ?_
        exact wk_prune [(0, .int .i64 a0), (5, .int .i64 15)] ⟨rfl, rfl, trivial⟩ (fun f1 => hJ4 (15) _ f1 h so)
      · refine wc_skip ?_
        exact wk_prune [(0, .int .i64 a0), (5, .int .i64 s2)] ⟨rfl, rfl, trivial⟩ (fun f1 => hJ4 (s2) _ f1 h so)
  · intro J1 h hJ1
    refine wc_seq ?_
    refine wc_region ?_
    refine wl_val (at_move rfl) rfl ?_
    refine wl_val (at_lss rfl rfl) rfl ?_
    refine wl_nil ?_
    refine wk_prune [(0, .int .i64 a0), (5, .int .i64 (IntKind.wrap .i64 a1)), (10, .bool (decide ((IntKind.wrap .i64 a1) < 0)))] ⟨rfl, rfl, rfl, trivial⟩ (fun f1 => ?_)
    refine wk_then ?_
    refine wc_cond rfl h (fun h => ?_) (fun h => ?_)
    · refine wc_region ?_
      refine wl_val (at_assign rfl) rfl ?_
      refine wl_nil ?_
      exact wk_prune [(0, .int .i64 a0), (5, .int .i64 0)] ⟨rfl, rfl, trivial⟩ (fun f1 => hJ1 (0) _ f1 h so)
    · refine wc_skip ?_
      exact wk_prune [(0, .int .i64 a0), (5, .int .i64 (IntKind.wrap .i64 a1))] ⟨rfl, rfl, trivial⟩ (fun f1 => hJ1 ((IntKind.wrap .i64 a1)) _ f1 h so)

/-- mosaic/mosaicref06.Value -/
def mosaicref06_Value.enc : Int × Bool → Value := fun r => .tuple #[.int .i64 r.1, .bool r.2]
def mosaicref06_Value.s (a0 : Int) (a1 : Int) (H0 : Hp) (Q : (Int × Bool) → Hp → Prop) : Prop :=
  Join (fun (s2 : Bool) (H3 : Hp) => if s2 = true then (Q (0, false) H3) else (if (a1 == 0) = true then (Q (0, true) H3) else (mosaicref06_power.s (IntKind.wrap .i64 ((IntKind.wrap .i64 a1) - 1)) H3 (fun x4 H5 => Lt ((IntKind.wrap .i64 (0 - (IntKind.wrap .i64 ((IntKind.wrap .i64 ((2 : Int) * x4)) - 1)))) : Int) (fun x6 => ∃ k8, Fix (fun (rec13 : (Int × Int) → Hp → Prop) (s10 : Int × Int) (H11 : Hp) => if decide (s10.2 ≤ (IntKind.wrap .i64 (0 - x4))) = true then (if (s10.1 == (IntKind.wrap .i64 a0)) = true then (Q (s10.2, true) H11) else (rec13 ((IntKind.wrap .i64 (s10.1 + 1)), (IntKind.wrap .i64 (s10.2 + 1))) H11)) else (Lt ((IntKind.wrap .i64 ((IntKind.wrap .i64 (x4 + (IntKind.wrap .i64 a0))) - s10.1)) : Int) (fun x14 => Q (x14, true) H11))) k8 (0, x6) H5))))) (fun (J1 : Bool → Hp → Prop) => if decide (a1 < 0) = true then (J1 (true) H0) else (if decide ((16 : Int) < a1) = true then (J1 (true) H0) else (mosaicref06_power.s (IntKind.wrap .i64 a1) H0 (fun x16 H17 => J1 ((decide (x16 ≤ (IntKind.wrap .i64 a0)))) H17))))
set_option maxRecDepth 20000 in
set_option maxHeartbeats 4000000 in
theorem mosaicref06_Value.calls (a0 : Int) (a1 : Int) (w0 : World) (Q : (Int × Bool) → Hp → Prop) (h : mosaicref06_Value.s a0 a1 w0.heap Q) :
    Ca Try.prog 12 #[.int .u16 a0, .int .i8 a1] w0 (Rt mosaicref06_Value.enc Q w0) := by
  refine ca_start (c := _) Try.func12 rfl Try.ntmps12 rfl ?_
  have so : Sm w0 w0 := Sm.refl w0
  unfold mosaicref06_Value.s at h
  refine wc_prune [(0, .int .u16 a0), (1, .int .i8 a1)] ⟨rfl, rfl, trivial⟩ (fun f1 => ?_)
  refine wc_seq ?_
  refine wc_region ?_
  refine wl_val (at_assign rfl) rfl ?_
  refine wl_val (at_assign rfl) rfl ?_
  refine wl_nil ?_
  refine wk_prune [(0, .int .u16 a0), (1, .int .i8 a1)] ⟨rfl, rfl, trivial⟩ (fun f1 => ?_)
  refine wk_then ?_
  refine wc_seq ?_
  refine wc_seq ?_
  refine wc_join (w0 := w0) (fun (s2 : Bool) => [(0, .int .u16 a0), (1, .int .i8 a1), (22, .bool s2)]) h ?_ ?_
  · intro s2 w3 f1 h so; refine wk_then ?_
    refine wc_cond rfl h (fun h => ?_) (fun h => ?_)
    · refine wc_seq ?_
      refine wc_region ?_
      refine wl_val (at_assign rfl) rfl ?_
      refine wl_val (at_assign rfl) rfl ?_
      refine wl_nil ?_
      refine wk_prune [(4, .int .i64 0), (5, .bool false)] ⟨rfl, rfl, trivial⟩ (fun f1 => ?_)
      refine wk_then ?_
      refine wc_ret ?_
      refine wk_thenR ?_
      exact wk_ret2 (x := (0, false)) rfl (by decide) (by decide) rfl so h
    · refine wc_skip ?_
      refine wk_prune [(0, .int .u16 a0), (1, .int .i8 a1)] ⟨rfl, rfl, trivial⟩ (fun f1 => ?_)
      refine wk_then ?_
      refine wc_seq ?_
      refine wc_seq ?_
      refine wc_region ?_
      refine wl_val (at_move rfl) rfl ?_
      refine wl_val (at_eql rfl rfl) rfl ?_
      refine wl_nil ?_
      refine wk_prune [(0, .int .u16 a0), (1, .int .i8 a1), (24, .bool (a1 == 0))] ⟨rfl, rfl, rfl, trivial⟩ (fun f1 => ?_)
      refine wk_then ?_
      refine wc_cond rfl h (fun h => ?_) (fun h => ?_)
      · refine wc_seq ?_
        refine wc_region ?_
        refine wl_val (at_assign rfl) rfl ?_
        refine wl_val (at_assign rfl) rfl ?_
        refine wl_nil ?_
        refine wk_prune [(4, .int .i64 0), (5, .bool true)] ⟨rfl, rfl, trivial⟩ (fun f1 => ?_)
        refine wk_then ?_
        refine wc_ret ?_
        refine wk_thenR ?_
        exact wk_ret2 (x := (0, true)) rfl (by decide) (by decide) rfl so h
      · refine wc_skip ?_
        refine wk_prune [(0, .int .u16 a0), (1, .int .i8 a1)] ⟨rfl, rfl, trivial⟩ (fun f1 => ?_)
        refine wk_then ?_
        refine wc_seq ?_
        refine wc_region ?_
        refine wl_val (at_move rfl) rfl ?_
        refine wl_val (at_conv Try.underlying22 Try.underlying3 rfl) rfl ?_
        refine wl_val (at_sub rfl rfl) rfl ?_
        refine wl_callF (mosaicref06_power.calls _ _ _ h) enter18 rfl trivial so ?_; intro x4 w5 h so
        refine wl_val (at_assign rfl) rfl ?_
        refine wl_nil ?_
        refine wk_prune [(0, .int .u16 a0), (6, .int .i64 x4)] ⟨rfl, rfl, trivial⟩ (fun f1 => ?_)
        refine wk_then ?_
        refine wc_seq ?_
        refine wc_region ?_
        refine wl_val (at_assign rfl) rfl ?_
        refine wl_nil ?_
        refine wk_prune [(0, .int .u16 a0), (6, .int .i64 x4), (7, .int .i64 0)] ⟨rfl, rfl, rfl, trivial⟩ (fun f1 => ?_)
        refine wk_then ?_
        refine wc_seq ?_
        refine wc_seq ?_
        refine wc_region ?_
        refine wl_val (at_move rfl) rfl ?_
        refine wl_val (at_mul rfl rfl) rfl ?_
        refine wl_val (at_sub rfl rfl) rfl ?_
        refine wl_val (at_neg rfl) rfl ?_
        refine wl_val (at_assign rfl) rfl ?_
        obtain ⟨x6, e7⟩ : ∃ x : Int, x = (IntKind.wrap .i64 (0 - (IntKind.wrap .i64 ((IntKind.wrap .i64 ((2 : Int) * x4)) - 1)))) := ⟨_, rfl⟩; replace h := h x6 e7
        refine wl_set (t := 8) (v := .int .i64 x6) (congrArg (Value.int .i64) e7.symm) ?_
        refine wl_nil ?_
        refine wk_prune [(0, .int .u16 a0), (6, .int .i64 x4), (7, .int .i64 0), (8, .int .i64 x6)] ⟨rfl, rfl, rfl, rfl, trivial⟩ (fun f1 => ?_)
        refine wk_then ?_
        refine wc_block ?_
        obtain ⟨k8, h⟩ := h
        refine wc_loop (fun k a w => ∃ (s10 : Int × Int) (f1 : Nat → Value), a = ac 52 (en f1 [(0, .int .u16 a0), (6, .int .i64 x4), (7, .int .i64 s10.1), (8, .int .i64 s10.2)]) [] ∧ Sm w0 w ∧ Fix _ k s10 w.heap) k8 ⟨(0, x6), _, ac_again ⟨rfl, rfl, rfl, rfl, trivial⟩, so, h⟩ ?_
        rintro k9 a12 w11 ⟨s10, f1, rfl, so, h⟩
        rcases k9 with _ | k9
        · exact h.elim
        replace h := Fix.un h; refine wc_in ?_
        refine wc_seq ?_
        refine wc_seq ?_
        refine wc_region ?_
        refine wl_val (at_move rfl) rfl ?_
        refine wl_val (at_move rfl) rfl ?_
        refine wl_val (at_neg rfl) rfl ?_
        refine wl_val (at_leq rfl rfl) rfl ?_
        refine wl_nil ?_
        refine wk_prune [(0, .int .u16 a0), (6, .int .i64 x4), (7, .int .i64 s10.1), (8, .int .i64 s10.2), (36, .bool (decide (s10.2 ≤ (IntKind.wrap .i64 (0 - x4)))))] ⟨rfl, rfl, rfl, rfl, rfl, trivial⟩ (fun f1 => ?_)
        refine wk_then ?_
        refine wc_cond rfl h (fun h => ?_) (fun h => ?_)
        · refine wc_skip ?_
          refine wk_prune [(0, .int .u16 a0), (6, .int .i64 x4), (7, .int .i64 s10.1), (8, .int .i64 s10.2)] ⟨rfl, rfl, rfl, rfl, trivial⟩ (fun f1 => ?_)
          refine wk_then ?_
          refine wc_seq ?_
          refine wc_block ?_
          refine wc_seq ?_
          refine wc_seq ?_
          refine wc_region ?_
          refine wl_val (at_move rfl) rfl ?_
          refine wl_val (at_move rfl) rfl ?_
          refine wl_val (at_conv Try.underlying26 Try.underlying3 rfl) rfl ?_
          refine wl_val (at_eql rfl rfl) rfl ?_
          refine wl_nil ?_
          refine wk_prune [(0, .int .u16 a0), (6, .int .i64 x4), (7, .int .i64 s10.1), (8, .int .i64 s10.2), (42, .bool (s10.1 == (IntKind.wrap .i64 a0)))] ⟨rfl, rfl, rfl, rfl, rfl, trivial⟩ (fun f1 => ?_)
          refine wk_then ?_
          refine wc_cond rfl h (fun h => ?_) (fun h => ?_)
          · refine wc_seq ?_
            refine wc_region ?_
            refine wl_val (at_move rfl) rfl ?_
            refine wl_val (at_assign rfl) rfl ?_
            refine wl_val (at_assign rfl) rfl ?_
            refine wl_nil ?_
            refine wk_prune [(4, .int .i64 s10.2), (5, .bool true)] ⟨rfl, rfl, trivial⟩ (fun f1 => ?_)
            refine wk_then ?_
            refine wc_ret ?_
            refine wk_thenR ?_
            refine wk_blkR ?_
            refine wk_thenR ?_
            refine wk_thenR ?_
            refine wk_blkR ?_
            refine wk_thenR ?_
            exact wk_ret2 (x := (s10.2, true)) rfl (by decide) (by decide) rfl so h
          · refine wc_skip ?_
            refine wk_prune [(0, .int .u16 a0), (6, .int .i64 x4), (7, .int .i64 s10.1), (8, .int .i64 s10.2)] ⟨rfl, rfl, rfl, rfl, trivial⟩ (fun f1 => ?_)
            refine wk_then ?_
            refine wc_region ?_
            refine wl_val (at_move rfl) rfl ?_
            refine wl_val (at_add rfl rfl) rfl ?_
            refine wl_val (at_assign rfl) rfl ?_
            refine wl_nil ?_
            refine wk_blkN ?_
            refine wk_prune [(0, .int .u16 a0), (6, .int .i64 x4), (7, .int .i64 (IntKind.wrap .i64 (s10.1 + 1))), (8, .int .i64 s10.2)] ⟨rfl, rfl, rfl, rfl, trivial⟩ (fun f1 => ?_)
            refine wk_then ?_
            refine wc_region ?_
            refine wl_val (at_move rfl) rfl ?_
            refine wl_val (at_add rfl rfl) rfl ?_
            refine wl_val (at_assign rfl) rfl ?_
            refine wl_nil ?_
            exact wk_again ⟨((IntKind.wrap .i64 (s10.1 + 1)), (IntKind.wrap .i64 (s10.2 + 1))), _, ac_again ⟨rfl, rfl, rfl, rfl, trivial⟩, so, h⟩
        · refine wc_exit ?_
          refine wk_thenE ?_
          refine wk_thenE ?_
          refine wk_blkE ?_
          refine wk_prune [(0, .int .u16 a0), (6, .int .i64 x4), (7, .int .i64 s10.1)] ⟨rfl, rfl, rfl, trivial⟩ (fun f1 => ?_)
          refine wk_then ?_
          refine wc_seq ?_
          refine wc_region ?_
          refine wl_val (at_move rfl) rfl ?_
          refine wl_val (at_move rfl) rfl ?_
          refine wl_val (at_conv Try.underlying26 Try.underlying3 rfl) rfl ?_
          refine wl_val (at_add rfl rfl) rfl ?_
          refine wl_val (at_move rfl) rfl ?_
          refine wl_val (at_sub rfl rfl) rfl ?_
          refine wl_val (at_assign rfl) rfl ?_
          obtain ⟨x14, e15⟩ : ∃ x : Int, x = (IntKind.wrap .i64 ((IntKind.wrap .i64 (x4 + (IntKind.wrap .i64 a0))) - s10.1)) := ⟨_, rfl⟩; replace h := h x14 e15
          refine wl_set (t := 4) (v := .int .i64 x14) (congrArg (Value.int .i64) e15.symm) ?_
          refine wl_val (at_assign rfl) rfl ?_
          refine wl_nil ?_
          refine wk_prune [(4, .int .i64 x14), (5, .bool true)] ⟨rfl, rfl, trivial⟩ (fun f1 => ?_)
          refine wk_then ?_
          refine wc_ret ?_
          exact wk_ret2 (x := (x14, true)) rfl (by decide) (by decide) rfl so h
  · intro J1 h hJ1
    refine wc_region ?_
    refine wl_val (at_move rfl) rfl ?_
    refine wl_val (at_lss rfl rfl) rfl ?_
    refine wl_val (at_move rfl) rfl ?_
    refine bif_ h (fun hb h => ?_) (fun hb h => ?_)
    · refine wl_set (t := 11) (v := .bool true) (congrArg Value.bool hb) ?_; clear hb
      refine wl_off (t := 11) rfl (by decide) rfl ?_
      refine wl_off (t := 11) rfl (by decide) rfl ?_
      refine wl_val (at_pick_t rfl rfl) rfl ?_
      refine wl_val (at_move rfl) rfl ?_
      refine wl_off (t := 15) rfl (by decide) rfl ?_
      refine wl_off (t := 15) rfl (by decide) rfl ?_
      refine wl_off (t := 15) rfl (by decide) rfl ?_
      refine wl_off (t := 15) rfl (by decide) rfl ?_
      refine wl_off (t := 15) rfl (by decide) rfl ?_
      refine wl_off (t := 15) rfl (by decide) rfl ?_
      refine wl_val (at_pick_t rfl rfl) rfl ?_
      refine wl_nil ?_
      exact wk_prune [(0, .int .u16 a0), (1, .int .i8 a1), (22, .bool true)] ⟨rfl, rfl, rfl, trivial⟩ (fun f1 => hJ1 (true) _ f1 h so)
    · refine wl_set (t := 11) (v := .bool false) (congrArg Value.bool hb) ?_; clear hb
      refine wl_on (t := 11) rfl (by decide) rfl ?_
      refine wl_val (at_move rfl) rfl ?_
      refine wl_on (t := 11) rfl (by decide) rfl ?_
      refine wl_val (at_gtr rfl rfl) rfl ?_
      refine wl_val (at_pick_f rfl rfl) rfl ?_
      refine wl_val (at_move rfl) rfl ?_
      refine bif_ h (fun hb h => ?_) (fun hb h => ?_)
      · refine wl_set (t := 15) (v := .bool true) (congrArg Value.bool hb) ?_; clear hb
        refine wl_off (t := 15) rfl (by decide) rfl ?_
        refine wl_off (t := 15) rfl (by decide) rfl ?_
        refine wl_off (t := 15) rfl (by decide) rfl ?_
        refine wl_off (t := 15) rfl (by decide) rfl ?_
        refine wl_off (t := 15) rfl (by decide) rfl ?_
        refine wl_off (t := 15) rfl (by decide) rfl ?_
        refine wl_val (at_pick_t rfl rfl) rfl ?_
        refine wl_nil ?_
        exact wk_prune [(0, .int .u16 a0), (1, .int .i8 a1), (22, .bool true)] ⟨rfl, rfl, rfl, trivial⟩ (fun f1 => hJ1 (true) _ f1 h so)
      · refine wl_set (t := 15) (v := .bool false) (congrArg Value.bool hb) ?_; clear hb
        refine wl_on (t := 15) rfl (by decide) rfl ?_
        refine wl_val (at_move rfl) rfl ?_
        refine wl_on (t := 15) rfl (by decide) rfl ?_
        refine wl_val (at_conv Try.underlying26 Try.underlying3 rfl) rfl ?_
        refine wl_on (t := 15) rfl (by decide) rfl ?_
        refine wl_val (at_move rfl) rfl ?_
        refine wl_on (t := 15) rfl (by decide) rfl ?_
        refine wl_val (at_conv Try.underlying22 Try.underlying3 rfl) rfl ?_
        refine wl_on (t := 15) rfl (by decide) rfl ?_
        refine wl_callF (mosaicref06_power.calls _ _ _ h) enter18 rfl trivial so ?_; intro x16 w17 h so
        refine wl_on (t := 15) rfl (by decide) rfl ?_
        refine wl_val (at_geq rfl rfl) rfl ?_
        refine wl_val (at_pick_f rfl rfl) rfl ?_
        refine wl_nil ?_
        exact wk_prune [(0, .int .u16 a0), (1, .int .i8 a1), (22, .bool (decide (x16 ≤ (IntKind.wrap .i64 a0))))] ⟨rfl, rfl, rfl, trivial⟩ (fun f1 => hJ1 ((decide (x16 ≤ (IntKind.wrap .i64 a0)))) _ f1 h so)

/-- mosaic/mosaicref06.below -/
def mosaicref06_below.enc : Bool → Value := fun r => .bool r
def mosaicref06_below.s (a0 : Int) (a1 : Int) (H0 : Hp) (Q : Bool → Hp → Prop) : Prop :=
  Join (fun (s2 : Int) (H3 : Hp) => if decide ((64 : Int) ≤ a1) = true then (Q true H3) else (if (a1 == 63) = true then (if decide ((-9223372036854775808 : Int) < s2) = true then (Q true H3) else (if decide (a1 < 63) = true then (mosaicref06_power.s a1 H3 (fun x4 H5 => Q (decide ((IntKind.wrap .i64 (0 - x4)) < s2)) H5)) else (Q false H3))) else (if decide (a1 < 63) = true then (mosaicref06_power.s a1 H3 (fun x6 H7 => Q (decide ((IntKind.wrap .i64 (0 - x6)) < s2)) H7)) else (Q false H3)))) (fun (J1 : Int → Hp → Prop) => if decide ((0 : Int) < a0) = true then (J1 ((IntKind.wrap .i64 (0 - a0))) H0) else (J1 (a0) H0))
set_option maxRecDepth 20000 in
set_option maxHeartbeats 4000000 in
theorem mosaicref06_below.calls (a0 : Int) (a1 : Int) (w0 : World) (Q : Bool → Hp → Prop) (h : mosaicref06_below.s a0 a1 w0.heap Q) :
    Ca Try.prog 21 #[.int .i64 a0, .int .i64 a1] w0 (Rt mosaicref06_below.enc Q w0) := by
  refine ca_start (c := _) Try.func21 rfl Try.ntmps21 rfl ?_
  have so : Sm w0 w0 := Sm.refl w0
  unfold mosaicref06_below.s at h
  refine wc_prune [(0, .int .i64 a0), (1, .int .i64 a1)] ⟨rfl, rfl, trivial⟩ (fun f1 => ?_)
  refine wc_seq ?_
  refine wc_region ?_
  refine wl_val (at_assign rfl) rfl ?_
  refine wl_nil ?_
  refine wk_prune [(0, .int .i64 a0), (1, .int .i64 a1)] ⟨rfl, rfl, trivial⟩ (fun f1 => ?_)
  refine wk_then ?_
  refine wc_seq ?_
  refine wc_join (w0 := w0) (fun (s2 : Int) => [(0, .int .i64 s2), (1, .int .i64 a1)]) h ?_ ?_
  · intro s2 w3 f1 h so; refine wk_then ?_
    refine wc_seq ?_
    refine wc_region ?_
    refine wl_val (at_move rfl) rfl ?_
    refine wl_val (at_geq rfl rfl) rfl ?_
    refine wl_val (at_move rfl) rfl ?_
    refine bif_ h (fun hb h => ?_) (fun hb h => ?_)
    · refine wl_set (t := 11) (v := .bool true) (congrArg Value.bool hb) ?_; clear hb
      refine wl_off (t := 11) rfl (by decide) rfl ?_
      refine wl_off (t := 11) rfl (by decide) rfl ?_
      refine wl_off (t := 11) rfl (by decide) rfl ?_
      refine wl_off' (t := 14) rfl (by decide) rfl ?_
      refine wl_off' (t := 14) rfl (by decide) rfl ?_
      refine wl_off (t := 11) rfl (by decide) rfl ?_
      refine wl_val (at_pick_t rfl rfl) rfl ?_
      refine wl_val (at_move rfl) rfl ?_
      refine wl_off (t := 19) rfl (by decide) rfl ?_
      refine wl_off (t := 19) rfl (by decide) rfl ?_
      refine wl_off (t := 19) rfl (by decide) rfl ?_
      refine wl_off' (t := 22) rfl (by decide) rfl ?_
      refine wl_off' (t := 22) rfl (by decide) rfl ?_
      refine wl_off' (t := 22) rfl (by decide) rfl ?_
      refine wl_off' (t := 22) rfl (by decide) rfl ?_
      refine wl_off' (t := 22) rfl (by decide) rfl ?_
      refine wl_off (t := 19) rfl (by decide) rfl ?_
      refine wl_val (at_pick_t rfl rfl) rfl ?_
      refine wl_val (at_assign rfl) rfl ?_
      refine wl_nil ?_
      refine wk_prune [(4, .bool true)] ⟨rfl, trivial⟩ (fun f1 => ?_)
      refine wk_then ?_
      refine wc_ret ?_
      exact wk_ret1 (x := true) rfl (by decide) rfl so h
    · refine wl_set (t := 11) (v := .bool false) (congrArg Value.bool hb) ?_; clear hb
      refine wl_on (t := 11) rfl (by decide) rfl ?_
      refine wl_val (at_move rfl) rfl ?_
      refine wl_on (t := 11) rfl (by decide) rfl ?_
      refine wl_val (at_eql rfl rfl) rfl ?_
      refine wl_on (t := 11) rfl (by decide) rfl ?_
      refine wl_val (at_move rfl) rfl ?_
      refine bif_ h (fun hb h => ?_) (fun hb h => ?_)
      · refine wl_set (t := 14) (v := .bool true) (congrArg Value.bool hb) ?_; clear hb
        refine wl_on (t := 14) rfl (by decide) rfl ?_
        refine wl_val (at_move rfl) rfl ?_
        refine wl_on (t := 14) rfl (by decide) rfl ?_
        refine wl_val (at_gtr rfl rfl) rfl ?_
        refine wl_on (t := 11) rfl (by decide) rfl ?_
        refine wl_val (at_pick_t rfl rfl) rfl ?_
        refine wl_val (at_pick_f rfl rfl) rfl ?_
        refine wl_val (at_move rfl) rfl ?_
        refine bif_ h (fun hb h => ?_) (fun hb h => ?_)
        · refine wl_set (t := 19) (v := .bool true) (congrArg Value.bool hb) ?_; clear hb
          refine wl_off (t := 19) rfl (by decide) rfl ?_
          refine wl_off (t := 19) rfl (by decide) rfl ?_
          refine wl_off (t := 19) rfl (by decide) rfl ?_
          refine wl_off' (t := 22) rfl (by decide) rfl ?_
          refine wl_off' (t := 22) rfl (by decide) rfl ?_
          refine wl_off' (t := 22) rfl (by decide) rfl ?_
          refine wl_off' (t := 22) rfl (by decide) rfl ?_
          refine wl_off' (t := 22) rfl (by decide) rfl ?_
          refine wl_off (t := 19) rfl (by decide) rfl ?_
          refine wl_val (at_pick_t rfl rfl) rfl ?_
          refine wl_val (at_assign rfl) rfl ?_
          refine wl_nil ?_
          refine wk_prune [(4, .bool true)] ⟨rfl, trivial⟩ (fun f1 => ?_)
          refine wk_then ?_
          refine wc_ret ?_
          exact wk_ret1 (x := true) rfl (by decide) rfl so h
        · refine wl_set (t := 19) (v := .bool false) (congrArg Value.bool hb) ?_; clear hb
          refine wl_on (t := 19) rfl (by decide) rfl ?_
          refine wl_val (at_move rfl) rfl ?_
          refine wl_on (t := 19) rfl (by decide) rfl ?_
          refine wl_val (at_lss rfl rfl) rfl ?_
          refine wl_on (t := 19) rfl (by decide) rfl ?_
          refine wl_val (at_move rfl) rfl ?_
          refine bif_ h (fun hb h => ?_) (fun hb h => ?_)
          · refine wl_set (t := 22) (v := .bool true) (congrArg Value.bool hb) ?_; clear hb
            refine wl_on (t := 22) rfl (by decide) rfl ?_
            refine wl_val (at_move rfl) rfl ?_
            refine wl_on (t := 22) rfl (by decide) rfl ?_
            refine wl_val (at_move rfl) rfl ?_
            refine wl_on (t := 22) rfl (by decide) rfl ?_
            refine wl_callF (mosaicref06_power.calls _ _ _ h) enter18 rfl trivial so ?_; intro x4 w5 h so
            refine wl_on (t := 22) rfl (by decide) rfl ?_
            refine wl_val (at_neg rfl) rfl ?_
            refine wl_on (t := 22) rfl (by decide) rfl ?_
            refine wl_val (at_gtr rfl rfl) rfl ?_
            refine wl_on (t := 19) rfl (by decide) rfl ?_
            refine wl_val (at_pick_t rfl rfl) rfl ?_
            refine wl_val (at_pick_f rfl rfl) rfl ?_
            refine wl_val (at_assign rfl) rfl ?_
            refine wl_nil ?_
            refine wk_prune [(4, .bool (decide ((IntKind.wrap .i64 (0 - x4)) < s2)))] ⟨rfl, trivial⟩ (fun f1 => ?_)
            refine wk_then ?_
            refine wc_ret ?_
            exact wk_ret1 (x := (decide ((IntKind.wrap .i64 (0 - x4)) < s2))) rfl (by decide) rfl so h
          · refine wl_set (t := 22) (v := .bool false) (congrArg Value.bool hb) ?_; clear hb
            refine wl_off (t := 22) rfl (by decide) rfl ?_
            refine wl_off (t := 22) rfl (by decide) rfl ?_
            refine wl_off (t := 22) rfl (by decide) rfl ?_
            refine wl_off (t := 22) rfl (by decide) rfl ?_
            refine wl_off (t := 22) rfl (by decide) rfl ?_
            refine wl_on (t := 19) rfl (by decide) rfl ?_
            refine wl_val (at_pick_f rfl rfl) rfl ?_
            refine wl_val (at_pick_f rfl rfl) rfl ?_
            refine wl_val (at_assign rfl) rfl ?_
            refine wl_nil ?_
            refine wk_prune [(4, .bool false)] ⟨rfl, trivial⟩ (fun f1 => ?_)
            refine wk_then ?_
            refine wc_ret ?_
            exact wk_ret1 (x := false) rfl (by decide) rfl so h
      · refine wl_set (t := 14) (v := .bool false) (congrArg Value.bool hb) ?_; clear hb
        refine wl_off (t := 14) rfl (by decide) rfl ?_
        refine wl_off (t := 14) rfl (by decide) rfl ?_
        refine wl_on (t := 11) rfl (by decide) rfl ?_
        refine wl_val (at_pick_f rfl rfl) rfl ?_
        refine wl_val (at_pick_f rfl rfl) rfl ?_
        refine wl_val (at_move rfl) rfl ?_
        refine wl_on (t := 19) rfl (by decide) rfl ?_
        refine wl_val (at_move rfl) rfl ?_
        refine wl_on (t := 19) rfl (by decide) rfl ?_
        refine wl_val (at_lss rfl rfl) rfl ?_
        refine wl_on (t := 19) rfl (by decide) rfl ?_
        refine wl_val (at_move rfl) rfl ?_
        refine bif_ h (fun hb h => ?_) (fun hb h => ?_)
        · refine wl_set (t := 22) (v := .bool true) (congrArg Value.bool hb) ?_; clear hb
          refine wl_on (t := 22) rfl (by decide) rfl ?_
          refine wl_val (at_move rfl) rfl ?_
          refine wl_on (t := 22) rfl (by decide) rfl ?_
          refine wl_val (at_move rfl) rfl ?_
          refine wl_on (t := 22) rfl (by decide) rfl ?_
          refine wl_callF (mosaicref06_power.calls _ _ _ h) enter18 rfl trivial so ?_; intro x6 w7 h so
          refine wl_on (t := 22) rfl (by decide) rfl ?_
          refine wl_val (at_neg rfl) rfl ?_
          refine wl_on (t := 22) rfl (by decide) rfl ?_
          refine wl_val (at_gtr rfl rfl) rfl ?_
          refine wl_on (t := 19) rfl (by decide) rfl ?_
          refine wl_val (at_pick_t rfl rfl) rfl ?_
          refine wl_val (at_pick_f rfl rfl) rfl ?_
          refine wl_val (at_assign rfl) rfl ?_
          refine wl_nil ?_
          refine wk_prune [(4, .bool (decide ((IntKind.wrap .i64 (0 - x6)) < s2)))] ⟨rfl, trivial⟩ (fun f1 => ?_)
          refine wk_then ?_
          refine wc_ret ?_
          exact wk_ret1 (x := (decide ((IntKind.wrap .i64 (0 - x6)) < s2))) rfl (by decide) rfl so h
        · refine wl_set (t := 22) (v := .bool false) (congrArg Value.bool hb) ?_; clear hb
          refine wl_off (t := 22) rfl (by decide) rfl ?_
          refine wl_off (t := 22) rfl (by decide) rfl ?_
          refine wl_off (t := 22) rfl (by decide) rfl ?_
          refine wl_off (t := 22) rfl (by decide) rfl ?_
          refine wl_off (t := 22) rfl (by decide) rfl ?_
          refine wl_on (t := 19) rfl (by decide) rfl ?_
          refine wl_val (at_pick_f rfl rfl) rfl ?_
          refine wl_val (at_pick_f rfl rfl) rfl ?_
          refine wl_val (at_assign rfl) rfl ?_
          refine wl_nil ?_
          refine wk_prune [(4, .bool false)] ⟨rfl, trivial⟩ (fun f1 => ?_)
          refine wk_then ?_
          refine wc_ret ?_
          exact wk_ret1 (x := false) rfl (by decide) rfl so h
  · intro J1 h hJ1
    refine wc_seq ?_
    refine wc_region ?_
    refine wl_val (at_move rfl) rfl ?_
    refine wl_val (at_gtr rfl rfl) rfl ?_
    refine wl_nil ?_
    refine wk_prune [(0, .int .i64 a0), (1, .int .i64 a1), (6, .bool (decide ((0 : Int) < a0)))] ⟨rfl, rfl, rfl, trivial⟩ (fun f1 => ?_)
    refine wk_then ?_
    refine wc_cond rfl h (fun h => ?_) (fun h => ?_)
    · refine wc_region ?_
      refine wl_val (at_move rfl) rfl ?_
      refine wl_val (at_neg rfl) rfl ?_
      refine wl_val (at_assign rfl) rfl ?_
      refine wl_nil ?_
      exact wk_prune [(0, .int .i64 (IntKind.wrap .i64 (0 - a0))), (1, .int .i64 a1)] ⟨rfl, rfl, trivial⟩ (fun f1 => hJ1 ((IntKind.wrap .i64 (0 - a0))) _ f1 h so)
    · refine wc_skip ?_
      exact wk_prune [(0, .int .i64 a0), (1, .int .i64 a1)] ⟨rfl, rfl, trivial⟩ (fun f1 => hJ1 (a0) _ f1 h so)

/-- mosaic/mosaicref06.Size -/
def mosaicref06_Size.enc : Int → Value := fun r => .int .i8 r
def mosaicref06_Size.s (a0 : Int) (H0 : Hp) (Q : Int → Hp → Prop) : Prop :=
  ∃ k1, Fix (fun (rec6 : Int → Hp → Prop) (s3 : Int) (H4 : Hp) => if decide (s3 < 64) = true then (mosaicref06_below.s a0 s3 H4 (fun x7 H8 => if x7 = true then (Q (IntKind.wrap .i8 s3) H8) else (rec6 ((IntKind.wrap .i64 (s3 + 1))) H8))) else (Q 64 H4)) k1 (0) H0
set_option maxRecDepth 20000 in
set_option maxHeartbeats 4000000 in
theorem mosaicref06_Size.calls (a0 : Int) (w0 : World) (Q : Int → Hp → Prop) (h : mosaicref06_Size.s a0 w0.heap Q) :
    Ca Try.prog 16 #[.int .i64 a0] w0 (Rt mosaicref06_Size.enc Q w0) := by
  refine ca_start (c := _) Try.func16 rfl Try.ntmps16 rfl ?_
  have so : Sm w0 w0 := Sm.refl w0
  unfold mosaicref06_Size.s at h
  refine wc_prune [(0, .int .i64 a0)] ⟨rfl, trivial⟩ (fun f1 => ?_)
  refine wc_seq ?_
  refine wc_region ?_
  refine wl_val (at_assign rfl) rfl ?_
  refine wl_nil ?_
  refine wk_prune [(0, .int .i64 a0)] ⟨rfl, trivial⟩ (fun f1 => ?_)
  refine wk_then ?_
  refine wc_seq ?_
  refine wc_region ?_
  refine wl_val (at_assign rfl) rfl ?_
  refine wl_nil ?_
  refine wk_prune [(0, .int .i64 a0), (3, .int .i64 0)] ⟨rfl, rfl, trivial⟩ (fun f1 => ?_)
  refine wk_then ?_
  refine wc_seq ?_
  refine wc_block ?_
  obtain ⟨k1, h⟩ := h
  refine wc_loop (fun k a w => ∃ (s3 : Int) (f1 : Nat → Value), a = ac 15 (en f1 [(0, .int .i64 a0), (3, .int .i64 s3)]) [] ∧ Sm w0 w ∧ Fix _ k s3 w.heap) k1 ⟨(0), _, ac_again ⟨rfl, rfl, trivial⟩, so, h⟩ ?_
  rintro k2 a5 w4 ⟨s3, f1, rfl, so, h⟩
  rcases k2 with _ | k2
  · exact h.elim
  replace h := Fix.un h; refine wc_in ?_
  refine wc_seq ?_
  refine wc_seq ?_
  refine wc_region ?_
  refine wl_val (at_move rfl) rfl ?_
  refine wl_val (at_lss rfl rfl) rfl ?_
  refine wl_nil ?_
  refine wk_prune [(0, .int .i64 a0), (3, .int .i64 s3), (6, .bool (decide (s3 < 64)))] ⟨rfl, rfl, rfl, trivial⟩ (fun f1 => ?_)
  refine wk_then ?_
  refine wc_cond rfl h (fun h => ?_) (fun h => ?_)
  · refine wc_skip ?_
    refine wk_prune [(0, .int .i64 a0), (3, .int .i64 s3)] ⟨rfl, rfl, trivial⟩ (fun f1 => ?_)
    refine wk_then ?_
    refine wc_block ?_
    refine wc_seq ?_
    refine wc_region ?_
    refine wl_val (at_move rfl) rfl ?_
    refine wl_val (at_move rfl) rfl ?_
    refine wl_callF (mosaicref06_below.calls _ _ _ _ h) enter21 rfl trivial so ?_; intro x7 w8 h so
    refine wl_val (at_assign rfl) rfl ?_
    refine wl_nil ?_
    refine wk_prune [(0, .int .i64 a0), (3, .int .i64 s3), (4, .bool x7)] ⟨rfl, rfl, rfl, trivial⟩ (fun f1 => ?_)
    refine wk_then ?_
    refine wc_seq ?_
    refine wc_seq ?_
    refine wc_region ?_
    refine wl_val (at_move rfl) rfl ?_
    refine wl_nil ?_
    refine wk_prune [(0, .int .i64 a0), (3, .int .i64 s3), (10, .bool x7)] ⟨rfl, rfl, rfl, trivial⟩ (fun f1 => ?_)
    refine wk_then ?_
    refine wc_cond rfl h (fun h => ?_) (fun h => ?_)
    · refine wc_seq ?_
      refine wc_region ?_
      refine wl_val (at_move rfl) rfl ?_
      refine wl_val (at_conv Try.underlying3 Try.underlying22 rfl) rfl ?_
      refine wl_val (at_assign rfl) rfl ?_
      refine wl_nil ?_
      refine wk_prune [(2, .int .i8 (IntKind.wrap .i8 s3))] ⟨rfl, trivial⟩ (fun f1 => ?_)
      refine wk_then ?_
      refine wc_ret ?_
      refine wk_thenR ?_
      refine wk_blkR ?_
      refine wk_thenR ?_
      refine wk_blkR ?_
      refine wk_thenR ?_
      exact wk_ret1 (x := (IntKind.wrap .i8 s3)) rfl (by decide) rfl so h
    · refine wc_skip ?_
      refine wk_prune [(0, .int .i64 a0), (3, .int .i64 s3)] ⟨rfl, rfl, trivial⟩ (fun f1 => ?_)
      refine wk_then ?_
      refine wc_region ?_
      refine wl_val (at_move rfl) rfl ?_
      refine wl_val (at_add rfl rfl) rfl ?_
      refine wl_val (at_assign rfl) rfl ?_
      refine wl_nil ?_
      refine wk_blkN ?_
      exact wk_again ⟨((IntKind.wrap .i64 (s3 + 1))), _, ac_again ⟨rfl, rfl, trivial⟩, so, h⟩
  · refine wc_exit ?_
    refine wk_thenE ?_
    refine wk_thenE ?_
    refine wk_blkE ?_
    refine wk_prune [] trivial (fun f1 => ?_)
    refine wk_then ?_
    refine wc_seq ?_
    refine wc_region ?_
    refine wl_val (at_assign rfl) rfl ?_
    refine wl_nil ?_
    refine wk_prune [(2, .int .i8 64)] ⟨rfl, trivial⟩ (fun f1 => ?_)
    refine wk_then ?_
    refine wc_ret ?_
    exact wk_ret1 (x := 64) rfl (by decide) rfl so h

/-- mosaic/mosaicref06.Bits -/
def mosaicref06_Bits.enc : Int × Int × Bool → Value := fun r => .tuple #[.int .u16 r.1, .int .i8 r.2.1, .bool r.2.2]
def mosaicref06_Bits.s (a0 : Int) (H0 : Hp) (Q : (Int × Int × Bool) → Hp → Prop) : Prop :=
  mosaicref06_Size.s a0 H0 (fun x1 H2 => if decide ((16 : Int) < x1) = true then (Q (0, 0, false) H2) else (Join (fun (s4 : Int) (H5 : Hp) => Q ((IntKind.wrap .u16 s4), x1, true) H5) (fun (J3 : Int → Hp → Prop) => if decide (a0 < 0) = true then (mosaicref06_power.s (IntKind.wrap .i64 x1) H2 (fun x6 H7 => Lt ((IntKind.wrap .i64 ((IntKind.wrap .i64 (a0 + x6)) - 1)) : Int) (fun x8 => J3 (x8) H7))) else (J3 (a0) H2))))
set_option maxRecDepth 20000 in
set_option maxHeartbeats 4000000 in
theorem mosaicref06_Bits.calls (a0 : Int) (w0 : World) (Q : (Int × Int × Bool) → Hp → Prop) (h : mosaicref06_Bits.s a0 w0.heap Q) :
    Ca Try.prog 14 #[.int .i64 a0] w0 (Rt mosaicref06_Bits.enc Q w0) := by
  refine ca_start (c := _) Try.func14 rfl Try.ntmps14 rfl ?_
  have so : Sm w0 w0 := Sm.refl w0
  unfold mosaicref06_Bits.s at h
  refine wc_prune [(0, .int .i64 a0)] ⟨rfl, trivial⟩ (fun f1 => ?_)
  refine wc_seq ?_
  refine wc_region ?_
  refine wl_val (at_assign rfl) rfl ?_
  refine wl_val (at_assign rfl) rfl ?_
  refine wl_val (at_assign rfl) rfl ?_
  refine wl_nil ?_
  refine wk_prune [(0, .int .i64 a0)] ⟨rfl, trivial⟩ (fun f1 => ?_)
  refine wk_then ?_
  refine wc_seq ?_
  refine wc_region ?_
  refine wl_val (at_move rfl) rfl ?_
  refine wl_callF (mosaicref06_Size.calls _ _ _ h) enter16 rfl trivial so ?_; intro x1 w2 h so
  refine wl_val (at_assign rfl) rfl ?_
  refine wl_nil ?_
  refine wk_prune [(0, .int .i64 a0), (5, .int .i8 x1)] ⟨rfl, rfl, trivial⟩ (fun f1 => ?_)
  refine wk_then ?_
  refine wc_seq ?_
  refine wc_seq ?_
  refine wc_region ?_
  refine wl_val (at_move rfl) rfl ?_
  refine wl_val (at_gtr rfl rfl) rfl ?_
  refine wl_nil ?_
  refine wk_prune [(0, .int .i64 a0), (5, .int .i8 x1), (9, .bool (decide ((16 : Int) < x1)))] ⟨rfl, rfl, rfl, trivial⟩ (fun f1 => ?_)
  refine wk_then ?_
  refine wc_cond rfl h (fun h => ?_) (fun h => ?_)
  · refine wc_seq ?_
    refine wc_region ?_
    refine wl_val (at_assign rfl) rfl ?_
    refine wl_val (at_assign rfl) rfl ?_
    refine wl_val (at_assign rfl) rfl ?_
    refine wl_nil ?_
    refine wk_prune [(2, .int .u16 0), (3, .int .i8 0), (4, .bool false)] ⟨rfl, rfl, rfl, trivial⟩ (fun f1 => ?_)
    refine wk_then ?_
    refine wc_ret ?_
    refine wk_thenR ?_
    exact wk_ret3 (x := (0, 0, false)) rfl (by decide) (by decide) (by decide) rfl so h
  · refine wc_skip ?_
    refine wk_prune [(0, .int .i64 a0), (5, .int .i8 x1)] ⟨rfl, rfl, trivial⟩ (fun f1 => ?_)
    refine wk_then ?_
    refine wc_seq ?_
    refine wc_join (w0 := w0) (fun (s4 : Int) => [(0, .int .i64 s4), (5, .int .i8 x1)]) h ?_ ?_
    · intro s4 w5 f1 h so; refine wk_then ?_
      refine wc_seq ?_
      refine wc_region ?_
      refine wl_val (at_move rfl) rfl ?_
      refine wl_val (at_conv Try.underlying3 Try.underlying26 rfl) rfl ?_
      refine wl_val (at_move rfl) rfl ?_
      refine wl_val (at_assign rfl) rfl ?_
      refine wl_val (at_assign rfl) rfl ?_
      refine wl_val (at_assign rfl) rfl ?_
      refine wl_nil ?_
      refine wk_prune [(2, .int .u16 (IntKind.wrap .u16 s4)), (3, .int .i8 x1), (4, .bool true)] ⟨rfl, rfl, rfl, trivial⟩ (fun f1 => ?_)
      refine wk_then ?_
      refine wc_ret ?_
      exact wk_ret3 (x := ((IntKind.wrap .u16 s4), x1, true)) rfl (by decide) (by decide) (by decide) rfl so h
    · intro J3 h hJ3
      refine wc_seq ?_
      refine wc_region ?_
      refine wl_val (at_move rfl) rfl ?_
      refine wl_val (at_lss rfl rfl) rfl ?_
      refine wl_nil ?_
      refine wk_prune [(0, .int .i64 a0), (5, .int .i8 x1), (11, .bool (decide (a0 < 0)))] ⟨rfl, rfl, rfl, trivial⟩ (fun f1 => ?_)
      refine wk_then ?_
      refine wc_cond rfl h (fun h => ?_) (fun h => ?_)
      · refine wc_region ?_
        refine wl_val (at_move rfl) rfl ?_
        refine wl_val (at_move rfl) rfl ?_
        refine wl_val (at_conv Try.underlying22 Try.underlying3 rfl) rfl ?_
        refine wl_callF (mosaicref06_power.calls _ _ _ h) enter18 rfl trivial so ?_; intro x6 w7 h so
        refine wl_val (at_add rfl rfl) rfl ?_
        refine wl_val (at_sub rfl rfl) rfl ?_
        refine wl_val (at_assign rfl) rfl ?_
        obtain ⟨x8, e9⟩ : ∃ x : Int, x = (IntKind.wrap .i64 ((IntKind.wrap .i64 (a0 + x6)) - 1)) := ⟨_, rfl⟩; replace h := h x8 e9
        refine wl_set (t := 0) (v := .int .i64 x8) (congrArg (Value.int .i64) e9.symm) ?_
        refine wl_nil ?_
        exact wk_prune [(0, .int .i64 x8), (5, .int .i8 x1)] ⟨rfl, rfl, trivial⟩ (fun f1 => hJ3 (x8) _ f1 h so)
      · refine wc_skip ?_
        exact wk_prune [(0, .int .i64 a0), (5, .int .i8 x1)] ⟨rfl, rfl, trivial⟩ (fun f1 => hJ3 (a0) _ f1 h so)
end Go.Proofs.Ytacokffnonfacaa.G
