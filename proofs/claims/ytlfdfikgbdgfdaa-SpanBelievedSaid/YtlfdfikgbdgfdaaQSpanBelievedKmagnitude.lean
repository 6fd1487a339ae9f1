/- Of this text what the row needs. -/
import Derived.Test.YtlfdfikgbdgfdaaQSpanBelievedGF
import Derived.Test.YtlfdfikgbdgfdaaQSpanBelievedKbits
namespace Go.Proofs.Ytlfdfikgbdgfdaa.G
open Go.RowKit
set_option linter.unusedVariables false
set_option linter.unusedSimpArgs false
def magnitude_Value.enc : Int × Bool → Value := fun r => .tuple #[.int .i64 r.1, .bool r.2]
def magnitude_Value.s (a0 : Int) (a1 : Int) (H0 : Hp) (Q : (Int × Bool) → Hp → Prop) : Prop :=
  Join (fun (s2 : Bool) (H3 : Hp) => if s2 = true then (Q (0, false) H3) else (if (a1 == 0) = true then (Q (0, true) H3) else (0 ≤ (IntKind.wrap .i8 (a1 - 1)) ∧ (if ((shrI .u16 a0 (IntKind.wrap .i8 (a1 - 1))) == 0) = true then (0 ≤ a1 ∧ (Lt ((IntKind.wrap .i64 ((IntKind.wrap .i64 a0) - (IntKind.wrap .i64 ((shlI .i64 1 a1) - 1)))) : Int) (fun x6 => Q (x6, true) H3))) else (Q ((IntKind.wrap .i64 a0), true) H3))))) (fun (J1 : Bool → Hp → Prop) => if decide (a1 < 0) = true then (J1 (true) H0) else (if decide ((16 : Int) < a1) = true then (J1 (true) H0) else (0 ≤ a1 ∧ (J1 ((decide ((shlI .i64 1 a1) ≤ (IntKind.wrap .i64 a0)))) H0))))
set_option maxRecDepth 20000 in
set_option maxHeartbeats 4000000 in
theorem magnitude_Value.calls (a0 : Int) (a1 : Int) (w0 : World) (Q : (Int × Bool) → Hp → Prop) (h : magnitude_Value.s a0 a1 w0.heap Q) :
    Ca Try.prog 70 #[.int .u16 a0, .int .i8 a1] w0 (Rt magnitude_Value.enc Q w0) := by
  refine ca_start (c := _) Try.func70 rfl Try.ntmps70 rfl ?_
  have so : Sm w0 w0 := Sm.refl w0
  unfold magnitude_Value.s at h
  refine wc_prune [(0, .int .u16 a0), (1, .int .i8 a1)] ⟨rfl, rfl, trivial⟩ (fun f1 => ?_)
  refine wc_seq ?_
  refine wc_region ?_
  refine wl_val (at_assign rfl) rfl ?_
  refine wl_val (at_assign rfl) rfl ?_
  refine wl_nil ?_
  refine wk_prune [(0, .int .u16 a0), (1, .int .i8 a1)] ⟨rfl, rfl, trivial⟩ (fun f1 => ?_)
  refine wk_then ?_
  refine wc_seq ?_
  refine wc_seq ?_
  refine wc_join (w0 := w0) (fun (s2 : Bool) => [(0, .int .u16 a0), (1, .int .i8 a1), (18, .bool s2)]) h ?_ ?_
  · rintro s2 w3 f1 h so; refine wk_then ?_
    refine wc_cond rfl h (fun h => ?_) (fun h => ?_)
    · refine wc_seq ?_
      refine wc_region ?_
      refine wl_val (at_assign rfl) rfl ?_
      refine wl_val (at_assign rfl) rfl ?_
      refine wl_nil ?_
      refine wk_prune [(4, .int .i64 0), (5, .bool false)] ⟨rfl, rfl, trivial⟩ (fun f1 => ?_)
      refine wk_then ?_
      refine wc_ret ?_
      refine wk_thenR ?_
      exact wk_ret2 (x := (0, false)) rfl (by decide) (by decide) rfl so h
    · refine wc_skip ?_
      refine wk_prune [(0, .int .u16 a0), (1, .int .i8 a1)] ⟨rfl, rfl, trivial⟩ (fun f1 => ?_)
      refine wk_then ?_
      refine wc_seq ?_
      refine wc_seq ?_
      refine wc_region ?_
      refine wl_val (at_move rfl) rfl ?_
      refine wl_val (at_eql rfl rfl) rfl ?_
      refine wl_nil ?_
      refine wk_prune [(0, .int .u16 a0), (1, .int .i8 a1), (20, .bool (a1 == 0))] ⟨rfl, rfl, rfl, trivial⟩ (fun f1 => ?_)
      refine wk_then ?_
      refine wc_cond rfl h (fun h => ?_) (fun h => ?_)
      · refine wc_seq ?_
        refine wc_region ?_
        refine wl_val (at_assign rfl) rfl ?_
        refine wl_val (at_assign rfl) rfl ?_
        refine wl_nil ?_
        refine wk_prune [(4, .int .i64 0), (5, .bool true)] ⟨rfl, rfl, trivial⟩ (fun f1 => ?_)
        refine wk_then ?_
        refine wc_ret ?_
        refine wk_thenR ?_
        exact wk_ret2 (x := (0, true)) rfl (by decide) (by decide) rfl so h
      · refine wc_skip ?_
        refine wk_prune [(0, .int .u16 a0), (1, .int .i8 a1)] ⟨rfl, rfl, trivial⟩ (fun f1 => ?_)
        refine wk_then ?_
        refine wc_seq ?_
        refine wc_seq ?_
        refine wc_region ?_
        refine wl_val (at_move rfl) rfl ?_
        refine wl_val (at_move rfl) rfl ?_
        refine wl_val (at_sub rfl rfl) rfl ?_
        obtain ⟨q4, h⟩ := h
        refine wl_val (at_shr rfl rfl q4) rfl ?_
        refine wl_val (at_eql rfl rfl) rfl ?_
        refine wl_nil ?_
        refine wk_prune [(0, .int .u16 a0), (1, .int .i8 a1), (25, .bool ((shrI .u16 a0 (IntKind.wrap .i8 (a1 - 1))) == 0))] ⟨rfl, rfl, rfl, trivial⟩ (fun f1 => ?_)
        refine wk_then ?_
        refine wc_cond rfl h (fun h => ?_) (fun h => ?_)
        · refine wc_seq ?_
          refine wc_region ?_
          refine wl_val (at_move rfl) rfl ?_
          refine wl_val (at_conv Try.underlying91 Try.underlying3 rfl) rfl ?_
          refine wl_val (at_move rfl) rfl ?_
          obtain ⟨q5, h⟩ := h
          refine wl_val (at_shl rfl rfl q5) rfl ?_
          refine wl_val (at_sub rfl rfl) rfl ?_
          refine wl_val (at_sub rfl rfl) rfl ?_
          refine wl_val (at_assign rfl) rfl ?_
          obtain ⟨x6, e7⟩ : ∃ x : Int, x = (IntKind.wrap .i64 ((IntKind.wrap .i64 a0) - (IntKind.wrap .i64 ((shlI .i64 1 a1) - 1)))) := ⟨_, rfl⟩; replace h := h x6 e7
          refine wl_set (t := 4) (v := .int .i64 x6) (congrArg (Value.int .i64) e7.symm) ?_
          refine wl_val (at_assign rfl) rfl ?_
          refine wl_nil ?_
          refine wk_prune [(4, .int .i64 x6), (5, .bool true)] ⟨rfl, rfl, trivial⟩ (fun f1 => ?_)
          refine wk_then ?_
          refine wc_ret ?_
          refine wk_thenR ?_
          exact wk_ret2 (x := (x6, true)) rfl (by decide) (by decide) rfl so h
        · refine wc_skip ?_
          refine wk_prune [(0, .int .u16 a0)] ⟨rfl, trivial⟩ (fun f1 => ?_)
          refine wk_then ?_
          refine wc_seq ?_
          refine wc_region ?_
          refine wl_val (at_move rfl) rfl ?_
          refine wl_val (at_conv Try.underlying91 Try.underlying3 rfl) rfl ?_
          refine wl_val (at_assign rfl) rfl ?_
          refine wl_val (at_assign rfl) rfl ?_
          refine wl_nil ?_
          refine wk_prune [(4, .int .i64 (IntKind.wrap .i64 a0)), (5, .bool true)] ⟨rfl, rfl, trivial⟩ (fun f1 => ?_)
          refine wk_then ?_
          refine wc_ret ?_
          exact wk_ret2 (x := ((IntKind.wrap .i64 a0), true)) rfl (by decide) (by decide) rfl so h
  · intro J1 h hJ1
    refine wc_region ?_
    refine wl_val (at_move rfl) rfl ?_
    refine wl_val (at_lss rfl rfl) rfl ?_
    refine wl_val (at_move rfl) rfl ?_
    refine bif_ h (fun hb h => ?_) (fun hb h => ?_)
    · refine wl_set (t := 8) (v := .bool true) (congrArg Value.bool hb) ?_; clear hb
      refine wl_off (t := 8) rfl (by decide) rfl ?_
      refine wl_off (t := 8) rfl (by decide) rfl ?_
      refine wl_val (at_pick_t rfl rfl) rfl ?_
      refine wl_val (at_move rfl) rfl ?_
      refine wl_off (t := 12) rfl (by decide) rfl ?_
      refine wl_off (t := 12) rfl (by decide) rfl ?_
      refine wl_off (t := 12) rfl (by decide) rfl ?_
      refine wl_off (t := 12) rfl (by decide) rfl ?_
      refine wl_off (t := 12) rfl (by decide) rfl ?_
      refine wl_val (at_pick_t rfl rfl) rfl ?_
      refine wl_nil ?_
      exact wk_prune [(0, .int .u16 a0), (1, .int .i8 a1), (18, .bool true)] ⟨rfl, rfl, rfl, trivial⟩ (fun f1 => hJ1 (true) _ f1 h so)
    · refine wl_set (t := 8) (v := .bool false) (congrArg Value.bool hb) ?_; clear hb
      refine wl_on (t := 8) rfl (by decide) rfl ?_
      refine wl_val (at_move rfl) rfl ?_
      refine wl_on (t := 8) rfl (by decide) rfl ?_
      refine wl_val (at_gtr rfl rfl) rfl ?_
      refine wl_val (at_pick_f rfl rfl) rfl ?_
      refine wl_val (at_move rfl) rfl ?_
      refine bif_ h (fun hb h => ?_) (fun hb h => ?_)
      · refine wl_set (t := 12) (v := .bool true) (congrArg Value.bool hb) ?_; clear hb
        refine wl_off (t := 12) rfl (by decide) rfl ?_
        refine wl_off (t := 12) rfl (by decide) rfl ?_
        refine wl_off (t := 12) rfl (by decide) rfl ?_
        refine wl_off (t := 12) rfl (by decide) rfl ?_
        refine wl_off (t := 12) rfl (by decide) rfl ?_
        refine wl_val (at_pick_t rfl rfl) rfl ?_
        refine wl_nil ?_
        exact wk_prune [(0, .int .u16 a0), (1, .int .i8 a1), (18, .bool true)] ⟨rfl, rfl, rfl, trivial⟩ (fun f1 => hJ1 (true) _ f1 h so)
      · refine wl_set (t := 12) (v := .bool false) (congrArg Value.bool hb) ?_; clear hb
        refine wl_on (t := 12) rfl (by decide) rfl ?_
        refine wl_val (at_move rfl) rfl ?_
        refine wl_on (t := 12) rfl (by decide) rfl ?_
        refine wl_val (at_conv Try.underlying91 Try.underlying3 rfl) rfl ?_
        refine wl_on (t := 12) rfl (by decide) rfl ?_
        refine wl_val (at_move rfl) rfl ?_
        refine wl_on (t := 12) rfl (by decide) rfl ?_
        obtain ⟨q8, h⟩ := h
        refine wl_val (at_shl rfl rfl q8) rfl ?_
        refine wl_on (t := 12) rfl (by decide) rfl ?_
        refine wl_val (at_geq rfl rfl) rfl ?_
        refine wl_val (at_pick_f rfl rfl) rfl ?_
        refine wl_nil ?_
        exact wk_prune [(0, .int .u16 a0), (1, .int .i8 a1), (18, .bool (decide ((shlI .i64 1 a1) ≤ (IntKind.wrap .i64 a0))))] ⟨rfl, rfl, rfl, trivial⟩ (fun f1 => hJ1 ((decide ((shlI .i64 1 a1) ≤ (IntKind.wrap .i64 a0)))) _ f1 h so)
def magnitude_away.enc : Int → Value := fun r => .int .u64 r
def magnitude_Size.enc : Int → Value := fun r => .int .i8 r
def magnitude_Bits.enc : Int × Int × Bool → Value := fun r => .tuple #[.int .u16 r.1, .int .i8 r.2.1, .bool r.2.2]
end Go.Proofs.Ytlfdfikgbdgfdaa.G
