/- Of this text what the row needs. -/
import Derived.Test.YtmnoecpnoofdjaaQPenCostKshelf
import Derived.Test.YtmnoecpnoofdjaaQPenCostKbits
namespace Go.Proofs.Ytmnoecpnoofdjaa.G
open Go.RowKit
set_option linter.unusedVariables false
set_option linter.unusedSimpArgs false
def magnitude_away.enc : Int → Value := fun r => .int .u64 r
def magnitude_away.s (a0 : Int) (H0 : Hp) (Q : Int → Hp → Prop) : Prop :=
  if decide (a0 < 0) = true then (Lt ((IntKind.wrap .u64 (0 - (IntKind.wrap .u64 a0))) : Int) (fun x1 => Q x1 H0)) else (Q (IntKind.wrap .u64 a0) H0)
set_option maxRecDepth 20000 in
set_option maxHeartbeats 4000000 in
theorem magnitude_away.calls (a0 : Int) (w0 : World) (Q : Int → Hp → Prop) (h : magnitude_away.s a0 w0.heap Q) :
    Ca Try.prog 73 #[.int .i64 a0] w0 (Rt magnitude_away.enc Q w0) := by
  refine ca_start (c := _) Try.func73 rfl Try.ntmps73 rfl ?_
  have so : Sm w0 w0 := Sm.refl w0
  unfold magnitude_away.s at h
  refine wc_prune [(0, .int .i64 a0)] ⟨rfl, trivial⟩ (fun f1 => ?_)
  refine wc_seq ?_
  refine wc_region ?_
  refine wl_val (at_assign rfl) rfl ?_
  refine wl_nil ?_
  refine wk_prune [(0, .int .i64 a0)] ⟨rfl, trivial⟩ (fun f1 => ?_)
  refine wk_then ?_
  refine wc_seq ?_
  refine wc_seq ?_
  refine wc_region ?_
  refine wl_val (at_move rfl) rfl ?_
  refine wl_val (at_lss rfl rfl) rfl ?_
  refine wl_nil ?_
  refine wk_prune [(0, .int .i64 a0), (4, .bool (decide (a0 < 0)))] ⟨rfl, rfl, trivial⟩ (fun f1 => ?_)
  refine wk_then ?_
  refine wc_cond rfl h (fun h => ?_) (fun h => ?_)
  · refine wc_seq ?_
    refine wc_region ?_
    refine wl_val (at_move rfl) rfl ?_
    refine wl_val (at_conv Try.underlying3 Try.underlying154 rfl) rfl ?_
    refine wl_val (at_neg rfl) rfl ?_
    refine wl_val (at_assign rfl) rfl ?_
    obtain ⟨x1, e2⟩ : ∃ x : Int, x = (IntKind.wrap .u64 (0 - (IntKind.wrap .u64 a0))) := ⟨_, rfl⟩; replace h := h x1 e2
    refine wl_set (t := 2) (v := .int .u64 x1) (congrArg (Value.int .u64) e2.symm) ?_
    refine wl_nil ?_
    refine wk_prune [(2, .int .u64 x1)] ⟨rfl, trivial⟩ (fun f1 => ?_)
    refine wk_then ?_
    refine wc_ret ?_
    refine wk_thenR ?_
    exact wk_ret1 (x := x1) rfl (by decide) rfl so h
  · refine wc_skip ?_
    refine wk_prune [(0, .int .i64 a0)] ⟨rfl, trivial⟩ (fun f1 => ?_)
    refine wk_then ?_
    refine wc_seq ?_
    refine wc_region ?_
    refine wl_val (at_move rfl) rfl ?_
    refine wl_val (at_conv Try.underlying3 Try.underlying154 rfl) rfl ?_
    refine wl_val (at_assign rfl) rfl ?_
    refine wl_nil ?_
    refine wk_prune [(2, .int .u64 (IntKind.wrap .u64 a0))] ⟨rfl, trivial⟩ (fun f1 => ?_)
    refine wk_then ?_
    refine wc_ret ?_
    exact wk_ret1 (x := (IntKind.wrap .u64 a0)) rfl (by decide) rfl so h
def magnitude_Size.enc : Int → Value := fun r => .int .i8 r
def magnitude_Size.s (a0 : Int) (H0 : Hp) (Q : Int → Hp → Prop) : Prop :=
  magnitude_away.s a0 H0 (fun x1 H2 => bits_Len64.s x1 H2 (fun x3 H4 => Q (IntKind.wrap .i8 x3) H4))
set_option maxRecDepth 20000 in
set_option maxHeartbeats 4000000 in
theorem magnitude_Size.calls (a0 : Int) (w0 : World) (Q : Int → Hp → Prop) (h : magnitude_Size.s a0 w0.heap Q) :
    Ca Try.prog 62 #[.int .i64 a0] w0 (Rt magnitude_Size.enc Q w0) := by
  refine ca_start (c := _) Try.func62 rfl Try.ntmps62 rfl ?_
  have so : Sm w0 w0 := Sm.refl w0
  unfold magnitude_Size.s at h
  refine wc_prune [(0, .int .i64 a0)] ⟨rfl, trivial⟩ (fun f1 => ?_)
  refine wc_seq ?_
  refine wc_region ?_
  refine wl_val (at_assign rfl) rfl ?_
  refine wl_nil ?_
  refine wk_prune [(0, .int .i64 a0)] ⟨rfl, trivial⟩ (fun f1 => ?_)
  refine wk_then ?_
  refine wc_seq ?_
  refine wc_region ?_
  refine wl_val (at_move rfl) rfl ?_
  refine wl_callF (magnitude_away.calls _ _ _ h) enter73 rfl trivial so ?_; intro x1 w2 h so
  refine wl_callF (bits_Len64.calls _ _ _ h) enter72 rfl trivial so ?_; intro x3 w4 h so
  refine wl_val (at_conv Try.underlying3 Try.underlying46 rfl) rfl ?_
  refine wl_val (at_assign rfl) rfl ?_
  refine wl_nil ?_
  refine wk_prune [(2, .int .i8 (IntKind.wrap .i8 x3))] ⟨rfl, trivial⟩ (fun f1 => ?_)
  refine wk_then ?_
  refine wc_ret ?_
  exact wk_ret1 (x := (IntKind.wrap .i8 x3)) rfl (by decide) rfl so h
def magnitude_Bits.enc : Int × Int × Bool → Value := fun r => .tuple #[.int .u16 r.1, .int .i8 r.2.1, .bool r.2.2]
def magnitude_Bits.s (a0 : Int) (H0 : Hp) (Q : (Int × Int × Bool) → Hp → Prop) : Prop :=
  magnitude_Size.s a0 H0 (fun x1 H2 => if decide ((16 : Int) < x1) = true then (Q (0, 0, false) H2) else (Join (fun (s4 : Int) (H5 : Hp) => 0 ≤ x1 ∧ (Lt ((IntKind.wrap .u16 (Go.bits .and .i64 s4 (IntKind.wrap .i64 ((shlI .i64 1 x1) - 1)))) : Int) (fun x7 => Q (x7, x1, true) H5))) (fun (J3 : Int → Hp → Prop) => if decide (a0 < 0) = true then (J3 ((IntKind.wrap .i64 (a0 - 1))) H2) else (J3 (a0) H2))))
set_option maxRecDepth 20000 in
set_option maxHeartbeats 4000000 in
theorem magnitude_Bits.calls (a0 : Int) (w0 : World) (Q : (Int × Int × Bool) → Hp → Prop) (h : magnitude_Bits.s a0 w0.heap Q) :
    Ca Try.prog 74 #[.int .i64 a0] w0 (Rt magnitude_Bits.enc Q w0) := by
  refine ca_start (c := _) Try.func74 rfl Try.ntmps74 rfl ?_
  have so : Sm w0 w0 := Sm.refl w0
  unfold magnitude_Bits.s at h
  refine wc_prune [(0, .int .i64 a0)] ⟨rfl, trivial⟩ (fun f1 => ?_)
  refine wc_seq ?_
  refine wc_region ?_
  refine wl_val (at_assign rfl) rfl ?_
  refine wl_val (at_assign rfl) rfl ?_
  refine wl_val (at_assign rfl) rfl ?_
  refine wl_nil ?_
  refine wk_prune [(0, .int .i64 a0)] ⟨rfl, trivial⟩ (fun f1 => ?_)
  refine wk_then ?_
  refine wc_seq ?_
  refine wc_region ?_
  refine wl_val (at_move rfl) rfl ?_
  refine wl_callF (magnitude_Size.calls _ _ _ h) enter62 rfl trivial so ?_; intro x1 w2 h so
  refine wl_val (at_assign rfl) rfl ?_
  refine wl_nil ?_
  refine wk_prune [(0, .int .i64 a0), (5, .int .i8 x1)] ⟨rfl, rfl, trivial⟩ (fun f1 => ?_)
  refine wk_then ?_
  refine wc_seq ?_
  refine wc_seq ?_
  refine wc_region ?_
  refine wl_val (at_move rfl) rfl ?_
  refine wl_val (at_gtr rfl rfl) rfl ?_
  refine wl_nil ?_
  refine wk_prune [(0, .int .i64 a0), (5, .int .i8 x1), (9, .bool (decide ((16 : Int) < x1)))] ⟨rfl, rfl, rfl, trivial⟩ (fun f1 => ?_)
  refine wk_then ?_
  refine wc_cond rfl h (fun h => ?_) (fun h => ?_)
  · refine wc_seq ?_
    refine wc_region ?_
    refine wl_val (at_assign rfl) rfl ?_
    refine wl_val (at_assign rfl) rfl ?_
    refine wl_val (at_assign rfl) rfl ?_
    refine wl_nil ?_
    refine wk_prune [(2, .int .u16 0), (3, .int .i8 0), (4, .bool false)] ⟨rfl, rfl, rfl, trivial⟩ (fun f1 => ?_)
    refine wk_then ?_
    refine wc_ret ?_
    refine wk_thenR ?_
    exact wk_ret3 (x := (0, 0, false)) rfl (by decide) (by decide) (by decide) rfl so h
  · refine wc_skip ?_
    refine wk_prune [(0, .int .i64 a0), (5, .int .i8 x1)] ⟨rfl, rfl, trivial⟩ (fun f1 => ?_)
    refine wk_then ?_
    refine wc_seq ?_
    refine wc_join (w0 := w0) (fun (s4 : Int) => [(0, .int .i64 s4), (5, .int .i8 x1)]) h ?_ ?_
    · rintro s4 w5 f1 h so; refine wk_then ?_
      refine wc_seq ?_
      refine wc_region ?_
      refine wl_val (at_move rfl) rfl ?_
      refine wl_val (at_move rfl) rfl ?_
      obtain ⟨q6, h⟩ := h
      refine wl_val (at_shl rfl rfl q6) rfl ?_
      refine wl_val (at_sub rfl rfl) rfl ?_
      refine wl_val (at_and rfl rfl) rfl ?_
      refine wl_val (at_conv Try.underlying3 Try.underlying64 rfl) rfl ?_
      refine wl_val (at_move rfl) rfl ?_
      refine wl_val (at_assign rfl) rfl ?_
      obtain ⟨x7, e8⟩ : ∃ x : Int, x = (IntKind.wrap .u16 (Go.bits .and .i64 s4 (IntKind.wrap .i64 ((shlI .i64 1 x1) - 1)))) := ⟨_, rfl⟩; replace h := h x7 e8
      refine wl_set (t := 2) (v := .int .u16 x7) (congrArg (Value.int .u16) e8.symm) ?_
      refine wl_val (at_assign rfl) rfl ?_
      refine wl_val (at_assign rfl) rfl ?_
      refine wl_nil ?_
      refine wk_prune [(2, .int .u16 x7), (3, .int .i8 x1), (4, .bool true)] ⟨rfl, rfl, rfl, trivial⟩ (fun f1 => ?_)
      refine wk_then ?_
      refine wc_ret ?_
      exact wk_ret3 (x := (x7, x1, true)) rfl (by decide) (by decide) (by decide) rfl so h
    · intro J3 h hJ3
      refine wc_seq ?_
      refine wc_region ?_
      refine wl_val (at_move rfl) rfl ?_
      refine wl_val (at_lss rfl rfl) rfl ?_
      refine wl_nil ?_
      refine wk_prune [(0, .int .i64 a0), (5, .int .i8 x1), (11, .bool (decide (a0 < 0)))] ⟨rfl, rfl, rfl, trivial⟩ (fun f1 => ?_)
      refine wk_then ?_
      refine wc_cond rfl h (fun h => ?_) (fun h => ?_)
      · refine wc_region ?_
        refine wl_val (at_move rfl) rfl ?_
        refine wl_val (at_sub rfl rfl) rfl ?_
        refine wl_val (at_assign rfl) rfl ?_
        refine wl_nil ?_
        exact wk_prune [(0, .int .i64 (IntKind.wrap .i64 (a0 - 1))), (5, .int .i8 x1)] ⟨rfl, rfl, trivial⟩ (fun f1 => hJ3 ((IntKind.wrap .i64 (a0 - 1))) _ f1 h so)
      · refine wc_skip ?_
        exact wk_prune [(0, .int .i64 a0), (5, .int .i8 x1)] ⟨rfl, rfl, trivial⟩ (fun f1 => hJ3 (a0) _ f1 h so)
def magnitude_Value.enc : Int × Bool → Value := fun r => .tuple #[.int .i64 r.1, .bool r.2]
end Go.Proofs.Ytmnoecpnoofdjaa.G
