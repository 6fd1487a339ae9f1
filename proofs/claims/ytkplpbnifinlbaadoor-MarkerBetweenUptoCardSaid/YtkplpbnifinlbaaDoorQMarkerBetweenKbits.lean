/- Of this text what the row needs. -/
import Derived.Test.YtkplpbnifinlbaaDoorQMarkerBetweenKshelf
namespace Go.Proofs.YtkplpbnifinlbaaDoor.G
open Go.RowKit
set_option linter.unusedVariables false
set_option linter.unusedSimpArgs false
def bits_Len64.enc : Int → Value := fun r => .int .i64 r
def bits_TrailingZeros32.enc : Int → Value := fun r => .int .i64 r
def bits_TrailingZeros64.enc : Int → Value := fun r => .int .i64 r
def bits_TrailingZeros64.s (a0 : Int) (H0 : Hp) (Q : Int → Hp → Prop) : Prop :=
  if (a0 == 0) = true then (Q 64 H0) else (False)
set_option maxRecDepth 20000 in
set_option maxHeartbeats 4000000 in
theorem bits_TrailingZeros64.calls (a0 : Int) (w0 : World) (Q : Int → Hp → Prop) (h : bits_TrailingZeros64.s a0 w0.heap Q) :
    Ca Tryd.prog 67 #[.int .u64 a0] w0 (Rt bits_TrailingZeros64.enc Q w0) := by
  refine ca_start (c := _) Tryd.func67 rfl Tryd.ntmps67 rfl ?_
  have so : Sm w0 w0 := Sm.refl w0
  unfold bits_TrailingZeros64.s at h
  refine wc_prune [(0, .int .u64 a0)] ⟨rfl, trivial⟩ (fun f1 => ?_)
  refine wc_seq ?_
  refine wc_region ?_
  refine wl_val (at_assign rfl) rfl ?_
  refine wl_nil ?_
  refine wk_prune [(0, .int .u64 a0)] ⟨rfl, trivial⟩ (fun f1 => ?_)
  refine wk_then ?_
  refine wc_seq ?_
  refine wc_seq ?_
  refine wc_region ?_
  refine wl_val (at_move rfl) rfl ?_
  refine wl_val (at_eql rfl rfl) rfl ?_
  refine wl_nil ?_
  refine wk_prune [(0, .int .u64 a0), (4, .bool (a0 == 0))] ⟨rfl, rfl, trivial⟩ (fun f1 => ?_)
  refine wk_then ?_
  refine wc_cond rfl h (fun h => ?_) (fun h => ?_)
  · refine wc_seq ?_
    refine wc_region ?_
    refine wl_val (at_assign rfl) rfl ?_
    refine wl_nil ?_
    refine wk_prune [(2, .int .i64 64)] ⟨rfl, trivial⟩ (fun f1 => ?_)
    refine wk_then ?_
    refine wc_ret ?_
    refine wk_thenR ?_
    exact wk_ret1 (x := 64) rfl (by decide) rfl so h
  · exact h.elim
def bits_TrailingZeros.enc : Int → Value := fun r => .int .i64 r
def bits_TrailingZeros.s (a0 : Int) (H0 : Hp) (Q : Int → Hp → Prop) : Prop :=
  bits_TrailingZeros64.s a0 H0 (fun x1 H2 => Q x1 H2)
set_option maxRecDepth 20000 in
set_option maxHeartbeats 4000000 in
theorem bits_TrailingZeros.calls (a0 : Int) (w0 : World) (Q : Int → Hp → Prop) (h : bits_TrailingZeros.s a0 w0.heap Q) :
    Ca Tryd.prog 65 #[.int .u64 a0] w0 (Rt bits_TrailingZeros.enc Q w0) := by
  refine ca_start (c := _) Tryd.func65 rfl Tryd.ntmps65 rfl ?_
  have so : Sm w0 w0 := Sm.refl w0
  unfold bits_TrailingZeros.s at h
  refine wc_prune [(0, .int .u64 a0)] ⟨rfl, trivial⟩ (fun f1 => ?_)
  refine wc_seq ?_
  refine wc_region ?_
  refine wl_val (at_assign rfl) rfl ?_
  refine wl_nil ?_
  refine wk_prune [(0, .int .u64 a0)] ⟨rfl, trivial⟩ (fun f1 => ?_)
  refine wk_then ?_
  refine wc_seq ?_
  refine wc_cond_f rfl ?_
  refine wc_skip ?_
  refine wk_prune [(0, .int .u64 a0)] ⟨rfl, trivial⟩ (fun f1 => ?_)
  refine wk_then ?_
  refine wc_seq ?_
  refine wc_region ?_
  refine wl_val (at_move rfl) rfl ?_
  refine wl_callF (bits_TrailingZeros64.calls _ _ _ h) enter67 rfl trivial so ?_; intro x1 w2 h so
  refine wl_val (at_assign rfl) rfl ?_
  refine wl_nil ?_
  refine wk_prune [(2, .int .i64 x1)] ⟨rfl, trivial⟩ (fun f1 => ?_)
  refine wk_then ?_
  refine wc_ret ?_
  exact wk_ret1 (x := x1) rfl (by decide) rfl so h
end Go.Proofs.YtkplpbnifinlbaaDoor.G
