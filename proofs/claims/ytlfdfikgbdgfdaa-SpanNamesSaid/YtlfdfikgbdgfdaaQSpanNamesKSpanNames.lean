/- Of this text what the row needs. -/
import Derived.Test.YtlfdfikgbdgfdaaQSpanNamesGF
import Derived.Test.YtlfdfikgbdgfdaaQSpanNamesKmosaiclaw17
namespace Go.Proofs.Ytlfdfikgbdgfdaa.G
open Go.RowKit
set_option linter.unusedVariables false
set_option linter.unusedSimpArgs false
def mosaiclaw17_SpanNames.enc : Bool → Value := fun r => .bool r
def mosaiclaw17_SpanNames.s (H0 : Hp) (Q : Bool → Hp → Prop) : Prop :=
  mosaiclaw17_alive.s H0 (fun x1 H2 => Q x1 H2)
set_option maxRecDepth 20000 in
set_option maxHeartbeats 4000000 in
theorem mosaiclaw17_SpanNames.calls (w0 : World) (Q : Bool → Hp → Prop) (h : mosaiclaw17_SpanNames.s w0.heap Q) :
    Ca Try.prog 4 #[] w0 (Rt mosaiclaw17_SpanNames.enc Q w0) := by
  refine ca_start (c := _) Try.func4 rfl Try.ntmps4 rfl ?_
  have so : Sm w0 w0 := Sm.refl w0
  unfold mosaiclaw17_SpanNames.s at h
  refine wc_prune [] trivial (fun f1 => ?_)
  refine wc_seq ?_
  refine wc_region ?_
  refine wl_val (at_assign rfl) rfl ?_
  refine wl_nil ?_
  refine wk_prune [] trivial (fun f1 => ?_)
  refine wk_then ?_
  refine wc_seq ?_
  refine wc_region ?_
  refine wl_val (at_move rfl) rfl ?_
  refine wl_on (t := 1) rfl (by decide) rfl ?_
  refine wl_callF (mosaiclaw17_alive.calls _ _ h) enter11 rfl trivial so ?_; intro x1 w2 h so
  refine wl_val (at_pick_t rfl rfl) rfl ?_
  refine wl_val (at_assign rfl) rfl ?_
  refine wl_nil ?_
  refine wk_prune [(0, .bool x1)] ⟨rfl, trivial⟩ (fun f1 => ?_)
  refine wk_then ?_
  refine wc_ret ?_
  exact wk_ret1 (x := x1) rfl (by decide) rfl so h
end Go.Proofs.Ytlfdfikgbdgfdaa.G
