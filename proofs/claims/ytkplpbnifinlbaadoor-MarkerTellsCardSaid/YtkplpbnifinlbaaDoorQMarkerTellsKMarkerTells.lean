/- Of this text what the row needs. -/
import Derived.Test.YtkplpbnifinlbaaDoorQMarkerTellsKshelf
import Derived.Test.YtkplpbnifinlbaaDoorQMarkerTellsKmarker
import Derived.Test.YtkplpbnifinlbaaDoorQMarkerTellsKmosaicref02
namespace Go.Proofs.YtkplpbnifinlbaaDoor.G
open Go.RowKit
set_option linter.unusedVariables false
set_option linter.unusedSimpArgs false
def mosaiclaw02_MarkerTells.enc : Bool → Value := fun r => .bool r
def mosaiclaw02_MarkerTells.s (a0 : Int) (H0 : Hp) (Q : Bool → Hp → Prop) : Prop :=
  marker_Kind.s a0 H0 (fun x1 H2 => mosaicref02_Kind.s a0 H2 (fun x3 H4 => if (x1 == x3) = true then (marker_Name.s a0 H4 (fun x5 H6 => mosaicref02_Name.s a0 H6 (fun x7 H8 => Q (x5.toList == x7.toList) H8))) else (Q false H4)))
set_option maxRecDepth 20000 in
set_option maxHeartbeats 4000000 in
theorem mosaiclaw02_MarkerTells.calls (a0 : Int) (w0 : World) (Q : Bool → Hp → Prop) (h : mosaiclaw02_MarkerTells.s a0 w0.heap Q) :
    Ca Tryd.prog 4 #[.int .u8 a0] w0 (Rt mosaiclaw02_MarkerTells.enc Q w0) := by
  refine ca_start (c := _) Tryd.func4 rfl Tryd.ntmps4 rfl ?_
  have so : Sm w0 w0 := Sm.refl w0
  unfold mosaiclaw02_MarkerTells.s at h
  refine wc_prune [(0, .int .u8 a0)] ⟨rfl, trivial⟩ (fun f1 => ?_)
  refine wc_seq ?_
  refine wc_region ?_
  refine wl_val (at_assign rfl) rfl ?_
  refine wl_nil ?_
  refine wk_prune [(0, .int .u8 a0)] ⟨rfl, trivial⟩ (fun f1 => ?_)
  refine wk_then ?_
  refine wc_seq ?_
  refine wc_region ?_
  refine wl_val (at_move rfl) rfl ?_
  refine wl_callF (marker_Kind.calls _ _ _ h) enter12 rfl trivial so ?_; intro x1 w2 h so
  refine wl_val (at_move rfl) rfl ?_
  refine wl_callF (mosaicref02_Kind.calls _ _ _ h) enter13 rfl trivial so ?_; intro x3 w4 h so
  refine wl_val (at_eql rfl rfl) rfl ?_
  refine wl_val (at_move rfl) rfl ?_
  refine bif_ h (fun hb h => ?_) (fun hb h => ?_)
  · refine wl_set (t := 8) (v := .bool true) (congrArg Value.bool hb) ?_; clear hb
    refine wl_on (t := 8) rfl (by decide) rfl ?_
    refine wl_val (at_move rfl) rfl ?_
    refine wl_on (t := 8) rfl (by decide) rfl ?_
    refine wl_callF (marker_Name.calls _ _ _ h) enter14 rfl trivial so ?_; intro x5 w6 h so
    refine wl_on (t := 8) rfl (by decide) rfl ?_
    refine wl_val (at_move rfl) rfl ?_
    refine wl_on (t := 8) rfl (by decide) rfl ?_
    refine wl_callF (mosaicref02_Name.calls _ _ _ h) enter15 rfl trivial so ?_; intro x7 w8 h so
    refine wl_on (t := 8) rfl (by decide) rfl ?_
    refine wl_val (at_eqlS rfl rfl) rfl ?_
    refine wl_val (at_pick_t rfl rfl) rfl ?_
    refine wl_val (at_assign rfl) rfl ?_
    refine wl_nil ?_
    refine wk_prune [(2, .bool (x5.toList == x7.toList))] ⟨rfl, trivial⟩ (fun f1 => ?_)
    refine wk_then ?_
    refine wc_ret ?_
    exact wk_ret1 (x := (x5.toList == x7.toList)) rfl (by decide) rfl so h
  · refine wl_set (t := 8) (v := .bool false) (congrArg Value.bool hb) ?_; clear hb
    refine wl_off (t := 8) rfl (by decide) rfl ?_
    refine wl_off (t := 8) rfl (by decide) rfl ?_
    refine wl_off (t := 8) rfl (by decide) rfl ?_
    refine wl_off (t := 8) rfl (by decide) rfl ?_
    refine wl_off (t := 8) rfl (by decide) rfl ?_
    refine wl_val (at_pick_f rfl rfl) rfl ?_
    refine wl_val (at_assign rfl) rfl ?_
    refine wl_nil ?_
    refine wk_prune [(2, .bool false)] ⟨rfl, trivial⟩ (fun f1 => ?_)
    refine wk_then ?_
    refine wc_ret ?_
    exact wk_ret1 (x := false) rfl (by decide) rfl so h
end Go.Proofs.YtkplpbnifinlbaaDoor.G
