/- Of this text what the row needs. -/
import Derived.Test.YtkplpbnifinlbaaDoorQMarkerCodesKshelf
import Derived.Test.YtkplpbnifinlbaaDoorQMarkerCodesKmarker
import Derived.Test.YtkplpbnifinlbaaDoorQMarkerCodesKmosaicref02
namespace Go.Proofs.YtkplpbnifinlbaaDoor.G
open Go.RowKit
set_option linter.unusedVariables false
set_option linter.unusedSimpArgs false
def mosaiclaw02_MarkerCodes.enc : Bool → Value := fun r => .bool r
def mosaiclaw02_MarkerCodes.s (a0 : ByteArray) (H0 : Hp) (Q : Bool → Hp → Prop) : Prop :=
  marker_Code.s a0 H0 (fun x1 H2 => mosaicref02_Code.s a0 H2 (fun x3 H4 => if (x1.1 == x3.1) = true then (Q (x1.2 == x3.2) H4) else (Q false H4)))
set_option maxRecDepth 20000 in
set_option maxHeartbeats 4000000 in
theorem mosaiclaw02_MarkerCodes.calls (a0 : ByteArray) (w0 : World) (Q : Bool → Hp → Prop) (h : mosaiclaw02_MarkerCodes.s a0 w0.heap Q) :
    Ca Tryd.prog 3 #[.string a0] w0 (Rt mosaiclaw02_MarkerCodes.enc Q w0) := by
  refine ca_start (c := _) Tryd.func3 rfl Tryd.ntmps3 rfl ?_
  have so : Sm w0 w0 := Sm.refl w0
  unfold mosaiclaw02_MarkerCodes.s at h
  refine wc_prune [(0, .string a0)] ⟨rfl, trivial⟩ (fun f1 => ?_)
  refine wc_seq ?_
  refine wc_region ?_
  refine wl_val (at_assign rfl) rfl ?_
  refine wl_nil ?_
  refine wk_prune [(0, .string a0)] ⟨rfl, trivial⟩ (fun f1 => ?_)
  refine wk_then ?_
  refine wc_seq ?_
  refine wc_region ?_
  refine wl_val (at_move rfl) rfl ?_
  refine wl_callF (marker_Code.calls _ _ _ h) enter10 rfl trivial so ?_; intro x1 w2 h so
  refine wl_val (at_move rfl) rfl ?_
  refine wl_val (at_extract rfl rfl) rfl ?_
  refine wl_val (at_extract rfl rfl) rfl ?_
  refine wl_val (at_assign rfl) rfl ?_
  refine wl_val (at_assign rfl) rfl ?_
  refine wl_nil ?_
  refine wk_prune [(0, .string a0), (3, .int .u8 x1.1), (4, .bool x1.2)] ⟨rfl, rfl, rfl, trivial⟩ (fun f1 => ?_)
  refine wk_then ?_
  refine wc_seq ?_
  refine wc_region ?_
  refine wl_val (at_move rfl) rfl ?_
  refine wl_callF (mosaicref02_Code.calls _ _ _ h) enter11 rfl trivial so ?_; intro x3 w4 h so
  refine wl_val (at_move rfl) rfl ?_
  refine wl_val (at_extract rfl rfl) rfl ?_
  refine wl_val (at_extract rfl rfl) rfl ?_
  refine wl_val (at_assign rfl) rfl ?_
  refine wl_val (at_assign rfl) rfl ?_
  refine wl_nil ?_
  refine wk_prune [(3, .int .u8 x1.1), (4, .bool x1.2), (5, .int .u8 x3.1), (6, .bool x3.2)] ⟨rfl, rfl, rfl, rfl, trivial⟩ (fun f1 => ?_)
  refine wk_then ?_
  refine wc_seq ?_
  refine wc_region ?_
  refine wl_val (at_move rfl) rfl ?_
  refine wl_val (at_move rfl) rfl ?_
  refine wl_val (at_eql rfl rfl) rfl ?_
  refine wl_val (at_move rfl) rfl ?_
  refine bif_ h (fun hb h => ?_) (fun hb h => ?_)
  · refine wl_set (t := 20) (v := .bool true) (congrArg Value.bool hb) ?_; clear hb
    refine wl_on (t := 20) rfl (by decide) rfl ?_
    refine wl_val (at_move rfl) rfl ?_
    refine wl_on (t := 20) rfl (by decide) rfl ?_
    refine wl_val (at_move rfl) rfl ?_
    refine wl_on (t := 20) rfl (by decide) rfl ?_
    refine wl_val (at_eqlB Tryd.underlying4 rfl rfl) rfl ?_
    refine wl_val (at_pick_t rfl rfl) rfl ?_
    refine wl_val (at_assign rfl) rfl ?_
    refine wl_nil ?_
    refine wk_prune [(2, .bool (x1.2 == x3.2))] ⟨rfl, trivial⟩ (fun f1 => ?_)
    refine wk_then ?_
    refine wc_ret ?_
    exact wk_ret1 (x := (x1.2 == x3.2)) rfl (by decide) rfl so h
  · refine wl_set (t := 20) (v := .bool false) (congrArg Value.bool hb) ?_; clear hb
    refine wl_off (t := 20) rfl (by decide) rfl ?_
    refine wl_off (t := 20) rfl (by decide) rfl ?_
    refine wl_off (t := 20) rfl (by decide) rfl ?_
    refine wl_val (at_pick_f rfl rfl) rfl ?_
    refine wl_val (at_assign rfl) rfl ?_
    refine wl_nil ?_
    refine wk_prune [(2, .bool false)] ⟨rfl, trivial⟩ (fun f1 => ?_)
    refine wk_then ?_
    refine wc_ret ?_
    exact wk_ret1 (x := false) rfl (by decide) rfl so h
end Go.Proofs.YtkplpbnifinlbaaDoor.G
