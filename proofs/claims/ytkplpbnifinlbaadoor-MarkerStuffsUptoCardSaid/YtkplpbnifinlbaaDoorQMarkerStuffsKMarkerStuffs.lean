/- Of this text what the row needs. -/
import Derived.Test.YtkplpbnifinlbaaDoorQMarkerStuffsKshelf
import Derived.Test.YtkplpbnifinlbaaDoorQMarkerStuffsKmarker
import Derived.Test.YtkplpbnifinlbaaDoorQMarkerStuffsKmosaicref02
namespace Go.Proofs.YtkplpbnifinlbaaDoor.G
open Go.RowKit
set_option linter.unusedVariables false
set_option linter.unusedSimpArgs false
def mosaiclaw02_MarkerStuffs.enc : Bool → Value := fun r => .bool r
def mosaiclaw02_MarkerStuffs.s (a0 : ByteArray) (H0 : Hp) (Q : Bool → Hp → Prop) : Prop :=
  marker_Free.s a0 H0 (fun x1 H2 => mosaicref02_Free.s a0 H2 (fun x3 H4 => if (x1 == x3) = true then (marker_Stuff.s a0 H4 (fun x5 H6 => mosaicref02_Stuff.s a0 H6 (fun x7 H8 => Q (x5.toList == x7.toList) H8))) else (Q false H4)))
set_option maxRecDepth 20000 in
set_option maxHeartbeats 4000000 in
theorem mosaiclaw02_MarkerStuffs.calls (a0 : ByteArray) (w0 : World) (Q : Bool → Hp → Prop) (h : mosaiclaw02_MarkerStuffs.s a0 w0.heap Q) :
    Ca Tryd.prog 5 #[.string a0] w0 (Rt mosaiclaw02_MarkerStuffs.enc Q w0) := by
  refine ca_start (c := _) Tryd.func5 rfl Tryd.ntmps5 rfl ?_
  have so : Sm w0 w0 := Sm.refl w0
  unfold mosaiclaw02_MarkerStuffs.s at h
  refine wc_prune [(0, .string a0)] ⟨rfl, trivial⟩ (fun f1 => ?_)
  refine wc_seq ?_
  refine wc_region ?_
  refine wl_val (at_assign rfl) rfl ?_
  refine wl_nil ?_
  refine wk_prune [(0, .string a0)] ⟨rfl, trivial⟩ (fun f1 => ?_)
  refine wk_then ?_
  refine wc_seq ?_
  refine wc_region ?_
  refine wl_val (at_move rfl) rfl ?_
  refine wl_callF (marker_Free.calls _ _ _ h) enter16 rfl trivial so ?_; intro x1 w2 h so
  refine wl_val (at_move rfl) rfl ?_
  refine wl_callF (mosaicref02_Free.calls _ _ _ h) enter17 rfl trivial so ?_; intro x3 w4 h so
  refine wl_val (at_eqlB Tryd.underlying4 rfl rfl) rfl ?_
  refine wl_val (at_move rfl) rfl ?_
  refine bif_ h (fun hb h => ?_) (fun hb h => ?_)
  · refine wl_set (t := 8) (v := .bool true) (congrArg Value.bool hb) ?_; clear hb
    refine wl_on (t := 8) rfl (by decide) rfl ?_
    refine wl_val (at_move rfl) rfl ?_
    refine wl_on (t := 8) rfl (by decide) rfl ?_
    refine wl_callF (marker_Stuff.calls _ _ _ h) enter18 rfl trivial so ?_; intro x5 w6 h so
    refine wl_on (t := 8) rfl (by decide) rfl ?_
    refine wl_val (at_move rfl) rfl ?_
    refine wl_on (t := 8) rfl (by decide) rfl ?_
    refine wl_callF (mosaicref02_Stuff.calls _ _ _ h) enter19 rfl trivial so ?_; intro x7 w8 h so
    refine wl_on (t := 8) rfl (by decide) rfl ?_
    refine wl_val (at_eqlS rfl rfl) rfl ?_
    refine wl_val (at_pick_t rfl rfl) rfl ?_
    refine wl_val (at_assign rfl) rfl ?_
    refine wl_nil ?_
    refine wk_prune [(2, .bool (x5.toList == x7.toList))] ⟨rfl, trivial⟩ (fun f1 => ?_)
    refine wk_then ?_
    refine wc_ret ?_
    exact wk_ret1 (x := (x5.toList == x7.toList)) rfl (by decide) rfl so h
  · refine wl_set (t := 8) (v := .bool false) (congrArg Value.bool hb) ?_; clear hb
    refine wl_off (t := 8) rfl (by decide) rfl ?_
    refine wl_off (t := 8) rfl (by decide) rfl ?_
    refine wl_off (t := 8) rfl (by decide) rfl ?_
    refine wl_off (t := 8) rfl (by decide) rfl ?_
    refine wl_off (t := 8) rfl (by decide) rfl ?_
    refine wl_val (at_pick_f rfl rfl) rfl ?_
    refine wl_val (at_assign rfl) rfl ?_
    refine wl_nil ?_
    refine wk_prune [(2, .bool false)] ⟨rfl, trivial⟩ (fun f1 => ?_)
    refine wk_then ?_
    refine wc_ret ?_
    exact wk_ret1 (x := false) rfl (by decide) rfl so h
end Go.Proofs.YtkplpbnifinlbaaDoor.G
