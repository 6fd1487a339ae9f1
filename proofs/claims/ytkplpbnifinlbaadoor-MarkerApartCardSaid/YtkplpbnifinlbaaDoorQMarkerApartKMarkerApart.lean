/- Of this text what the row needs. -/
import Derived.Test.YtkplpbnifinlbaaDoorQMarkerApartKshelf
import Derived.Test.YtkplpbnifinlbaaDoorQMarkerApartKmarker
import Derived.Test.YtkplpbnifinlbaaDoorQMarkerApartKmosaiclaw02
namespace Go.Proofs.YtkplpbnifinlbaaDoor.G
open Go.RowKit
set_option linter.unusedVariables false
set_option linter.unusedSimpArgs false
def mosaiclaw02_MarkerApart.enc : Bool → Value := fun r => .bool r
def mosaiclaw02_MarkerApart.s (a0 : Int) (a1 : Int) (H0 : Hp) (Q : Bool → Hp → Prop) : Prop :=
  mosaiclaw02_alive.s H0 (fun x1 H2 => marker_Name.s a0 H2 (fun x3 H4 => marker_Name.s a1 H4 (fun x5 H6 => marker_Code.s x3 H6 (fun x7 H8 => Join (fun (s10 : Bool) (H11 : Hp) => Join (fun (s13 : Bool) (H14 : Hp) => if s13 = true then (Q false H14) else (if decide ((x3.size : Int) ≤ 5) = true then (if (a0 == a1) = true then (Q ((x3.toList == x5.toList) == true) H14) else (if s10 = true then (if (a1 == 0) = true then (Q ((x3.toList == x5.toList) == true) H14) else (Q ((x3.toList == x5.toList) == (a1 == 255)) H14)) else (Q ((x3.toList == x5.toList) == false) H14))) else (Q false H14))) (fun (J12 : Bool → Hp → Prop) => if (!x1) = true then (J12 (true) H11) else (if (!(s10 == (x3.toList == (⟨#[]⟩ : ByteArray).toList))) = true then (J12 (true) H11) else (if (x7.2 == s10) = true then (J12 (true) H11) else (if (!s10) = true then (if (x7.1 != a0) = true then (J12 (true) H11) else (if s10 = true then (J12 ((x7.1 != 0)) H11) else (J12 (false) H11))) else (if s10 = true then (J12 ((x7.1 != 0)) H11) else (J12 (false) H11))))))) (fun (J9 : Bool → Hp → Prop) => if (a0 == 0) = true then (J9 (true) H8) else (J9 ((a0 == 255)) H8))))))
set_option maxRecDepth 20000 in
set_option maxHeartbeats 4000000 in
theorem mosaiclaw02_MarkerApart.calls (a0 : Int) (a1 : Int) (w0 : World) (Q : Bool → Hp → Prop) (h : mosaiclaw02_MarkerApart.s a0 a1 w0.heap Q) :
    Ca Tryd.prog 8 #[.int .u8 a0, .int .u8 a1] w0 (Rt mosaiclaw02_MarkerApart.enc Q w0) := by
  refine ca_start (c := _) Tryd.func8 rfl Tryd.ntmps8 rfl ?_
  have so : Sm w0 w0 := Sm.refl w0
  unfold mosaiclaw02_MarkerApart.s at h
  refine wc_prune [(0, .int .u8 a0), (1, .int .u8 a1)] ⟨rfl, rfl, trivial⟩ (fun f1 => ?_)
  refine wc_seq ?_
  refine wc_region ?_
  refine wl_val (at_assign rfl) rfl ?_
  refine wl_nil ?_
  refine wk_prune [(0, .int .u8 a0), (1, .int .u8 a1)] ⟨rfl, rfl, trivial⟩ (fun f1 => ?_)
  refine wk_then ?_
  refine wc_seq ?_
  refine wc_region ?_
  refine wl_callF (mosaiclaw02_alive.calls _ _ h) enter20 rfl trivial so ?_; intro x1 w2 h so
  refine wl_val (at_assign rfl) rfl ?_
  refine wl_nil ?_
  refine wk_prune [(0, .int .u8 a0), (1, .int .u8 a1), (5, .bool x1)] ⟨rfl, rfl, rfl, trivial⟩ (fun f1 => ?_)
  refine wk_then ?_
  refine wc_seq ?_
  refine wc_region ?_
  refine wl_val (at_move rfl) rfl ?_
  refine wl_callF (marker_Name.calls _ _ _ h) enter14 rfl trivial so ?_; intro x3 w4 h so
  refine wl_val (at_assign rfl) rfl ?_
  refine wl_nil ?_
  refine wk_prune [(0, .int .u8 a0), (1, .int .u8 a1), (5, .bool x1), (6, .string x3)] ⟨rfl, rfl, rfl, rfl, trivial⟩ (fun f1 => ?_)
  refine wk_then ?_
  refine wc_seq ?_
  refine wc_region ?_
  refine wl_val (at_move rfl) rfl ?_
  refine wl_callF (marker_Name.calls _ _ _ h) enter14 rfl trivial so ?_; intro x5 w6 h so
  refine wl_val (at_assign rfl) rfl ?_
  refine wl_nil ?_
  refine wk_prune [(0, .int .u8 a0), (1, .int .u8 a1), (5, .bool x1), (6, .string x3), (7, .string x5)] ⟨rfl, rfl, rfl, rfl, rfl, trivial⟩ (fun f1 => ?_)
  refine wk_then ?_
  refine wc_seq ?_
  refine wc_region ?_
  refine wl_val (at_move rfl) rfl ?_
  refine wl_callF (marker_Code.calls _ _ _ h) enter10 rfl trivial so ?_; intro x7 w8 h so
  refine wl_val (at_move rfl) rfl ?_
  refine wl_val (at_extract rfl rfl) rfl ?_
  refine wl_val (at_extract rfl rfl) rfl ?_
  refine wl_val (at_assign rfl) rfl ?_
  refine wl_val (at_assign rfl) rfl ?_
  refine wl_nil ?_
  refine wk_prune [(0, .int .u8 a0), (1, .int .u8 a1), (5, .bool x1), (6, .string x3), (7, .string x5), (8, .int .u8 x7.1), (9, .bool x7.2)] ⟨rfl, rfl, rfl, rfl, rfl, rfl, rfl, trivial⟩ (fun f1 => ?_)
  refine wk_then ?_
  refine wc_seq ?_
  refine wc_join (w0 := w0) (fun (s10 : Bool) => [(0, .int .u8 a0), (1, .int .u8 a1), (5, .bool x1), (6, .string x3), (7, .string x5), (8, .int .u8 x7.1), (9, .bool x7.2), (10, .bool s10)]) h ?_ ?_
  · rintro s10 w11 f1 h so; refine wk_then ?_
    refine wc_seq ?_
    refine wc_seq ?_
    refine wc_join (w0 := w0) (fun (s13 : Bool) => [(0, .int .u8 a0), (1, .int .u8 a1), (6, .string x3), (7, .string x5), (10, .bool s10), (55, .bool s13)]) h ?_ ?_
    · rintro s13 w14 f1 h so; refine wk_then ?_
      refine wc_cond rfl h (fun h => ?_) (fun h => ?_)
      · refine wc_seq ?_
        refine wc_region ?_
        refine wl_val (at_assign rfl) rfl ?_
        refine wl_nil ?_
        refine wk_prune [(4, .bool false)] ⟨rfl, trivial⟩ (fun f1 => ?_)
        refine wk_then ?_
        refine wc_ret ?_
        refine wk_thenR ?_
        exact wk_ret1 (x := false) rfl (by decide) rfl so h
      · refine wc_skip ?_
        refine wk_prune [(0, .int .u8 a0), (1, .int .u8 a1), (6, .string x3), (7, .string x5), (10, .bool s10)] ⟨rfl, rfl, rfl, rfl, rfl, trivial⟩ (fun f1 => ?_)
        refine wk_then ?_
        refine wc_seq ?_
        refine wc_region ?_
        refine wl_val (at_move rfl) rfl ?_
        refine wl_val (at_lenS Tryd.underlying9 rfl) rfl ?_
        refine wl_val (at_leq rfl rfl) rfl ?_
        refine wl_val (at_move rfl) rfl ?_
        refine bif_ h (fun hb h => ?_) (fun hb h => ?_)
        · refine wl_set (t := 59) (v := .bool true) (congrArg Value.bool hb) ?_; clear hb
          refine wl_on (t := 59) rfl (by decide) rfl ?_
          refine wl_val (at_move rfl) rfl ?_
          refine wl_on (t := 59) rfl (by decide) rfl ?_
          refine wl_val (at_move rfl) rfl ?_
          refine wl_on (t := 59) rfl (by decide) rfl ?_
          refine wl_val (at_eqlS rfl rfl) rfl ?_
          refine wl_on (t := 59) rfl (by decide) rfl ?_
          refine wl_val (at_move rfl) rfl ?_
          refine wl_on (t := 59) rfl (by decide) rfl ?_
          refine wl_val (at_move rfl) rfl ?_
          refine wl_on (t := 59) rfl (by decide) rfl ?_
          refine wl_val (at_eql rfl rfl) rfl ?_
          refine wl_on (t := 59) rfl (by decide) rfl ?_
          refine wl_val (at_move rfl) rfl ?_
          refine bif_ h (fun hb h => ?_) (fun hb h => ?_)
          · refine wl_set (t := 66) (v := .bool true) (congrArg Value.bool hb) ?_; clear hb
            refine wl_off (t := 66) rfl (by decide) rfl ?_
            refine wl_off (t := 66) rfl (by decide) rfl ?_
            refine wl_off' (t := 68) rfl (by decide) rfl ?_
            refine wl_off' (t := 68) rfl (by decide) rfl ?_
            refine wl_off' (t := 68) rfl (by decide) rfl ?_
            refine wl_off' (t := 71) rfl (by decide) rfl ?_
            refine wl_off' (t := 71) rfl (by decide) rfl ?_
            refine wl_off' (t := 68) rfl (by decide) rfl ?_
            refine wl_off (t := 66) rfl (by decide) rfl ?_
            refine wl_on (t := 59) rfl (by decide) rfl ?_
            refine wl_val (at_pick_t rfl rfl) rfl ?_
            refine wl_on (t := 59) rfl (by decide) rfl ?_
            refine wl_val (at_eqlB Tryd.underlying4 rfl rfl) rfl ?_
            refine wl_val (at_pick_t rfl rfl) rfl ?_
            refine wl_val (at_assign rfl) rfl ?_
            refine wl_nil ?_
            refine wk_prune [(4, .bool ((x3.toList == x5.toList) == true))] ⟨rfl, trivial⟩ (fun f1 => ?_)
            refine wk_then ?_
            refine wc_ret ?_
            exact wk_ret1 (x := ((x3.toList == x5.toList) == true)) rfl (by decide) rfl so h
          · refine wl_set (t := 66) (v := .bool false) (congrArg Value.bool hb) ?_; clear hb
            refine wl_on (t := 66) rfl (by decide) rfl ?_
            refine wl_val (at_move rfl) rfl ?_
            refine wl_on (t := 66) rfl (by decide) rfl ?_
            refine wl_val (at_move rfl) rfl ?_
            refine bif_ h (fun hb h => ?_) (fun hb h => ?_)
            · refine wl_set (t := 68) (v := .bool true) (congrArg Value.bool hb) ?_; clear hb
              refine wl_on (t := 68) rfl (by decide) rfl ?_
              refine wl_val (at_move rfl) rfl ?_
              refine wl_on (t := 68) rfl (by decide) rfl ?_
              refine wl_val (at_eql rfl rfl) rfl ?_
              refine wl_on (t := 68) rfl (by decide) rfl ?_
              refine wl_val (at_move rfl) rfl ?_
              refine bif_ h (fun hb h => ?_) (fun hb h => ?_)
              · refine wl_set (t := 71) (v := .bool true) (congrArg Value.bool hb) ?_; clear hb
                refine wl_off (t := 71) rfl (by decide) rfl ?_
                refine wl_off (t := 71) rfl (by decide) rfl ?_
                refine wl_on (t := 68) rfl (by decide) rfl ?_
                refine wl_val (at_pick_t rfl rfl) rfl ?_
                refine wl_on (t := 66) rfl (by decide) rfl ?_
                refine wl_val (at_pick_t rfl rfl) rfl ?_
                refine wl_on (t := 59) rfl (by decide) rfl ?_
                refine wl_val (at_pick_f rfl rfl) rfl ?_
                refine wl_on (t := 59) rfl (by decide) rfl ?_
                refine wl_val (at_eqlB Tryd.underlying4 rfl rfl) rfl ?_
                refine wl_val (at_pick_t rfl rfl) rfl ?_
                refine wl_val (at_assign rfl) rfl ?_
                refine wl_nil ?_
                refine wk_prune [(4, .bool ((x3.toList == x5.toList) == true))] ⟨rfl, trivial⟩ (fun f1 => ?_)
                refine wk_then ?_
                refine wc_ret ?_
                exact wk_ret1 (x := ((x3.toList == x5.toList) == true)) rfl (by decide) rfl so h
              · refine wl_set (t := 71) (v := .bool false) (congrArg Value.bool hb) ?_; clear hb
                refine wl_on (t := 71) rfl (by decide) rfl ?_
                refine wl_val (at_move rfl) rfl ?_
                refine wl_on (t := 71) rfl (by decide) rfl ?_
                refine wl_val (at_eql rfl rfl) rfl ?_
                refine wl_on (t := 68) rfl (by decide) rfl ?_
                refine wl_val (at_pick_f rfl rfl) rfl ?_
                refine wl_on (t := 66) rfl (by decide) rfl ?_
                refine wl_val (at_pick_t rfl rfl) rfl ?_
                refine wl_on (t := 59) rfl (by decide) rfl ?_
                refine wl_val (at_pick_f rfl rfl) rfl ?_
                refine wl_on (t := 59) rfl (by decide) rfl ?_
                refine wl_val (at_eqlB Tryd.underlying4 rfl rfl) rfl ?_
                refine wl_val (at_pick_t rfl rfl) rfl ?_
                refine wl_val (at_assign rfl) rfl ?_
                refine wl_nil ?_
                refine wk_prune [(4, .bool ((x3.toList == x5.toList) == (a1 == 255)))] ⟨rfl, trivial⟩ (fun f1 => ?_)
                refine wk_then ?_
                refine wc_ret ?_
                exact wk_ret1 (x := ((x3.toList == x5.toList) == (a1 == 255))) rfl (by decide) rfl so h
            · refine wl_set (t := 68) (v := .bool false) (congrArg Value.bool hb) ?_; clear hb
              refine wl_off (t := 68) rfl (by decide) rfl ?_
              refine wl_off (t := 68) rfl (by decide) rfl ?_
              refine wl_off (t := 68) rfl (by decide) rfl ?_
              refine wl_off' (t := 71) rfl (by decide) rfl ?_
              refine wl_off' (t := 71) rfl (by decide) rfl ?_
              refine wl_off (t := 68) rfl (by decide) rfl ?_
              refine wl_on (t := 66) rfl (by decide) rfl ?_
              refine wl_val (at_pick_f rfl rfl) rfl ?_
              refine wl_on (t := 59) rfl (by decide) rfl ?_
              refine wl_val (at_pick_f rfl rfl) rfl ?_
              refine wl_on (t := 59) rfl (by decide) rfl ?_
              refine wl_val (at_eqlB Tryd.underlying4 rfl rfl) rfl ?_
              refine wl_val (at_pick_t rfl rfl) rfl ?_
              refine wl_val (at_assign rfl) rfl ?_
              refine wl_nil ?_
              refine wk_prune [(4, .bool ((x3.toList == x5.toList) == false))] ⟨rfl, trivial⟩ (fun f1 => ?_)
              refine wk_then ?_
              refine wc_ret ?_
              exact wk_ret1 (x := ((x3.toList == x5.toList) == false)) rfl (by decide) rfl so h
        · refine wl_set (t := 59) (v := .bool false) (congrArg Value.bool hb) ?_; clear hb
          refine wl_off (t := 59) rfl (by decide) rfl ?_
          refine wl_off (t := 59) rfl (by decide) rfl ?_
          refine wl_off (t := 59) rfl (by decide) rfl ?_
          refine wl_off (t := 59) rfl (by decide) rfl ?_
          refine wl_off (t := 59) rfl (by decide) rfl ?_
          refine wl_off (t := 59) rfl (by decide) rfl ?_
          refine wl_off (t := 59) rfl (by decide) rfl ?_
          refine wl_off' (t := 66) rfl (by decide) rfl ?_
          refine wl_off' (t := 66) rfl (by decide) rfl ?_
          refine wl_off' (t := 68) rfl (by decide) rfl ?_
          refine wl_off' (t := 68) rfl (by decide) rfl ?_
          refine wl_off' (t := 68) rfl (by decide) rfl ?_
          refine wl_off' (t := 71) rfl (by decide) rfl ?_
          refine wl_off' (t := 71) rfl (by decide) rfl ?_
          refine wl_off' (t := 68) rfl (by decide) rfl ?_
          refine wl_off' (t := 66) rfl (by decide) rfl ?_
          refine wl_off (t := 59) rfl (by decide) rfl ?_
          refine wl_off (t := 59) rfl (by decide) rfl ?_
          refine wl_val (at_pick_f rfl rfl) rfl ?_
          refine wl_val (at_assign rfl) rfl ?_
          refine wl_nil ?_
          refine wk_prune [(4, .bool false)] ⟨rfl, trivial⟩ (fun f1 => ?_)
          refine wk_then ?_
          refine wc_ret ?_
          exact wk_ret1 (x := false) rfl (by decide) rfl so h
    · intro J12 h hJ12
      refine wc_region ?_
      refine wl_val (at_move rfl) rfl ?_
      refine wl_val (at_not rfl) rfl ?_
      refine wl_val (at_move rfl) rfl ?_
      refine bif_ h (fun hb h => ?_) (fun hb h => ?_)
      · refine wl_set (t := 29) (v := .bool true) (congrArg Value.bool hb) ?_; clear hb
        refine wl_off (t := 29) rfl (by decide) rfl ?_
        refine wl_off (t := 29) rfl (by decide) rfl ?_
        refine wl_off (t := 29) rfl (by decide) rfl ?_
        refine wl_off (t := 29) rfl (by decide) rfl ?_
        refine wl_val (at_pick_t rfl rfl) rfl ?_
        refine wl_val (at_move rfl) rfl ?_
        refine wl_off (t := 35) rfl (by decide) rfl ?_
        refine wl_off (t := 35) rfl (by decide) rfl ?_
        refine wl_off (t := 35) rfl (by decide) rfl ?_
        refine wl_val (at_pick_t rfl rfl) rfl ?_
        refine wl_val (at_move rfl) rfl ?_
        refine wl_off (t := 40) rfl (by decide) rfl ?_
        refine wl_off (t := 40) rfl (by decide) rfl ?_
        refine wl_off (t := 40) rfl (by decide) rfl ?_
        refine wl_off' (t := 43) rfl (by decide) rfl ?_
        refine wl_off' (t := 43) rfl (by decide) rfl ?_
        refine wl_off' (t := 43) rfl (by decide) rfl ?_
        refine wl_off (t := 40) rfl (by decide) rfl ?_
        refine wl_val (at_pick_t rfl rfl) rfl ?_
        refine wl_val (at_move rfl) rfl ?_
        refine wl_off (t := 49) rfl (by decide) rfl ?_
        refine wl_off (t := 49) rfl (by decide) rfl ?_
        refine wl_off' (t := 51) rfl (by decide) rfl ?_
        refine wl_off' (t := 51) rfl (by decide) rfl ?_
        refine wl_off (t := 49) rfl (by decide) rfl ?_
        refine wl_val (at_pick_t rfl rfl) rfl ?_
        refine wl_nil ?_
        exact wk_prune [(0, .int .u8 a0), (1, .int .u8 a1), (6, .string x3), (7, .string x5), (10, .bool s10), (55, .bool true)] ⟨rfl, rfl, rfl, rfl, rfl, rfl, trivial⟩ (fun f1 => hJ12 (true) _ f1 h so)
      · refine wl_set (t := 29) (v := .bool false) (congrArg Value.bool hb) ?_; clear hb
        refine wl_on (t := 29) rfl (by decide) rfl ?_
        refine wl_val (at_move rfl) rfl ?_
        refine wl_on (t := 29) rfl (by decide) rfl ?_
        refine wl_val (at_move rfl) rfl ?_
        refine wl_on (t := 29) rfl (by decide) rfl ?_
        refine wl_val (at_eqlS rfl rfl) rfl ?_
        refine wl_on (t := 29) rfl (by decide) rfl ?_
        refine wl_val (at_neqB Tryd.underlying4 rfl rfl) rfl ?_
        refine wl_val (at_pick_f rfl rfl) rfl ?_
        refine wl_val (at_move rfl) rfl ?_
        refine bif_ h (fun hb h => ?_) (fun hb h => ?_)
        · refine wl_set (t := 35) (v := .bool true) (congrArg Value.bool hb) ?_; clear hb
          refine wl_off (t := 35) rfl (by decide) rfl ?_
          refine wl_off (t := 35) rfl (by decide) rfl ?_
          refine wl_off (t := 35) rfl (by decide) rfl ?_
          refine wl_val (at_pick_t rfl rfl) rfl ?_
          refine wl_val (at_move rfl) rfl ?_
          refine wl_off (t := 40) rfl (by decide) rfl ?_
          refine wl_off (t := 40) rfl (by decide) rfl ?_
          refine wl_off (t := 40) rfl (by decide) rfl ?_
          refine wl_off' (t := 43) rfl (by decide) rfl ?_
          refine wl_off' (t := 43) rfl (by decide) rfl ?_
          refine wl_off' (t := 43) rfl (by decide) rfl ?_
          refine wl_off (t := 40) rfl (by decide) rfl ?_
          refine wl_val (at_pick_t rfl rfl) rfl ?_
          refine wl_val (at_move rfl) rfl ?_
          refine wl_off (t := 49) rfl (by decide) rfl ?_
          refine wl_off (t := 49) rfl (by decide) rfl ?_
          refine wl_off' (t := 51) rfl (by decide) rfl ?_
          refine wl_off' (t := 51) rfl (by decide) rfl ?_
          refine wl_off (t := 49) rfl (by decide) rfl ?_
          refine wl_val (at_pick_t rfl rfl) rfl ?_
          refine wl_nil ?_
          exact wk_prune [(0, .int .u8 a0), (1, .int .u8 a1), (6, .string x3), (7, .string x5), (10, .bool s10), (55, .bool true)] ⟨rfl, rfl, rfl, rfl, rfl, rfl, trivial⟩ (fun f1 => hJ12 (true) _ f1 h so)
        · refine wl_set (t := 35) (v := .bool false) (congrArg Value.bool hb) ?_; clear hb
          refine wl_on (t := 35) rfl (by decide) rfl ?_
          refine wl_val (at_move rfl) rfl ?_
          refine wl_on (t := 35) rfl (by decide) rfl ?_
          refine wl_val (at_move rfl) rfl ?_
          refine wl_on (t := 35) rfl (by decide) rfl ?_
          refine wl_val (at_eqlB Tryd.underlying4 rfl rfl) rfl ?_
          refine wl_val (at_pick_f rfl rfl) rfl ?_
          refine wl_val (at_move rfl) rfl ?_
          refine bif_ h (fun hb h => ?_) (fun hb h => ?_)
          · refine wl_set (t := 40) (v := .bool true) (congrArg Value.bool hb) ?_; clear hb
            refine wl_off (t := 40) rfl (by decide) rfl ?_
            refine wl_off (t := 40) rfl (by decide) rfl ?_
            refine wl_off (t := 40) rfl (by decide) rfl ?_
            refine wl_off' (t := 43) rfl (by decide) rfl ?_
            refine wl_off' (t := 43) rfl (by decide) rfl ?_
            refine wl_off' (t := 43) rfl (by decide) rfl ?_
            refine wl_off (t := 40) rfl (by decide) rfl ?_
            refine wl_val (at_pick_t rfl rfl) rfl ?_
            refine wl_val (at_move rfl) rfl ?_
            refine wl_off (t := 49) rfl (by decide) rfl ?_
            refine wl_off (t := 49) rfl (by decide) rfl ?_
            refine wl_off' (t := 51) rfl (by decide) rfl ?_
            refine wl_off' (t := 51) rfl (by decide) rfl ?_
            refine wl_off (t := 49) rfl (by decide) rfl ?_
            refine wl_val (at_pick_t rfl rfl) rfl ?_
            refine wl_nil ?_
            exact wk_prune [(0, .int .u8 a0), (1, .int .u8 a1), (6, .string x3), (7, .string x5), (10, .bool s10), (55, .bool true)] ⟨rfl, rfl, rfl, rfl, rfl, rfl, trivial⟩ (fun f1 => hJ12 (true) _ f1 h so)
          · refine wl_set (t := 40) (v := .bool false) (congrArg Value.bool hb) ?_; clear hb
            refine wl_on (t := 40) rfl (by decide) rfl ?_
            refine wl_val (at_move rfl) rfl ?_
            refine wl_on (t := 40) rfl (by decide) rfl ?_
            refine wl_val (at_not rfl) rfl ?_
            refine wl_on (t := 40) rfl (by decide) rfl ?_
            refine wl_val (at_move rfl) rfl ?_
            refine bif_ h (fun hb h => ?_) (fun hb h => ?_)
            · refine wl_set (t := 43) (v := .bool true) (congrArg Value.bool hb) ?_; clear hb
              refine wl_on (t := 43) rfl (by decide) rfl ?_
              refine wl_val (at_move rfl) rfl ?_
              refine wl_on (t := 43) rfl (by decide) rfl ?_
              refine wl_val (at_move rfl) rfl ?_
              refine wl_on (t := 43) rfl (by decide) rfl ?_
              refine wl_val (at_neq rfl rfl) rfl ?_
              refine wl_on (t := 40) rfl (by decide) rfl ?_
              refine wl_val (at_pick_t rfl rfl) rfl ?_
              refine wl_val (at_pick_f rfl rfl) rfl ?_
              refine wl_val (at_move rfl) rfl ?_
              refine bif_ h (fun hb h => ?_) (fun hb h => ?_)
              · refine wl_set (t := 49) (v := .bool true) (congrArg Value.bool hb) ?_; clear hb
                refine wl_off (t := 49) rfl (by decide) rfl ?_
                refine wl_off (t := 49) rfl (by decide) rfl ?_
                refine wl_off' (t := 51) rfl (by decide) rfl ?_
                refine wl_off' (t := 51) rfl (by decide) rfl ?_
                refine wl_off (t := 49) rfl (by decide) rfl ?_
                refine wl_val (at_pick_t rfl rfl) rfl ?_
                refine wl_nil ?_
                exact wk_prune [(0, .int .u8 a0), (1, .int .u8 a1), (6, .string x3), (7, .string x5), (10, .bool s10), (55, .bool true)] ⟨rfl, rfl, rfl, rfl, rfl, rfl, trivial⟩ (fun f1 => hJ12 (true) _ f1 h so)
              · refine wl_set (t := 49) (v := .bool false) (congrArg Value.bool hb) ?_; clear hb
                refine wl_on (t := 49) rfl (by decide) rfl ?_
                refine wl_val (at_move rfl) rfl ?_
                refine wl_on (t := 49) rfl (by decide) rfl ?_
                refine wl_val (at_move rfl) rfl ?_
                refine bif_ h (fun hb h => ?_) (fun hb h => ?_)
                · refine wl_set (t := 51) (v := .bool true) (congrArg Value.bool hb) ?_; clear hb
                  refine wl_on (t := 51) rfl (by decide) rfl ?_
                  refine wl_val (at_move rfl) rfl ?_
                  refine wl_on (t := 51) rfl (by decide) rfl ?_
                  refine wl_val (at_neq rfl rfl) rfl ?_
                  refine wl_on (t := 49) rfl (by decide) rfl ?_
                  refine wl_val (at_pick_t rfl rfl) rfl ?_
                  refine wl_val (at_pick_f rfl rfl) rfl ?_
                  refine wl_nil ?_
                  exact wk_prune [(0, .int .u8 a0), (1, .int .u8 a1), (6, .string x3), (7, .string x5), (10, .bool s10), (55, .bool (x7.1 != 0))] ⟨rfl, rfl, rfl, rfl, rfl, rfl, trivial⟩ (fun f1 => hJ12 ((x7.1 != 0)) _ f1 h so)
                · refine wl_set (t := 51) (v := .bool false) (congrArg Value.bool hb) ?_; clear hb
                  refine wl_off (t := 51) rfl (by decide) rfl ?_
                  refine wl_off (t := 51) rfl (by decide) rfl ?_
                  refine wl_on (t := 49) rfl (by decide) rfl ?_
                  refine wl_val (at_pick_f rfl rfl) rfl ?_
                  refine wl_val (at_pick_f rfl rfl) rfl ?_
                  refine wl_nil ?_
                  exact wk_prune [(0, .int .u8 a0), (1, .int .u8 a1), (6, .string x3), (7, .string x5), (10, .bool s10), (55, .bool false)] ⟨rfl, rfl, rfl, rfl, rfl, rfl, trivial⟩ (fun f1 => hJ12 (false) _ f1 h so)
            · refine wl_set (t := 43) (v := .bool false) (congrArg Value.bool hb) ?_; clear hb
              refine wl_off (t := 43) rfl (by decide) rfl ?_
              refine wl_off (t := 43) rfl (by decide) rfl ?_
              refine wl_off (t := 43) rfl (by decide) rfl ?_
              refine wl_on (t := 40) rfl (by decide) rfl ?_
              refine wl_val (at_pick_f rfl rfl) rfl ?_
              refine wl_val (at_pick_f rfl rfl) rfl ?_
              refine wl_val (at_move rfl) rfl ?_
              refine wl_on (t := 49) rfl (by decide) rfl ?_
              refine wl_val (at_move rfl) rfl ?_
              refine wl_on (t := 49) rfl (by decide) rfl ?_
              refine wl_val (at_move rfl) rfl ?_
              refine bif_ h (fun hb h => ?_) (fun hb h => ?_)
              · refine wl_set (t := 51) (v := .bool true) (congrArg Value.bool hb) ?_; clear hb
                refine wl_on (t := 51) rfl (by decide) rfl ?_
                refine wl_val (at_move rfl) rfl ?_
                refine wl_on (t := 51) rfl (by decide) rfl ?_
                refine wl_val (at_neq rfl rfl) rfl ?_
                refine wl_on (t := 49) rfl (by decide) rfl ?_
                refine wl_val (at_pick_t rfl rfl) rfl ?_
                refine wl_val (at_pick_f rfl rfl) rfl ?_
                refine wl_nil ?_
                exact wk_prune [(0, .int .u8 a0), (1, .int .u8 a1), (6, .string x3), (7, .string x5), (10, .bool s10), (55, .bool (x7.1 != 0))] ⟨rfl, rfl, rfl, rfl, rfl, rfl, trivial⟩ (fun f1 => hJ12 ((x7.1 != 0)) _ f1 h so)
              · refine wl_set (t := 51) (v := .bool false) (congrArg Value.bool hb) ?_; clear hb
                refine wl_off (t := 51) rfl (by decide) rfl ?_
                refine wl_off (t := 51) rfl (by decide) rfl ?_
                refine wl_on (t := 49) rfl (by decide) rfl ?_
                refine wl_val (at_pick_f rfl rfl) rfl ?_
                refine wl_val (at_pick_f rfl rfl) rfl ?_
                refine wl_nil ?_
                exact wk_prune [(0, .int .u8 a0), (1, .int .u8 a1), (6, .string x3), (7, .string x5), (10, .bool s10), (55, .bool false)] ⟨rfl, rfl, rfl, rfl, rfl, rfl, trivial⟩ (fun f1 => hJ12 (false) _ f1 h so)
  · intro J9 h hJ9
    refine wc_region ?_
    refine wl_val (at_move rfl) rfl ?_
    refine wl_val (at_eql rfl rfl) rfl ?_
    refine wl_val (at_move rfl) rfl ?_
    refine bif_ h (fun hb h => ?_) (fun hb h => ?_)
    · refine wl_set (t := 23) (v := .bool true) (congrArg Value.bool hb) ?_; clear hb
      refine wl_off (t := 23) rfl (by decide) rfl ?_
      refine wl_off (t := 23) rfl (by decide) rfl ?_
      refine wl_val (at_pick_t rfl rfl) rfl ?_
      refine wl_val (at_assign rfl) rfl ?_
      refine wl_nil ?_
      exact wk_prune [(0, .int .u8 a0), (1, .int .u8 a1), (5, .bool x1), (6, .string x3), (7, .string x5), (8, .int .u8 x7.1), (9, .bool x7.2), (10, .bool true)] ⟨rfl, rfl, rfl, rfl, rfl, rfl, rfl, rfl, trivial⟩ (fun f1 => hJ9 (true) _ f1 h so)
    · refine wl_set (t := 23) (v := .bool false) (congrArg Value.bool hb) ?_; clear hb
      refine wl_on (t := 23) rfl (by decide) rfl ?_
      refine wl_val (at_move rfl) rfl ?_
      refine wl_on (t := 23) rfl (by decide) rfl ?_
      refine wl_val (at_eql rfl rfl) rfl ?_
      refine wl_val (at_pick_f rfl rfl) rfl ?_
      refine wl_val (at_assign rfl) rfl ?_
      refine wl_nil ?_
      exact wk_prune [(0, .int .u8 a0), (1, .int .u8 a1), (5, .bool x1), (6, .string x3), (7, .string x5), (8, .int .u8 x7.1), (9, .bool x7.2), (10, .bool (a0 == 255))] ⟨rfl, rfl, rfl, rfl, rfl, rfl, rfl, rfl, trivial⟩ (fun f1 => hJ9 ((a0 == 255)) _ f1 h so)
end Go.Proofs.YtkplpbnifinlbaaDoor.G
