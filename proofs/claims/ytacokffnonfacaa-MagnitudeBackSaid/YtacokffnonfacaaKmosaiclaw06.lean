import Derived.Test.YtacokffnonfacaaGF
import Derived.Test.YtacokffnonfacaaKmagnitude
import Derived.Test.YtacokffnonfacaaKmosaicref06
namespace Go.Proofs.Ytacokffnonfacaa.G
open Go.RowKit
set_option linter.unusedVariables false
/-- mosaic/mosaiclaw06.MagnitudeClip -/
def mosaiclaw06_MagnitudeClip.enc : Bool → Value := fun r => .bool r
def mosaiclaw06_MagnitudeClip.s (a0 : Int) (a1 : Int) (H0 : Hp) (Q : Bool → Hp → Prop) : Prop :=
  magnitude_Clip.s a0 a1 H0 (fun x1 H2 => mosaicref06_Clip.s a0 a1 H2 (fun x3 H4 => Q (x1 == x3) H4))
set_option maxRecDepth 20000 in
set_option maxHeartbeats 4000000 in
theorem mosaiclaw06_MagnitudeClip.calls (a0 : Int) (a1 : Int) (w0 : World) (Q : Bool → Hp → Prop) (h : mosaiclaw06_MagnitudeClip.s a0 a1 w0.heap Q) :
    Ca Try.prog 3 #[.int .i64 a0, .int .i8 a1] w0 (Rt mosaiclaw06_MagnitudeClip.enc Q w0) := by
  refine ca_start (c := _) Try.func3 rfl Try.ntmps3 rfl ?_
  have so : Sm w0 w0 := Sm.refl w0
  unfold mosaiclaw06_MagnitudeClip.s at h
  refine wc_prune [(0, .int .i64 a0), (1, .int .i8 a1)] ⟨rfl, rfl, trivial⟩ (fun f1 => ?_)
  refine wc_seq ?_
  refine wc_region ?_
  refine wl_val (at_assign rfl) rfl ?_
  refine wl_nil ?_
  refine wk_prune [(0, .int .i64 a0), (1, .int .i8 a1)] ⟨rfl, rfl, trivial⟩ (fun f1 => ?_)
  refine wk_then ?_
  refine wc_seq ?_
  refine wc_region ?_
  refine wl_val (at_move rfl) rfl ?_
  refine wl_val (at_move rfl) rfl ?_
  refine wl_callF (magnitude_Clip.calls _ _ _ _ h) enter9 rfl trivial so ?_; intro x1 w2 h so
  refine wl_val (at_move rfl) rfl ?_
  refine wl_val (at_move rfl) rfl ?_
  refine wl_callF (mosaicref06_Clip.calls _ _ _ _ h) enter10 rfl trivial so ?_; intro x3 w4 h so
  refine wl_val (at_eql rfl rfl) rfl ?_
  refine wl_val (at_assign rfl) rfl ?_
  refine wl_nil ?_
  refine wk_prune [(4, .bool (x1 == x3))] ⟨rfl, trivial⟩ (fun f1 => ?_)
  refine wk_then ?_
  refine wc_ret ?_
  exact wk_ret1 (x := (x1 == x3)) rfl (by decide) rfl so h

/-- mosaic/mosaiclaw06.MagnitudeValue -/
def mosaiclaw06_MagnitudeValue.enc : Bool → Value := fun r => .bool r
def mosaiclaw06_MagnitudeValue.s (a0 : Int) (a1 : Int) (H0 : Hp) (Q : Bool → Hp → Prop) : Prop :=
  magnitude_Value.s a0 a1 H0 (fun x1 H2 => mosaicref06_Value.s a0 a1 H2 (fun x3 H4 => if (x1.1 == x3.1) = true then (Q (x1.2 == x3.2) H4) else (Q false H4)))
set_option maxRecDepth 20000 in
set_option maxHeartbeats 4000000 in
theorem mosaiclaw06_MagnitudeValue.calls (a0 : Int) (a1 : Int) (w0 : World) (Q : Bool → Hp → Prop) (h : mosaiclaw06_MagnitudeValue.s a0 a1 w0.heap Q) :
    Ca Try.prog 4 #[.int .u16 a0, .int .i8 a1] w0 (Rt mosaiclaw06_MagnitudeValue.enc Q w0) := by
  refine ca_start (c := _) Try.func4 rfl Try.ntmps4 rfl ?_
  have so : Sm w0 w0 := Sm.refl w0
  unfold mosaiclaw06_MagnitudeValue.s at h
  refine wc_prune [(0, .int .u16 a0), (1, .int .i8 a1)] ⟨rfl, rfl, trivial⟩ (fun f1 => ?_)
  refine wc_seq ?_
  refine wc_region ?_
  refine wl_val (at_assign rfl) rfl ?_
  refine wl_nil ?_
  refine wk_prune [(0, .int .u16 a0), (1, .int .i8 a1)] ⟨rfl, rfl, trivial⟩ (fun f1 => ?_)
  refine wk_then ?_
  refine wc_seq ?_
  refine wc_region ?_
  refine wl_val (at_move rfl) rfl ?_
  refine wl_val (at_move rfl) rfl ?_
  refine wl_callF (magnitude_Value.calls _ _ _ _ h) enter11 rfl trivial so ?_; intro x1 w2 h so
  refine wl_val (at_move rfl) rfl ?_
  refine wl_val (at_extract rfl rfl) rfl ?_
  refine wl_val (at_extract rfl rfl) rfl ?_
  refine wl_val (at_assign rfl) rfl ?_
  refine wl_val (at_assign rfl) rfl ?_
  refine wl_nil ?_
  refine wk_prune [(0, .int .u16 a0), (1, .int .i8 a1), (5, .int .i64 x1.1), (6, .bool x1.2)] ⟨rfl, rfl, rfl, rfl, trivial⟩ (fun f1 => ?_)
  refine wk_then ?_
  refine wc_seq ?_
  refine wc_region ?_
  refine wl_val (at_move rfl) rfl ?_
  refine wl_val (at_move rfl) rfl ?_
  refine wl_callF (mosaicref06_Value.calls _ _ _ _ h) enter12 rfl trivial so ?_; intro x3 w4 h so
  refine wl_val (at_move rfl) rfl ?_
  refine wl_val (at_extract rfl rfl) rfl ?_
  refine wl_val (at_extract rfl rfl) rfl ?_
  refine wl_val (at_assign rfl) rfl ?_
  refine wl_val (at_assign rfl) rfl ?_
  refine wl_nil ?_
  refine wk_prune [(5, .int .i64 x1.1), (6, .bool x1.2), (7, .int .i64 x3.1), (8, .bool x3.2)] ⟨rfl, rfl, rfl, rfl, trivial⟩ (fun f1 => ?_)
  refine wk_then ?_
  refine wc_seq ?_
  refine wc_region ?_
  refine wl_val (at_move rfl) rfl ?_
  refine wl_val (at_move rfl) rfl ?_
  refine wl_val (at_eql rfl rfl) rfl ?_
  refine wl_val (at_move rfl) rfl ?_
  refine bif_ h (fun hb h => ?_) (fun hb h => ?_)
  · refine wl_set (t := 24) (v := .bool true) (congrArg Value.bool hb) ?_; clear hb
    refine wl_on (t := 24) rfl (by decide) rfl ?_
    refine wl_val (at_move rfl) rfl ?_
    refine wl_on (t := 24) rfl (by decide) rfl ?_
    refine wl_val (at_move rfl) rfl ?_
    refine wl_on (t := 24) rfl (by decide) rfl ?_
    refine wl_val (at_eqlB Try.underlying4 rfl rfl) rfl ?_
    refine wl_val (at_pick_t rfl rfl) rfl ?_
    refine wl_val (at_assign rfl) rfl ?_
    refine wl_nil ?_
    refine wk_prune [(4, .bool (x1.2 == x3.2))] ⟨rfl, trivial⟩ (fun f1 => ?_)
    refine wk_then ?_
    refine wc_ret ?_
    exact wk_ret1 (x := (x1.2 == x3.2)) rfl (by decide) rfl so h
  · refine wl_set (t := 24) (v := .bool false) (congrArg Value.bool hb) ?_; clear hb
    refine wl_off (t := 24) rfl (by decide) rfl ?_
    refine wl_off (t := 24) rfl (by decide) rfl ?_
    refine wl_off (t := 24) rfl (by decide) rfl ?_
    refine wl_val (at_pick_f rfl rfl) rfl ?_
    refine wl_val (at_assign rfl) rfl ?_
    refine wl_nil ?_
    refine wk_prune [(4, .bool false)] ⟨rfl, trivial⟩ (fun f1 => ?_)
    refine wk_then ?_
    refine wc_ret ?_
    exact wk_ret1 (x := false) rfl (by decide) rfl so h

/-- mosaic/mosaiclaw06.MagnitudeBits -/
def mosaiclaw06_MagnitudeBits.enc : Bool → Value := fun r => .bool r
def mosaiclaw06_MagnitudeBits.s (a0 : Int) (H0 : Hp) (Q : Bool → Hp → Prop) : Prop :=
  magnitude_Bits.s a0 H0 (fun x1 H2 => mosaicref06_Bits.s a0 H2 (fun x3 H4 => magnitude_Size.s a0 H4 (fun x5 H6 => mosaicref06_Size.s a0 H6 (fun x7 H8 => if (x5 == x7) = true then (if (x1.1 == x3.1) = true then (if (x1.2.1 == x3.2.1) = true then (Q (x1.2.2 == x3.2.2) H8) else (Q false H8)) else (Q false H8)) else (Q false H8)))))
set_option maxRecDepth 20000 in
set_option maxHeartbeats 4000000 in
theorem mosaiclaw06_MagnitudeBits.calls (a0 : Int) (w0 : World) (Q : Bool → Hp → Prop) (h : mosaiclaw06_MagnitudeBits.s a0 w0.heap Q) :
    Ca Try.prog 5 #[.int .i64 a0] w0 (Rt mosaiclaw06_MagnitudeBits.enc Q w0) := by
  refine ca_start (c := _) Try.func5 rfl Try.ntmps5 rfl ?_
  have so : Sm w0 w0 := Sm.refl w0
  unfold mosaiclaw06_MagnitudeBits.s at h
  refine wc_prune [(0, .int .i64 a0)] ⟨rfl, trivial⟩ (fun f1 => ?_)
  refine wc_seq ?_
  refine wc_region ?_
  refine wl_val (at_assign rfl) rfl ?_
  refine wl_nil ?_
  refine wk_prune [(0, .int .i64 a0)] ⟨rfl, trivial⟩ (fun f1 => ?_)
  refine wk_then ?_
  refine wc_seq ?_
  refine wc_region ?_
  refine wl_val (at_move rfl) rfl ?_
  refine wl_callF (magnitude_Bits.calls _ _ _ h) enter13 rfl trivial so ?_; intro x1 w2 h so
  refine wl_val (at_move rfl) rfl ?_
  refine wl_val (at_extract rfl rfl) rfl ?_
  refine wl_val (at_extract rfl rfl) rfl ?_
  refine wl_val (at_extract rfl rfl) rfl ?_
  refine wl_val (at_assign rfl) rfl ?_
  refine wl_val (at_assign rfl) rfl ?_
  refine wl_val (at_assign rfl) rfl ?_
  refine wl_nil ?_
  refine wk_prune [(0, .int .i64 a0), (3, .int .u16 x1.1), (4, .int .i8 x1.2.1), (5, .bool x1.2.2)] ⟨rfl, rfl, rfl, rfl, trivial⟩ (fun f1 => ?_)
  refine wk_then ?_
  refine wc_seq ?_
  refine wc_region ?_
  refine wl_val (at_move rfl) rfl ?_
  refine wl_callF (mosaicref06_Bits.calls _ _ _ h) enter14 rfl trivial so ?_; intro x3 w4 h so
  refine wl_val (at_move rfl) rfl ?_
  refine wl_val (at_extract rfl rfl) rfl ?_
  refine wl_val (at_extract rfl rfl) rfl ?_
  refine wl_val (at_extract rfl rfl) rfl ?_
  refine wl_val (at_assign rfl) rfl ?_
  refine wl_val (at_assign rfl) rfl ?_
  refine wl_val (at_assign rfl) rfl ?_
  refine wl_nil ?_
  refine wk_prune [(0, .int .i64 a0), (3, .int .u16 x1.1), (4, .int .i8 x1.2.1), (5, .bool x1.2.2), (6, .int .u16 x3.1), (7, .int .i8 x3.2.1), (8, .bool x3.2.2)] ⟨rfl, rfl, rfl, rfl, rfl, rfl, rfl, trivial⟩ (fun f1 => ?_)
  refine wk_then ?_
  refine wc_seq ?_
  refine wc_region ?_
  refine wl_val (at_move rfl) rfl ?_
  refine wl_callF (magnitude_Size.calls _ _ _ h) enter15 rfl trivial so ?_; intro x5 w6 h so
  refine wl_val (at_move rfl) rfl ?_
  refine wl_callF (mosaicref06_Size.calls _ _ _ h) enter16 rfl trivial so ?_; intro x7 w8 h so
  refine wl_val (at_eql rfl rfl) rfl ?_
  refine wl_val (at_move rfl) rfl ?_
  refine bif_ h (fun hb h => ?_) (fun hb h => ?_)
  · refine wl_set (t := 26) (v := .bool true) (congrArg Value.bool hb) ?_; clear hb
    refine wl_on (t := 26) rfl (by decide) rfl ?_
    refine wl_val (at_move rfl) rfl ?_
    refine wl_on (t := 26) rfl (by decide) rfl ?_
    refine wl_val (at_move rfl) rfl ?_
    refine wl_on (t := 26) rfl (by decide) rfl ?_
    refine wl_val (at_eql rfl rfl) rfl ?_
    refine wl_val (at_pick_t rfl rfl) rfl ?_
    refine wl_val (at_move rfl) rfl ?_
    refine bif_ h (fun hb h => ?_) (fun hb h => ?_)
    · refine wl_set (t := 31) (v := .bool true) (congrArg Value.bool hb) ?_; clear hb
      refine wl_on (t := 31) rfl (by decide) rfl ?_
      refine wl_val (at_move rfl) rfl ?_
      refine wl_on (t := 31) rfl (by decide) rfl ?_
      refine wl_val (at_move rfl) rfl ?_
      refine wl_on (t := 31) rfl (by decide) rfl ?_
      refine wl_val (at_eql rfl rfl) rfl ?_
      refine wl_val (at_pick_t rfl rfl) rfl ?_
      refine wl_val (at_move rfl) rfl ?_
      refine bif_ h (fun hb h => ?_) (fun hb h => ?_)
      · refine wl_set (t := 36) (v := .bool true) (congrArg Value.bool hb) ?_; clear hb
        refine wl_on (t := 36) rfl (by decide) rfl ?_
        refine wl_val (at_move rfl) rfl ?_
        refine wl_on (t := 36) rfl (by decide) rfl ?_
        refine wl_val (at_move rfl) rfl ?_
        refine wl_on (t := 36) rfl (by decide) rfl ?_
        refine wl_val (at_eqlB Try.underlying4 rfl rfl) rfl ?_
        refine wl_val (at_pick_t rfl rfl) rfl ?_
        refine wl_val (at_assign rfl) rfl ?_
        refine wl_nil ?_
        refine wk_prune [(2, .bool (x1.2.2 == x3.2.2))] ⟨rfl, trivial⟩ (fun f1 => ?_)
        refine wk_then ?_
        refine wc_ret ?_
        exact wk_ret1 (x := (x1.2.2 == x3.2.2)) rfl (by decide) rfl so h
      · refine wl_set (t := 36) (v := .bool false) (congrArg Value.bool hb) ?_; clear hb
        refine wl_off (t := 36) rfl (by decide) rfl ?_
        refine wl_off (t := 36) rfl (by decide) rfl ?_
        refine wl_off (t := 36) rfl (by decide) rfl ?_
        refine wl_val (at_pick_f rfl rfl) rfl ?_
        refine wl_val (at_assign rfl) rfl ?_
        refine wl_nil ?_
        refine wk_prune [(2, .bool false)] ⟨rfl, trivial⟩ (fun f1 => ?_)
        refine wk_then ?_
        refine wc_ret ?_
        exact wk_ret1 (x := false) rfl (by decide) rfl so h
    · refine wl_set (t := 31) (v := .bool false) (congrArg Value.bool hb) ?_; clear hb
      refine wl_off (t := 31) rfl (by decide) rfl ?_
      refine wl_off (t := 31) rfl (by decide) rfl ?_
      refine wl_off (t := 31) rfl (by decide) rfl ?_
      refine wl_val (at_pick_f rfl rfl) rfl ?_
      refine wl_val (at_move rfl) rfl ?_
      refine wl_off (t := 36) rfl (by decide) rfl ?_
      refine wl_off (t := 36) rfl (by decide) rfl ?_
      refine wl_off (t := 36) rfl (by decide) rfl ?_
      refine wl_val (at_pick_f rfl rfl) rfl ?_
      refine wl_val (at_assign rfl) rfl ?_
      refine wl_nil ?_
      refine wk_prune [(2, .bool false)] ⟨rfl, trivial⟩ (fun f1 => ?_)
      refine wk_then ?_
      refine wc_ret ?_
      exact wk_ret1 (x := false) rfl (by decide) rfl so h
  · refine wl_set (t := 26) (v := .bool false) (congrArg Value.bool hb) ?_; clear hb
    refine wl_off (t := 26) rfl (by decide) rfl ?_
    refine wl_off (t := 26) rfl (by decide) rfl ?_
    refine wl_off (t := 26) rfl (by decide) rfl ?_
    refine wl_val (at_pick_f rfl rfl) rfl ?_
    refine wl_val (at_move rfl) rfl ?_
    refine wl_off (t := 31) rfl (by decide) rfl ?_
    refine wl_off (t := 31) rfl (by decide) rfl ?_
    refine wl_off (t := 31) rfl (by decide) rfl ?_
    refine wl_val (at_pick_f rfl rfl) rfl ?_
    refine wl_val (at_move rfl) rfl ?_
    refine wl_off (t := 36) rfl (by decide) rfl ?_
    refine wl_off (t := 36) rfl (by decide) rfl ?_
    refine wl_off (t := 36) rfl (by decide) rfl ?_
    refine wl_val (at_pick_f rfl rfl) rfl ?_
    refine wl_val (at_assign rfl) rfl ?_
    refine wl_nil ?_
    refine wk_prune [(2, .bool false)] ⟨rfl, trivial⟩ (fun f1 => ?_)
    refine wk_then ?_
    refine wc_ret ?_
    exact wk_ret1 (x := false) rfl (by decide) rfl so h

/-- mosaic/mosaiclaw06.awake -/
def mosaiclaw06_awake.enc : Bool → Value := fun r => .bool r
def mosaiclaw06_awake.s (H0 : Hp) (Q : Bool → Hp → Prop) : Prop :=
  magnitude_Bits.s (-5) H0 (fun x1 H2 => magnitude_Value.s 2 3 H2 (fun x3 H4 => if (x1.1 == 2) = true then (if (x1.2.1 == 3) = true then (if x1.2.2 = true then (if (x3.1 == (-5)) = true then (if x3.2 = true then (magnitude_Size.s 256 H4 (fun x5 H6 => if (x5 == 9) = true then (magnitude_Clip.s (-5000) 11 H6 (fun x7 H8 => Q (x7 == (-2047)) H8)) else (Q false H6))) else (Q false H4)) else (Q false H4)) else (Q false H4)) else (Q false H4)) else (Q false H4)))
set_option maxRecDepth 20000 in
set_option maxHeartbeats 4000000 in
theorem mosaiclaw06_awake.calls (w0 : World) (Q : Bool → Hp → Prop) (h : mosaiclaw06_awake.s w0.heap Q) :
    Ca Try.prog 17 #[] w0 (Rt mosaiclaw06_awake.enc Q w0) := by
  refine ca_start (c := _) Try.func17 rfl Try.ntmps17 rfl ?_
  have so : Sm w0 w0 := Sm.refl w0
  unfold mosaiclaw06_awake.s at h
  refine wc_prune [] trivial (fun f1 => ?_)
  refine wc_seq ?_
  refine wc_region ?_
  refine wl_val (at_assign rfl) rfl ?_
  refine wl_nil ?_
  refine wk_prune [] trivial (fun f1 => ?_)
  refine wk_then ?_
  refine wc_seq ?_
  refine wc_region ?_
  refine wl_callF (magnitude_Bits.calls _ _ _ h) enter13 rfl trivial so ?_; intro x1 w2 h so
  refine wl_val (at_move rfl) rfl ?_
  refine wl_val (at_extract rfl rfl) rfl ?_
  refine wl_val (at_extract rfl rfl) rfl ?_
  refine wl_val (at_extract rfl rfl) rfl ?_
  refine wl_val (at_assign rfl) rfl ?_
  refine wl_val (at_assign rfl) rfl ?_
  refine wl_val (at_assign rfl) rfl ?_
  refine wl_nil ?_
  refine wk_prune [(1, .int .u16 x1.1), (2, .int .i8 x1.2.1), (3, .bool x1.2.2)] ⟨rfl, rfl, rfl, trivial⟩ (fun f1 => ?_)
  refine wk_then ?_
  refine wc_seq ?_
  refine wc_region ?_
  refine wl_callF (magnitude_Value.calls _ _ _ _ h) enter11 rfl trivial so ?_; intro x3 w4 h so
  refine wl_val (at_move rfl) rfl ?_
  refine wl_val (at_extract rfl rfl) rfl ?_
  refine wl_val (at_extract rfl rfl) rfl ?_
  refine wl_val (at_assign rfl) rfl ?_
  refine wl_val (at_assign rfl) rfl ?_
  refine wl_nil ?_
  refine wk_prune [(1, .int .u16 x1.1), (2, .int .i8 x1.2.1), (3, .bool x1.2.2), (4, .int .i64 x3.1), (5, .bool x3.2)] ⟨rfl, rfl, rfl, rfl, rfl, trivial⟩ (fun f1 => ?_)
  refine wk_then ?_
  refine wc_seq ?_
  refine wc_region ?_
  refine wl_val (at_move rfl) rfl ?_
  refine wl_val (at_eql rfl rfl) rfl ?_
  refine wl_val (at_move rfl) rfl ?_
  refine bif_ h (fun hb h => ?_) (fun hb h => ?_)
  · refine wl_set (t := 17) (v := .bool true) (congrArg Value.bool hb) ?_; clear hb
    refine wl_on (t := 17) rfl (by decide) rfl ?_
    refine wl_val (at_move rfl) rfl ?_
    refine wl_on (t := 17) rfl (by decide) rfl ?_
    refine wl_val (at_eql rfl rfl) rfl ?_
    refine wl_val (at_pick_t rfl rfl) rfl ?_
    refine wl_val (at_move rfl) rfl ?_
    refine bif_ h (fun hb h => ?_) (fun hb h => ?_)
    · refine wl_set (t := 21) (v := .bool true) (congrArg Value.bool hb) ?_; clear hb
      refine wl_on (t := 21) rfl (by decide) rfl ?_
      refine wl_val (at_move rfl) rfl ?_
      refine wl_val (at_pick_t rfl rfl) rfl ?_
      refine wl_val (at_move rfl) rfl ?_
      refine bif_ h (fun hb h => ?_) (fun hb h => ?_)
      · refine wl_set (t := 24) (v := .bool true) (congrArg Value.bool hb) ?_; clear hb
        refine wl_on (t := 24) rfl (by decide) rfl ?_
        refine wl_val (at_move rfl) rfl ?_
        refine wl_on (t := 24) rfl (by decide) rfl ?_
        refine wl_val (at_eql rfl rfl) rfl ?_
        refine wl_val (at_pick_t rfl rfl) rfl ?_
        refine wl_val (at_move rfl) rfl ?_
        refine bif_ h (fun hb h => ?_) (fun hb h => ?_)
        · refine wl_set (t := 28) (v := .bool true) (congrArg Value.bool hb) ?_; clear hb
          refine wl_on (t := 28) rfl (by decide) rfl ?_
          refine wl_val (at_move rfl) rfl ?_
          refine wl_val (at_pick_t rfl rfl) rfl ?_
          refine wl_val (at_move rfl) rfl ?_
          refine bif_ h (fun hb h => ?_) (fun hb h => ?_)
          · refine wl_set (t := 31) (v := .bool true) (congrArg Value.bool hb) ?_; clear hb
            refine wl_on (t := 31) rfl (by decide) rfl ?_
            refine wl_callF (magnitude_Size.calls _ _ _ h) enter15 rfl trivial so ?_; intro x5 w6 h so
            refine wl_on (t := 31) rfl (by decide) rfl ?_
            refine wl_val (at_eql rfl rfl) rfl ?_
            refine wl_val (at_pick_t rfl rfl) rfl ?_
            refine wl_val (at_move rfl) rfl ?_
            refine bif_ h (fun hb h => ?_) (fun hb h => ?_)
            · refine wl_set (t := 35) (v := .bool true) (congrArg Value.bool hb) ?_; clear hb
              refine wl_on (t := 35) rfl (by decide) rfl ?_
              refine wl_callF (magnitude_Clip.calls _ _ _ _ h) enter9 rfl trivial so ?_; intro x7 w8 h so
              refine wl_on (t := 35) rfl (by decide) rfl ?_
              refine wl_val (at_eql rfl rfl) rfl ?_
              refine wl_val (at_pick_t rfl rfl) rfl ?_
              refine wl_val (at_assign rfl) rfl ?_
              refine wl_nil ?_
              refine wk_prune [(0, .bool (x7 == (-2047)))] ⟨rfl, trivial⟩ (fun f1 => ?_)
              refine wk_then ?_
              refine wc_ret ?_
              exact wk_ret1 (x := (x7 == (-2047))) rfl (by decide) rfl so h
            · refine wl_set (t := 35) (v := .bool false) (congrArg Value.bool hb) ?_; clear hb
              refine wl_off (t := 35) rfl (by decide) rfl ?_
              refine wl_off (t := 35) rfl (by decide) rfl ?_
              refine wl_val (at_pick_f rfl rfl) rfl ?_
              refine wl_val (at_assign rfl) rfl ?_
              refine wl_nil ?_
              refine wk_prune [(0, .bool false)] ⟨rfl, trivial⟩ (fun f1 => ?_)
              refine wk_then ?_
              refine wc_ret ?_
              exact wk_ret1 (x := false) rfl (by decide) rfl so h
          · refine wl_set (t := 31) (v := .bool false) (congrArg Value.bool hb) ?_; clear hb
            refine wl_off (t := 31) rfl (by decide) rfl ?_
            refine wl_off (t := 31) rfl (by decide) rfl ?_
            refine wl_val (at_pick_f rfl rfl) rfl ?_
            refine wl_val (at_move rfl) rfl ?_
            refine wl_off (t := 35) rfl (by decide) rfl ?_
            refine wl_off (t := 35) rfl (by decide) rfl ?_
            refine wl_val (at_pick_f rfl rfl) rfl ?_
            refine wl_val (at_assign rfl) rfl ?_
            refine wl_nil ?_
            refine wk_prune [(0, .bool false)] ⟨rfl, trivial⟩ (fun f1 => ?_)
            refine wk_then ?_
            refine wc_ret ?_
            exact wk_ret1 (x := false) rfl (by decide) rfl so h
        · refine wl_set (t := 28) (v := .bool false) (congrArg Value.bool hb) ?_; clear hb
          refine wl_off (t := 28) rfl (by decide) rfl ?_
          refine wl_val (at_pick_f rfl rfl) rfl ?_
          refine wl_val (at_move rfl) rfl ?_
          refine wl_off (t := 31) rfl (by decide) rfl ?_
          refine wl_off (t := 31) rfl (by decide) rfl ?_
          refine wl_val (at_pick_f rfl rfl) rfl ?_
          refine wl_val (at_move rfl) rfl ?_
          refine wl_off (t := 35) rfl (by decide) rfl ?_
          refine wl_off (t := 35) rfl (by decide) rfl ?_
          refine wl_val (at_pick_f rfl rfl) rfl ?_
          refine wl_val (at_assign rfl) rfl ?_
          refine wl_nil ?_
          refine wk_prune [(0, .bool false)] ⟨rfl, trivial⟩ (fun f1 => ?_)
          refine wk_then ?_
          refine wc_ret ?_
          exact wk_ret1 (x := false) rfl (by decide) rfl so h
      · refine wl_set (t := 24) (v := .bool false) (congrArg Value.bool hb) ?_; clear hb
        refine wl_off (t := 24) rfl (by decide) rfl ?_
        refine wl_off (t := 24) rfl (by decide) rfl ?_
        refine wl_val (at_pick_f rfl rfl) rfl ?_
        refine wl_val (at_move rfl) rfl ?_
        refine wl_off (t := 28) rfl (by decide) rfl ?_
        refine wl_val (at_pick_f rfl rfl) rfl ?_
        refine wl_val (at_move rfl) rfl ?_
        refine wl_off (t := 31) rfl (by decide) rfl ?_
        refine wl_off (t := 31) rfl (by decide) rfl ?_
        refine wl_val (at_pick_f rfl rfl) rfl ?_
        refine wl_val (at_move rfl) rfl ?_
        refine wl_off (t := 35) rfl (by decide) rfl ?_
        refine wl_off (t := 35) rfl (by decide) rfl ?_
        refine wl_val (at_pick_f rfl rfl) rfl ?_
        refine wl_val (at_assign rfl) rfl ?_
        refine wl_nil ?_
        refine wk_prune [(0, .bool false)] ⟨rfl, trivial⟩ (fun f1 => ?_)
        refine wk_then ?_
        refine wc_ret ?_
        exact wk_ret1 (x := false) rfl (by decide) rfl so h
    · refine wl_set (t := 21) (v := .bool false) (congrArg Value.bool hb) ?_; clear hb
      refine wl_off (t := 21) rfl (by decide) rfl ?_
      refine wl_val (at_pick_f rfl rfl) rfl ?_
      refine wl_val (at_move rfl) rfl ?_
      refine wl_off (t := 24) rfl (by decide) rfl ?_
      refine wl_off (t := 24) rfl (by decide) rfl ?_
      refine wl_val (at_pick_f rfl rfl) rfl ?_
      refine wl_val (at_move rfl) rfl ?_
      refine wl_off (t := 28) rfl (by decide) rfl ?_
      refine wl_val (at_pick_f rfl rfl) rfl ?_
      refine wl_val (at_move rfl) rfl ?_
      refine wl_off (t := 31) rfl (by decide) rfl ?_
      refine wl_off (t := 31) rfl (by decide) rfl ?_
      refine wl_val (at_pick_f rfl rfl) rfl ?_
      refine wl_val (at_move rfl) rfl ?_
      refine wl_off (t := 35) rfl (by decide) rfl ?_
      refine wl_off (t := 35) rfl (by decide) rfl ?_
      refine wl_val (at_pick_f rfl rfl) rfl ?_
      refine wl_val (at_assign rfl) rfl ?_
      refine wl_nil ?_
      refine wk_prune [(0, .bool false)] ⟨rfl, trivial⟩ (fun f1 => ?_)
      refine wk_then ?_
      refine wc_ret ?_
      exact wk_ret1 (x := false) rfl (by decide) rfl so h
  · refine wl_set (t := 17) (v := .bool false) (congrArg Value.bool hb) ?_; clear hb
    refine wl_off (t := 17) rfl (by decide) rfl ?_
    refine wl_off (t := 17) rfl (by decide) rfl ?_
    refine wl_val (at_pick_f rfl rfl) rfl ?_
    refine wl_val (at_move rfl) rfl ?_
    refine wl_off (t := 21) rfl (by decide) rfl ?_
    refine wl_val (at_pick_f rfl rfl) rfl ?_
    refine wl_val (at_move rfl) rfl ?_
    refine wl_off (t := 24) rfl (by decide) rfl ?_
    refine wl_off (t := 24) rfl (by decide) rfl ?_
    refine wl_val (at_pick_f rfl rfl) rfl ?_
    refine wl_val (at_move rfl) rfl ?_
    refine wl_off (t := 28) rfl (by decide) rfl ?_
    refine wl_val (at_pick_f rfl rfl) rfl ?_
    refine wl_val (at_move rfl) rfl ?_
    refine wl_off (t := 31) rfl (by decide) rfl ?_
    refine wl_off (t := 31) rfl (by decide) rfl ?_
    refine wl_val (at_pick_f rfl rfl) rfl ?_
    refine wl_val (at_move rfl) rfl ?_
    refine wl_off (t := 35) rfl (by decide) rfl ?_
    refine wl_off (t := 35) rfl (by decide) rfl ?_
    refine wl_val (at_pick_f rfl rfl) rfl ?_
    refine wl_val (at_assign rfl) rfl ?_
    refine wl_nil ?_
    refine wk_prune [(0, .bool false)] ⟨rfl, trivial⟩ (fun f1 => ?_)
    refine wk_then ?_
    refine wc_ret ?_
    exact wk_ret1 (x := false) rfl (by decide) rfl so h

/-- mosaic/mosaiclaw06.MagnitudeBack -/
def mosaiclaw06_MagnitudeBack.enc : Bool → Value := fun r => .bool r
def mosaiclaw06_MagnitudeBack.s (a0 : Int) (a1 : Int) (a2 : Int) (H0 : Hp) (Q : Bool → Hp → Prop) : Prop :=
  mosaiclaw06_awake.s H0 (fun x1 H2 => magnitude_Bits.s a0 H2 (fun x3 H4 => magnitude_Value.s x3.1 x3.2.1 H4 (fun x5 H6 => Join (fun (s8 : Bool) (H9 : Hp) => Join (fun (s11 : Bool) (H12 : Hp) => if s11 = true then (Q false H12) else (magnitude_Value.s a1 a2 H12 (fun x13 H14 => magnitude_Bits.s x13.1 H14 (fun x15 H16 => Join (fun (s18 : Bool) (H19 : Hp) => if s18 = true then (Join (fun (s21 : Bool) (H22 : Hp) => Q s21 H22) (fun (J20 : Bool → Hp → Prop) => if x1 = true then (if (!x13.2) = true then (J20 ((x13.1 == 0)) H19) else (J20 (false) H19)) else (J20 (false) H19))) else (if x1 = true then (if x13.2 = true then (if x15.2.2 = true then (if (x15.1 == a1) = true then (Q (x15.2.1 == a2) H19) else (Q false H19)) else (Q false H19)) else (Q false H19)) else (Q false H19))) (fun (J17 : Bool → Hp → Prop) => if decide (a2 < 0) = true then (J17 (true) H16) else (if decide ((16 : Int) < a2) = true then (J17 (true) H16) else (if decide (a2 < 16) = true then (0 ≤ a2 ∧ (J17 (((shrI .i64 (IntKind.wrap .i64 a1) a2) != 0)) H16)) else (J17 (false) H16)))))))) (fun (J10 : Bool → Hp → Prop) => if (!(x3.2.2 == s8)) = true then (J10 (true) H9) else (if s8 = true then (if (!x5.2) = true then (J10 (true) H9) else (if (x5.1 != a0) = true then (J10 (true) H9) else (magnitude_Size.s a0 H9 (fun x24 H25 => if (x3.2.1 != x24) = true then (J10 (true) H25) else (if (!s8) = true then (if (x3.1 != 0) = true then (J10 (true) H25) else (J10 ((x3.2.1 != 0)) H25)) else (J10 (false) H25)))))) else (if (!s8) = true then (if (x3.1 != 0) = true then (J10 (true) H9) else (J10 ((x3.2.1 != 0)) H9)) else (J10 (false) H9))))) (fun (J7 : Bool → Hp → Prop) => if decide ((-65536 : Int) < a0) = true then (J7 ((decide (a0 < 65536))) H6) else (J7 (false) H6)))))
set_option maxRecDepth 20000 in
set_option maxHeartbeats 4000000 in
theorem mosaiclaw06_MagnitudeBack.calls (a0 : Int) (a1 : Int) (a2 : Int) (w0 : World) (Q : Bool → Hp → Prop) (h : mosaiclaw06_MagnitudeBack.s a0 a1 a2 w0.heap Q) :
    Ca Try.prog 6 #[.int .i64 a0, .int .u16 a1, .int .i8 a2] w0 (Rt mosaiclaw06_MagnitudeBack.enc Q w0) := by
  refine ca_start (c := _) Try.func6 rfl Try.ntmps6 rfl ?_
  have so : Sm w0 w0 := Sm.refl w0
  unfold mosaiclaw06_MagnitudeBack.s at h
  refine wc_prune [(0, .int .i64 a0), (1, .int .u16 a1), (2, .int .i8 a2)] ⟨rfl, rfl, rfl, trivial⟩ (fun f1 => ?_)
  refine wc_seq ?_
  refine wc_region ?_
  refine wl_val (at_assign rfl) rfl ?_
  refine wl_nil ?_
  refine wk_prune [(0, .int .i64 a0), (1, .int .u16 a1), (2, .int .i8 a2)] ⟨rfl, rfl, rfl, trivial⟩ (fun f1 => ?_)
  refine wk_then ?_
  refine wc_seq ?_
  refine wc_region ?_
  refine wl_callF (mosaiclaw06_awake.calls _ _ h) enter17 rfl trivial so ?_; intro x1 w2 h so
  refine wl_val (at_assign rfl) rfl ?_
  refine wl_nil ?_
  refine wk_prune [(0, .int .i64 a0), (1, .int .u16 a1), (2, .int .i8 a2), (7, .bool x1)] ⟨rfl, rfl, rfl, rfl, trivial⟩ (fun f1 => ?_)
  refine wk_then ?_
  refine wc_seq ?_
  refine wc_region ?_
  refine wl_val (at_move rfl) rfl ?_
  refine wl_callF (magnitude_Bits.calls _ _ _ h) enter13 rfl trivial so ?_; intro x3 w4 h so
  refine wl_val (at_move rfl) rfl ?_
  refine wl_val (at_extract rfl rfl) rfl ?_
  refine wl_val (at_extract rfl rfl) rfl ?_
  refine wl_val (at_extract rfl rfl) rfl ?_
  refine wl_val (at_assign rfl) rfl ?_
  refine wl_val (at_assign rfl) rfl ?_
  refine wl_val (at_assign rfl) rfl ?_
  refine wl_nil ?_
  refine wk_prune [(0, .int .i64 a0), (1, .int .u16 a1), (2, .int .i8 a2), (7, .bool x1), (8, .int .u16 x3.1), (9, .int .i8 x3.2.1), (10, .bool x3.2.2)] ⟨rfl, rfl, rfl, rfl, rfl, rfl, rfl, trivial⟩ (fun f1 => ?_)
  refine wk_then ?_
  refine wc_seq ?_
  refine wc_region ?_
  refine wl_val (at_move rfl) rfl ?_
  refine wl_val (at_move rfl) rfl ?_
  refine wl_callF (magnitude_Value.calls _ _ _ _ h) enter11 rfl trivial so ?_; intro x5 w6 h so
  refine wl_val (at_move rfl) rfl ?_
  refine wl_val (at_extract rfl rfl) rfl ?_
  refine wl_val (at_extract rfl rfl) rfl ?_
  refine wl_val (at_assign rfl) rfl ?_
  refine wl_val (at_assign rfl) rfl ?_
  refine wl_nil ?_
  refine wk_prune [(0, .int .i64 a0), (1, .int .u16 a1), (2, .int .i8 a2), (7, .bool x1), (8, .int .u16 x3.1), (9, .int .i8 x3.2.1), (10, .bool x3.2.2), (11, .int .i64 x5.1), (12, .bool x5.2)] ⟨rfl, rfl, rfl, rfl, rfl, rfl, rfl, rfl, rfl, trivial⟩ (fun f1 => ?_)
  refine wk_then ?_
  refine wc_seq ?_
  refine wc_join (w0 := w0) (fun (s8 : Bool) => [(0, .int .i64 a0), (1, .int .u16 a1), (2, .int .i8 a2), (7, .bool x1), (8, .int .u16 x3.1), (9, .int .i8 x3.2.1), (10, .bool x3.2.2), (11, .int .i64 x5.1), (12, .bool x5.2), (13, .bool s8)]) h ?_ ?_
  · intro s8 w9 f1 h so; refine wk_then ?_
    refine wc_seq ?_
    refine wc_seq ?_
    refine wc_join (w0 := w0) (fun (s11 : Bool) => [(1, .int .u16 a1), (2, .int .i8 a2), (7, .bool x1), (70, .bool s11)]) h ?_ ?_
    · intro s11 w12 f1 h so; refine wk_then ?_
      refine wc_cond rfl h (fun h => ?_) (fun h => ?_)
      · refine wc_seq ?_
        refine wc_region ?_
        refine wl_val (at_assign rfl) rfl ?_
        refine wl_nil ?_
        refine wk_prune [(6, .bool false)] ⟨rfl, trivial⟩ (fun f1 => ?_)
        refine wk_then ?_
        refine wc_ret ?_
        refine wk_thenR ?_
        exact wk_ret1 (x := false) rfl (by decide) rfl so h
      · refine wc_skip ?_
        refine wk_prune [(1, .int .u16 a1), (2, .int .i8 a2), (7, .bool x1)] ⟨rfl, rfl, rfl, trivial⟩ (fun f1 => ?_)
        refine wk_then ?_
        refine wc_seq ?_
        refine wc_region ?_
        refine wl_val (at_move rfl) rfl ?_
        refine wl_val (at_move rfl) rfl ?_
        refine wl_callF (magnitude_Value.calls _ _ _ _ h) enter11 rfl trivial so ?_; intro x13 w14 h so
        refine wl_val (at_move rfl) rfl ?_
        refine wl_val (at_extract rfl rfl) rfl ?_
        refine wl_val (at_extract rfl rfl) rfl ?_
        refine wl_val (at_assign rfl) rfl ?_
        refine wl_val (at_assign rfl) rfl ?_
        refine wl_nil ?_
        refine wk_prune [(1, .int .u16 a1), (2, .int .i8 a2), (7, .bool x1), (14, .int .i64 x13.1), (15, .bool x13.2)] ⟨rfl, rfl, rfl, rfl, rfl, trivial⟩ (fun f1 => ?_)
        refine wk_then ?_
        refine wc_seq ?_
        refine wc_region ?_
        refine wl_val (at_move rfl) rfl ?_
        refine wl_callF (magnitude_Bits.calls _ _ _ h) enter13 rfl trivial so ?_; intro x15 w16 h so
        refine wl_val (at_move rfl) rfl ?_
        refine wl_val (at_extract rfl rfl) rfl ?_
        refine wl_val (at_extract rfl rfl) rfl ?_
        refine wl_val (at_extract rfl rfl) rfl ?_
        refine wl_val (at_assign rfl) rfl ?_
        refine wl_val (at_assign rfl) rfl ?_
        refine wl_val (at_assign rfl) rfl ?_
        refine wl_nil ?_
        refine wk_prune [(1, .int .u16 a1), (2, .int .i8 a2), (7, .bool x1), (14, .int .i64 x13.1), (15, .bool x13.2), (16, .int .u16 x15.1), (17, .int .i8 x15.2.1), (18, .bool x15.2.2)] ⟨rfl, rfl, rfl, rfl, rfl, rfl, rfl, rfl, trivial⟩ (fun f1 => ?_)
        refine wk_then ?_
        refine wc_seq ?_
        refine wc_seq ?_
        refine wc_join (w0 := w0) (fun (s18 : Bool) => [(1, .int .u16 a1), (2, .int .i8 a2), (7, .bool x1), (14, .int .i64 x13.1), (15, .bool x13.2), (16, .int .u16 x15.1), (17, .int .i8 x15.2.1), (18, .bool x15.2.2), (99, .bool s18)]) h ?_ ?_
        · intro s18 w19 f1 h so; refine wk_then ?_
          refine wc_cond rfl h (fun h => ?_) (fun h => ?_)
          · refine wc_seq ?_
            refine wc_join (w0 := w0) (fun (s21 : Bool) => [(6, .bool s21)]) h ?_ ?_
            · intro s21 w22 f1 h so; refine wk_then ?_
              refine wc_ret ?_
              refine wk_thenR ?_
              exact wk_ret1 (x := s21) rfl (by decide) rfl so h
            · intro J20 h hJ20
              refine wc_region ?_
              refine wl_val (at_move rfl) rfl ?_
              refine wl_val (at_move rfl) rfl ?_
              refine bif_ h (fun hb h => ?_) (fun hb h => ?_)
              · refine wl_set (t := 101) (v := .bool true) (congrArg Value.bool hb) ?_; clear hb
                refine wl_on (t := 101) rfl (by decide) rfl ?_
                refine wl_val (at_move rfl) rfl ?_
                refine wl_on (t := 101) rfl (by decide) rfl ?_
                refine wl_val (at_not rfl) rfl ?_
                refine wl_val (at_pick_t rfl rfl) rfl ?_
                refine wl_val (at_move rfl) rfl ?_
                refine bif_ h (fun hb h => ?_) (fun hb h => ?_)
                · refine wl_set (t := 105) (v := .bool true) (congrArg Value.bool hb) ?_; clear hb
                  refine wl_on (t := 105) rfl (by decide) rfl ?_
                  refine wl_val (at_move rfl) rfl ?_
                  refine wl_on (t := 105) rfl (by decide) rfl ?_
                  refine wl_val (at_eql rfl rfl) rfl ?_
                  refine wl_val (at_pick_t rfl rfl) rfl ?_
                  refine wl_val (at_assign rfl) rfl ?_
                  refine wl_nil ?_
                  exact wk_prune [(6, .bool (x13.1 == 0))] ⟨rfl, trivial⟩ (fun f1 => hJ20 ((x13.1 == 0)) _ f1 h so)
                · refine wl_set (t := 105) (v := .bool false) (congrArg Value.bool hb) ?_; clear hb
                  refine wl_off (t := 105) rfl (by decide) rfl ?_
                  refine wl_off (t := 105) rfl (by decide) rfl ?_
                  refine wl_val (at_pick_f rfl rfl) rfl ?_
                  refine wl_val (at_assign rfl) rfl ?_
                  refine wl_nil ?_
                  exact wk_prune [(6, .bool false)] ⟨rfl, trivial⟩ (fun f1 => hJ20 (false) _ f1 h so)
              · refine wl_set (t := 101) (v := .bool false) (congrArg Value.bool hb) ?_; clear hb
                refine wl_off (t := 101) rfl (by decide) rfl ?_
                refine wl_off (t := 101) rfl (by decide) rfl ?_
                refine wl_val (at_pick_f rfl rfl) rfl ?_
                refine wl_val (at_move rfl) rfl ?_
                refine wl_off (t := 105) rfl (by decide) rfl ?_
                refine wl_off (t := 105) rfl (by decide) rfl ?_
                refine wl_val (at_pick_f rfl rfl) rfl ?_
                refine wl_val (at_assign rfl) rfl ?_
                refine wl_nil ?_
                exact wk_prune [(6, .bool false)] ⟨rfl, trivial⟩ (fun f1 => hJ20 (false) _ f1 h so)
          · refine wc_skip ?_
            refine wk_prune [(1, .int .u16 a1), (2, .int .i8 a2), (7, .bool x1), (15, .bool x13.2), (16, .int .u16 x15.1), (17, .int .i8 x15.2.1), (18, .bool x15.2.2)] ⟨rfl, rfl, rfl, rfl, rfl, rfl, rfl, trivial⟩ (fun f1 => ?_)
            refine wk_then ?_
            refine wc_seq ?_
            refine wc_region ?_
            refine wl_val (at_move rfl) rfl ?_
            refine wl_val (at_move rfl) rfl ?_
            refine bif_ h (fun hb h => ?_) (fun hb h => ?_)
            · refine wl_set (t := 110) (v := .bool true) (congrArg Value.bool hb) ?_; clear hb
              refine wl_on (t := 110) rfl (by decide) rfl ?_
              refine wl_val (at_move rfl) rfl ?_
              refine wl_val (at_pick_t rfl rfl) rfl ?_
              refine wl_val (at_move rfl) rfl ?_
              refine bif_ h (fun hb h => ?_) (fun hb h => ?_)
              · refine wl_set (t := 113) (v := .bool true) (congrArg Value.bool hb) ?_; clear hb
                refine wl_on (t := 113) rfl (by decide) rfl ?_
                refine wl_val (at_move rfl) rfl ?_
                refine wl_val (at_pick_t rfl rfl) rfl ?_
                refine wl_val (at_move rfl) rfl ?_
                refine bif_ h (fun hb h => ?_) (fun hb h => ?_)
                · refine wl_set (t := 116) (v := .bool true) (congrArg Value.bool hb) ?_; clear hb
                  refine wl_on (t := 116) rfl (by decide) rfl ?_
                  refine wl_val (at_move rfl) rfl ?_
                  refine wl_on (t := 116) rfl (by decide) rfl ?_
                  refine wl_val (at_move rfl) rfl ?_
                  refine wl_on (t := 116) rfl (by decide) rfl ?_
                  refine wl_val (at_eql rfl rfl) rfl ?_
                  refine wl_val (at_pick_t rfl rfl) rfl ?_
                  refine wl_val (at_move rfl) rfl ?_
                  refine bif_ h (fun hb h => ?_) (fun hb h => ?_)
                  · refine wl_set (t := 121) (v := .bool true) (congrArg Value.bool hb) ?_; clear hb
                    refine wl_on (t := 121) rfl (by decide) rfl ?_
                    refine wl_val (at_move rfl) rfl ?_
                    refine wl_on (t := 121) rfl (by decide) rfl ?_
                    refine wl_val (at_move rfl) rfl ?_
                    refine wl_on (t := 121) rfl (by decide) rfl ?_
                    refine wl_val (at_eql rfl rfl) rfl ?_
                    refine wl_val (at_pick_t rfl rfl) rfl ?_
                    refine wl_val (at_assign rfl) rfl ?_
                    refine wl_nil ?_
                    refine wk_prune [(6, .bool (x15.2.1 == a2))] ⟨rfl, trivial⟩ (fun f1 => ?_)
                    refine wk_then ?_
                    refine wc_ret ?_
                    exact wk_ret1 (x := (x15.2.1 == a2)) rfl (by decide) rfl so h
                  · refine wl_set (t := 121) (v := .bool false) (congrArg Value.bool hb) ?_; clear hb
                    refine wl_off (t := 121) rfl (by decide) rfl ?_
                    refine wl_off (t := 121) rfl (by decide) rfl ?_
                    refine wl_off (t := 121) rfl (by decide) rfl ?_
                    refine wl_val (at_pick_f rfl rfl) rfl ?_
                    refine wl_val (at_assign rfl) rfl ?_
                    refine wl_nil ?_
                    refine wk_prune [(6, .bool false)] ⟨rfl, trivial⟩ (fun f1 => ?_)
                    refine wk_then ?_
                    refine wc_ret ?_
                    exact wk_ret1 (x := false) rfl (by decide) rfl so h
                · refine wl_set (t := 116) (v := .bool false) (congrArg Value.bool hb) ?_; clear hb
                  refine wl_off (t := 116) rfl (by decide) rfl ?_
                  refine wl_off (t := 116) rfl (by decide) rfl ?_
                  refine wl_off (t := 116) rfl (by decide) rfl ?_
                  refine wl_val (at_pick_f rfl rfl) rfl ?_
                  refine wl_val (at_move rfl) rfl ?_
                  refine wl_off (t := 121) rfl (by decide) rfl ?_
                  refine wl_off (t := 121) rfl (by decide) rfl ?_
                  refine wl_off (t := 121) rfl (by decide) rfl ?_
                  refine wl_val (at_pick_f rfl rfl) rfl ?_
                  refine wl_val (at_assign rfl) rfl ?_
                  refine wl_nil ?_
                  refine wk_prune [(6, .bool false)] ⟨rfl, trivial⟩ (fun f1 => ?_)
                  refine wk_then ?_
                  refine wc_ret ?_
                  exact wk_ret1 (x := false) rfl (by decide) rfl so h
              · refine wl_set (t := 113) (v := .bool false) (congrArg Value.bool hb) ?_; clear hb
                refine wl_off (t := 113) rfl (by decide) rfl ?_
                refine wl_val (at_pick_f rfl rfl) rfl ?_
                refine wl_val (at_move rfl) rfl ?_
                refine wl_off (t := 116) rfl (by decide) rfl ?_
                refine wl_off (t := 116) rfl (by decide) rfl ?_
                refine wl_off (t := 116) rfl (by decide) rfl ?_
                refine wl_val (at_pick_f rfl rfl) rfl ?_
                refine wl_val (at_move rfl) rfl ?_
                refine wl_off (t := 121) rfl (by decide) rfl ?_
                refine wl_off (t := 121) rfl (by decide) rfl ?_
                refine wl_off (t := 121) rfl (by decide) rfl ?_
                refine wl_val (at_pick_f rfl rfl) rfl ?_
                refine wl_val (at_assign rfl) rfl ?_
                refine wl_nil ?_
                refine wk_prune [(6, .bool false)] ⟨rfl, trivial⟩ (fun f1 => ?_)
                refine wk_then ?_
                refine wc_ret ?_
                exact wk_ret1 (x := false) rfl (by decide) rfl so h
            · refine wl_set (t := 110) (v := .bool false) (congrArg Value.bool hb) ?_; clear hb
              refine wl_off (t := 110) rfl (by decide) rfl ?_
              refine wl_val (at_pick_f rfl rfl) rfl ?_
              refine wl_val (at_move rfl) rfl ?_
              refine wl_off (t := 113) rfl (by decide) rfl ?_
              refine wl_val (at_pick_f rfl rfl) rfl ?_
              refine wl_val (at_move rfl) rfl ?_
              refine wl_off (t := 116) rfl (by decide) rfl ?_
              refine wl_off (t := 116) rfl (by decide) rfl ?_
              refine wl_off (t := 116) rfl (by decide) rfl ?_
              refine wl_val (at_pick_f rfl rfl) rfl ?_
              refine wl_val (at_move rfl) rfl ?_
              refine wl_off (t := 121) rfl (by decide) rfl ?_
              refine wl_off (t := 121) rfl (by decide) rfl ?_
              refine wl_off (t := 121) rfl (by decide) rfl ?_
              refine wl_val (at_pick_f rfl rfl) rfl ?_
              refine wl_val (at_assign rfl) rfl ?_
              refine wl_nil ?_
              refine wk_prune [(6, .bool false)] ⟨rfl, trivial⟩ (fun f1 => ?_)
              refine wk_then ?_
              refine wc_ret ?_
              exact wk_ret1 (x := false) rfl (by decide) rfl so h
        · intro J17 h hJ17
          refine wc_region ?_
          refine wl_val (at_move rfl) rfl ?_
          refine wl_val (at_lss rfl rfl) rfl ?_
          refine wl_val (at_move rfl) rfl ?_
          refine bif_ h (fun hb h => ?_) (fun hb h => ?_)
          · refine wl_set (t := 85) (v := .bool true) (congrArg Value.bool hb) ?_; clear hb
            refine wl_off (t := 85) rfl (by decide) rfl ?_
            refine wl_off (t := 85) rfl (by decide) rfl ?_
            refine wl_val (at_pick_t rfl rfl) rfl ?_
            refine wl_val (at_move rfl) rfl ?_
            refine wl_off (t := 89) rfl (by decide) rfl ?_
            refine wl_off (t := 89) rfl (by decide) rfl ?_
            refine wl_off (t := 89) rfl (by decide) rfl ?_
            refine wl_off' (t := 92) rfl (by decide) rfl ?_
            refine wl_off' (t := 92) rfl (by decide) rfl ?_
            refine wl_off' (t := 92) rfl (by decide) rfl ?_
            refine wl_off' (t := 92) rfl (by decide) rfl ?_
            refine wl_off' (t := 92) rfl (by decide) rfl ?_
            refine wl_off (t := 89) rfl (by decide) rfl ?_
            refine wl_val (at_pick_t rfl rfl) rfl ?_
            refine wl_nil ?_
            exact wk_prune [(1, .int .u16 a1), (2, .int .i8 a2), (7, .bool x1), (14, .int .i64 x13.1), (15, .bool x13.2), (16, .int .u16 x15.1), (17, .int .i8 x15.2.1), (18, .bool x15.2.2), (99, .bool true)] ⟨rfl, rfl, rfl, rfl, rfl, rfl, rfl, rfl, rfl, trivial⟩ (fun f1 => hJ17 (true) _ f1 h so)
          · refine wl_set (t := 85) (v := .bool false) (congrArg Value.bool hb) ?_; clear hb
            refine wl_on (t := 85) rfl (by decide) rfl ?_
            refine wl_val (at_move rfl) rfl ?_
            refine wl_on (t := 85) rfl (by decide) rfl ?_
            refine wl_val (at_gtr rfl rfl) rfl ?_
            refine wl_val (at_pick_f rfl rfl) rfl ?_
            refine wl_val (at_move rfl) rfl ?_
            refine bif_ h (fun hb h => ?_) (fun hb h => ?_)
            · refine wl_set (t := 89) (v := .bool true) (congrArg Value.bool hb) ?_; clear hb
              refine wl_off (t := 89) rfl (by decide) rfl ?_
              refine wl_off (t := 89) rfl (by decide) rfl ?_
              refine wl_off (t := 89) rfl (by decide) rfl ?_
              refine wl_off' (t := 92) rfl (by decide) rfl ?_
              refine wl_off' (t := 92) rfl (by decide) rfl ?_
              refine wl_off' (t := 92) rfl (by decide) rfl ?_
              refine wl_off' (t := 92) rfl (by decide) rfl ?_
              refine wl_off' (t := 92) rfl (by decide) rfl ?_
              refine wl_off (t := 89) rfl (by decide) rfl ?_
              refine wl_val (at_pick_t rfl rfl) rfl ?_
              refine wl_nil ?_
              exact wk_prune [(1, .int .u16 a1), (2, .int .i8 a2), (7, .bool x1), (14, .int .i64 x13.1), (15, .bool x13.2), (16, .int .u16 x15.1), (17, .int .i8 x15.2.1), (18, .bool x15.2.2), (99, .bool true)] ⟨rfl, rfl, rfl, rfl, rfl, rfl, rfl, rfl, rfl, trivial⟩ (fun f1 => hJ17 (true) _ f1 h so)
            · refine wl_set (t := 89) (v := .bool false) (congrArg Value.bool hb) ?_; clear hb
              refine wl_on (t := 89) rfl (by decide) rfl ?_
              refine wl_val (at_move rfl) rfl ?_
              refine wl_on (t := 89) rfl (by decide) rfl ?_
              refine wl_val (at_lss rfl rfl) rfl ?_
              refine wl_on (t := 89) rfl (by decide) rfl ?_
              refine wl_val (at_move rfl) rfl ?_
              refine bif_ h (fun hb h => ?_) (fun hb h => ?_)
              · refine wl_set (t := 92) (v := .bool true) (congrArg Value.bool hb) ?_; clear hb
                refine wl_on (t := 92) rfl (by decide) rfl ?_
                refine wl_val (at_move rfl) rfl ?_
                refine wl_on (t := 92) rfl (by decide) rfl ?_
                refine wl_val (at_conv Try.underlying26 Try.underlying3 rfl) rfl ?_
                refine wl_on (t := 92) rfl (by decide) rfl ?_
                refine wl_val (at_move rfl) rfl ?_
                refine wl_on (t := 92) rfl (by decide) rfl ?_
                obtain ⟨q23, h⟩ := h
                refine wl_val (at_shr rfl rfl q23) rfl ?_
                refine wl_on (t := 92) rfl (by decide) rfl ?_
                refine wl_val (at_neq rfl rfl) rfl ?_
                refine wl_on (t := 89) rfl (by decide) rfl ?_
                refine wl_val (at_pick_t rfl rfl) rfl ?_
                refine wl_val (at_pick_f rfl rfl) rfl ?_
                refine wl_nil ?_
                exact wk_prune [(1, .int .u16 a1), (2, .int .i8 a2), (7, .bool x1), (14, .int .i64 x13.1), (15, .bool x13.2), (16, .int .u16 x15.1), (17, .int .i8 x15.2.1), (18, .bool x15.2.2), (99, .bool ((shrI .i64 (IntKind.wrap .i64 a1) a2) != 0))] ⟨rfl, rfl, rfl, rfl, rfl, rfl, rfl, rfl, rfl, trivial⟩ (fun f1 => hJ17 (((shrI .i64 (IntKind.wrap .i64 a1) a2) != 0)) _ f1 h so)
              · refine wl_set (t := 92) (v := .bool false) (congrArg Value.bool hb) ?_; clear hb
                refine wl_off (t := 92) rfl (by decide) rfl ?_
                refine wl_off (t := 92) rfl (by decide) rfl ?_
                refine wl_off (t := 92) rfl (by decide) rfl ?_
                refine wl_off (t := 92) rfl (by decide) rfl ?_
                refine wl_off (t := 92) rfl (by decide) rfl ?_
                refine wl_on (t := 89) rfl (by decide) rfl ?_
                refine wl_val (at_pick_f rfl rfl) rfl ?_
                refine wl_val (at_pick_f rfl rfl) rfl ?_
                refine wl_nil ?_
                exact wk_prune [(1, .int .u16 a1), (2, .int .i8 a2), (7, .bool x1), (14, .int .i64 x13.1), (15, .bool x13.2), (16, .int .u16 x15.1), (17, .int .i8 x15.2.1), (18, .bool x15.2.2), (99, .bool false)] ⟨rfl, rfl, rfl, rfl, rfl, rfl, rfl, rfl, rfl, trivial⟩ (fun f1 => hJ17 (false) _ f1 h so)
    · intro J10 h hJ10
      refine wc_region ?_
      refine wl_val (at_move rfl) rfl ?_
      refine wl_val (at_move rfl) rfl ?_
      refine wl_val (at_neqB Try.underlying4 rfl rfl) rfl ?_
      refine wl_val (at_move rfl) rfl ?_
      refine bif_ h (fun hb h => ?_) (fun hb h => ?_)
      · refine wl_set (t := 41) (v := .bool true) (congrArg Value.bool hb) ?_; clear hb
        refine wl_off (t := 41) rfl (by decide) rfl ?_
        refine wl_off (t := 41) rfl (by decide) rfl ?_
        refine wl_off' (t := 43) rfl (by decide) rfl ?_
        refine wl_off' (t := 43) rfl (by decide) rfl ?_
        refine wl_off' (t := 43) rfl (by decide) rfl ?_
        refine wl_off' (t := 46) rfl (by decide) rfl ?_
        refine wl_off' (t := 46) rfl (by decide) rfl ?_
        refine wl_off' (t := 46) rfl (by decide) rfl ?_
        refine wl_off' (t := 43) rfl (by decide) rfl ?_
        refine wl_off' (t := 43) rfl (by decide) rfl ?_
        refine wl_off' (t := 51) rfl (by decide) rfl ?_
        refine wl_off' (t := 51) rfl (by decide) rfl ?_
        refine wl_off' (t := 51) rfl (by decide) rfl ?_
        refine wl_off' (t := 51) rfl (by decide) rfl ?_
        refine wl_off' (t := 43) rfl (by decide) rfl ?_
        refine wl_off (t := 41) rfl (by decide) rfl ?_
        refine wl_val (at_pick_t rfl rfl) rfl ?_
        refine wl_val (at_move rfl) rfl ?_
        refine wl_off (t := 59) rfl (by decide) rfl ?_
        refine wl_off (t := 59) rfl (by decide) rfl ?_
        refine wl_off (t := 59) rfl (by decide) rfl ?_
        refine wl_off' (t := 62) rfl (by decide) rfl ?_
        refine wl_off' (t := 62) rfl (by decide) rfl ?_
        refine wl_off' (t := 62) rfl (by decide) rfl ?_
        refine wl_off' (t := 65) rfl (by decide) rfl ?_
        refine wl_off' (t := 65) rfl (by decide) rfl ?_
        refine wl_off' (t := 62) rfl (by decide) rfl ?_
        refine wl_off (t := 59) rfl (by decide) rfl ?_
        refine wl_val (at_pick_t rfl rfl) rfl ?_
        refine wl_nil ?_
        exact wk_prune [(1, .int .u16 a1), (2, .int .i8 a2), (7, .bool x1), (70, .bool true)] ⟨rfl, rfl, rfl, rfl, trivial⟩ (fun f1 => hJ10 (true) _ f1 h so)
      · refine wl_set (t := 41) (v := .bool false) (congrArg Value.bool hb) ?_; clear hb
        refine wl_on (t := 41) rfl (by decide) rfl ?_
        refine wl_val (at_move rfl) rfl ?_
        refine wl_on (t := 41) rfl (by decide) rfl ?_
        refine wl_val (at_move rfl) rfl ?_
        refine bif_ h (fun hb h => ?_) (fun hb h => ?_)
        · refine wl_set (t := 43) (v := .bool true) (congrArg Value.bool hb) ?_; clear hb
          refine wl_on (t := 43) rfl (by decide) rfl ?_
          refine wl_val (at_move rfl) rfl ?_
          refine wl_on (t := 43) rfl (by decide) rfl ?_
          refine wl_val (at_not rfl) rfl ?_
          refine wl_on (t := 43) rfl (by decide) rfl ?_
          refine wl_val (at_move rfl) rfl ?_
          refine bif_ h (fun hb h => ?_) (fun hb h => ?_)
          · refine wl_set (t := 46) (v := .bool true) (congrArg Value.bool hb) ?_; clear hb
            refine wl_off (t := 46) rfl (by decide) rfl ?_
            refine wl_off (t := 46) rfl (by decide) rfl ?_
            refine wl_off (t := 46) rfl (by decide) rfl ?_
            refine wl_on (t := 43) rfl (by decide) rfl ?_
            refine wl_val (at_pick_t rfl rfl) rfl ?_
            refine wl_on (t := 43) rfl (by decide) rfl ?_
            refine wl_val (at_move rfl) rfl ?_
            refine wl_off (t := 51) rfl (by decide) rfl ?_
            refine wl_off (t := 51) rfl (by decide) rfl ?_
            refine wl_off (t := 51) rfl (by decide) rfl ?_
            refine wl_off (t := 51) rfl (by decide) rfl ?_
            refine wl_on (t := 43) rfl (by decide) rfl ?_
            refine wl_val (at_pick_t rfl rfl) rfl ?_
            refine wl_on (t := 41) rfl (by decide) rfl ?_
            refine wl_val (at_pick_t rfl rfl) rfl ?_
            refine wl_val (at_pick_f rfl rfl) rfl ?_
            refine wl_val (at_move rfl) rfl ?_
            refine wl_off (t := 59) rfl (by decide) rfl ?_
            refine wl_off (t := 59) rfl (by decide) rfl ?_
            refine wl_off (t := 59) rfl (by decide) rfl ?_
            refine wl_off' (t := 62) rfl (by decide) rfl ?_
            refine wl_off' (t := 62) rfl (by decide) rfl ?_
            refine wl_off' (t := 62) rfl (by decide) rfl ?_
            refine wl_off' (t := 65) rfl (by decide) rfl ?_
            refine wl_off' (t := 65) rfl (by decide) rfl ?_
            refine wl_off' (t := 62) rfl (by decide) rfl ?_
            refine wl_off (t := 59) rfl (by decide) rfl ?_
            refine wl_val (at_pick_t rfl rfl) rfl ?_
            refine wl_nil ?_
            exact wk_prune [(1, .int .u16 a1), (2, .int .i8 a2), (7, .bool x1), (70, .bool true)] ⟨rfl, rfl, rfl, rfl, trivial⟩ (fun f1 => hJ10 (true) _ f1 h so)
          · refine wl_set (t := 46) (v := .bool false) (congrArg Value.bool hb) ?_; clear hb
            refine wl_on (t := 46) rfl (by decide) rfl ?_
            refine wl_val (at_move rfl) rfl ?_
            refine wl_on (t := 46) rfl (by decide) rfl ?_
            refine wl_val (at_move rfl) rfl ?_
            refine wl_on (t := 46) rfl (by decide) rfl ?_
            refine wl_val (at_neq rfl rfl) rfl ?_
            refine wl_on (t := 43) rfl (by decide) rfl ?_
            refine wl_val (at_pick_f rfl rfl) rfl ?_
            refine wl_on (t := 43) rfl (by decide) rfl ?_
            refine wl_val (at_move rfl) rfl ?_
            refine bif_ h (fun hb h => ?_) (fun hb h => ?_)
            · refine wl_set (t := 51) (v := .bool true) (congrArg Value.bool hb) ?_; clear hb
              refine wl_off (t := 51) rfl (by decide) rfl ?_
              refine wl_off (t := 51) rfl (by decide) rfl ?_
              refine wl_off (t := 51) rfl (by decide) rfl ?_
              refine wl_off (t := 51) rfl (by decide) rfl ?_
              refine wl_on (t := 43) rfl (by decide) rfl ?_
              refine wl_val (at_pick_t rfl rfl) rfl ?_
              refine wl_on (t := 41) rfl (by decide) rfl ?_
              refine wl_val (at_pick_t rfl rfl) rfl ?_
              refine wl_val (at_pick_f rfl rfl) rfl ?_
              refine wl_val (at_move rfl) rfl ?_
              refine wl_off (t := 59) rfl (by decide) rfl ?_
              refine wl_off (t := 59) rfl (by decide) rfl ?_
              refine wl_off (t := 59) rfl (by decide) rfl ?_
              refine wl_off' (t := 62) rfl (by decide) rfl ?_
              refine wl_off' (t := 62) rfl (by decide) rfl ?_
              refine wl_off' (t := 62) rfl (by decide) rfl ?_
              refine wl_off' (t := 65) rfl (by decide) rfl ?_
              refine wl_off' (t := 65) rfl (by decide) rfl ?_
              refine wl_off' (t := 62) rfl (by decide) rfl ?_
              refine wl_off (t := 59) rfl (by decide) rfl ?_
              refine wl_val (at_pick_t rfl rfl) rfl ?_
              refine wl_nil ?_
              exact wk_prune [(1, .int .u16 a1), (2, .int .i8 a2), (7, .bool x1), (70, .bool true)] ⟨rfl, rfl, rfl, rfl, trivial⟩ (fun f1 => hJ10 (true) _ f1 h so)
            · refine wl_set (t := 51) (v := .bool false) (congrArg Value.bool hb) ?_; clear hb
              refine wl_on (t := 51) rfl (by decide) rfl ?_
              refine wl_val (at_move rfl) rfl ?_
              refine wl_on (t := 51) rfl (by decide) rfl ?_
              refine wl_val (at_move rfl) rfl ?_
              refine wl_on (t := 51) rfl (by decide) rfl ?_
              refine wl_callF (magnitude_Size.calls _ _ _ h) enter15 rfl trivial so ?_; intro x24 w25 h so
              refine wl_on (t := 51) rfl (by decide) rfl ?_
              refine wl_val (at_neq rfl rfl) rfl ?_
              refine wl_on (t := 43) rfl (by decide) rfl ?_
              refine wl_val (at_pick_f rfl rfl) rfl ?_
              refine wl_on (t := 41) rfl (by decide) rfl ?_
              refine wl_val (at_pick_t rfl rfl) rfl ?_
              refine wl_val (at_pick_f rfl rfl) rfl ?_
              refine wl_val (at_move rfl) rfl ?_
              refine bif_ h (fun hb h => ?_) (fun hb h => ?_)
              · refine wl_set (t := 59) (v := .bool true) (congrArg Value.bool hb) ?_; clear hb
                refine wl_off (t := 59) rfl (by decide) rfl ?_
                refine wl_off (t := 59) rfl (by decide) rfl ?_
                refine wl_off (t := 59) rfl (by decide) rfl ?_
                refine wl_off' (t := 62) rfl (by decide) rfl ?_
                refine wl_off' (t := 62) rfl (by decide) rfl ?_
                refine wl_off' (t := 62) rfl (by decide) rfl ?_
                refine wl_off' (t := 65) rfl (by decide) rfl ?_
                refine wl_off' (t := 65) rfl (by decide) rfl ?_
                refine wl_off' (t := 62) rfl (by decide) rfl ?_
                refine wl_off (t := 59) rfl (by decide) rfl ?_
                refine wl_val (at_pick_t rfl rfl) rfl ?_
                refine wl_nil ?_
                exact wk_prune [(1, .int .u16 a1), (2, .int .i8 a2), (7, .bool x1), (70, .bool true)] ⟨rfl, rfl, rfl, rfl, trivial⟩ (fun f1 => hJ10 (true) _ f1 h so)
              · refine wl_set (t := 59) (v := .bool false) (congrArg Value.bool hb) ?_; clear hb
                refine wl_on (t := 59) rfl (by decide) rfl ?_
                refine wl_val (at_move rfl) rfl ?_
                refine wl_on (t := 59) rfl (by decide) rfl ?_
                refine wl_val (at_not rfl) rfl ?_
                refine wl_on (t := 59) rfl (by decide) rfl ?_
                refine wl_val (at_move rfl) rfl ?_
                refine bif_ h (fun hb h => ?_) (fun hb h => ?_)
                · refine wl_set (t := 62) (v := .bool true) (congrArg Value.bool hb) ?_; clear hb
                  refine wl_on (t := 62) rfl (by decide) rfl ?_
                  refine wl_val (at_move rfl) rfl ?_
                  refine wl_on (t := 62) rfl (by decide) rfl ?_
                  refine wl_val (at_neq rfl rfl) rfl ?_
                  refine wl_on (t := 62) rfl (by decide) rfl ?_
                  refine wl_val (at_move rfl) rfl ?_
                  refine bif_ h (fun hb h => ?_) (fun hb h => ?_)
                  · refine wl_set (t := 65) (v := .bool true) (congrArg Value.bool hb) ?_; clear hb
                    refine wl_off (t := 65) rfl (by decide) rfl ?_
                    refine wl_off (t := 65) rfl (by decide) rfl ?_
                    refine wl_on (t := 62) rfl (by decide) rfl ?_
                    refine wl_val (at_pick_t rfl rfl) rfl ?_
                    refine wl_on (t := 59) rfl (by decide) rfl ?_
                    refine wl_val (at_pick_t rfl rfl) rfl ?_
                    refine wl_val (at_pick_f rfl rfl) rfl ?_
                    refine wl_nil ?_
                    exact wk_prune [(1, .int .u16 a1), (2, .int .i8 a2), (7, .bool x1), (70, .bool true)] ⟨rfl, rfl, rfl, rfl, trivial⟩ (fun f1 => hJ10 (true) _ f1 h so)
                  · refine wl_set (t := 65) (v := .bool false) (congrArg Value.bool hb) ?_; clear hb
                    refine wl_on (t := 65) rfl (by decide) rfl ?_
                    refine wl_val (at_move rfl) rfl ?_
                    refine wl_on (t := 65) rfl (by decide) rfl ?_
                    refine wl_val (at_neq rfl rfl) rfl ?_
                    refine wl_on (t := 62) rfl (by decide) rfl ?_
                    refine wl_val (at_pick_f rfl rfl) rfl ?_
                    refine wl_on (t := 59) rfl (by decide) rfl ?_
                    refine wl_val (at_pick_t rfl rfl) rfl ?_
                    refine wl_val (at_pick_f rfl rfl) rfl ?_
                    refine wl_nil ?_
                    exact wk_prune [(1, .int .u16 a1), (2, .int .i8 a2), (7, .bool x1), (70, .bool (x3.2.1 != 0))] ⟨rfl, rfl, rfl, rfl, trivial⟩ (fun f1 => hJ10 ((x3.2.1 != 0)) _ f1 h so)
                · refine wl_set (t := 62) (v := .bool false) (congrArg Value.bool hb) ?_; clear hb
                  refine wl_off (t := 62) rfl (by decide) rfl ?_
                  refine wl_off (t := 62) rfl (by decide) rfl ?_
                  refine wl_off (t := 62) rfl (by decide) rfl ?_
                  refine wl_off' (t := 65) rfl (by decide) rfl ?_
                  refine wl_off' (t := 65) rfl (by decide) rfl ?_
                  refine wl_off (t := 62) rfl (by decide) rfl ?_
                  refine wl_on (t := 59) rfl (by decide) rfl ?_
                  refine wl_val (at_pick_f rfl rfl) rfl ?_
                  refine wl_val (at_pick_f rfl rfl) rfl ?_
                  refine wl_nil ?_
                  exact wk_prune [(1, .int .u16 a1), (2, .int .i8 a2), (7, .bool x1), (70, .bool false)] ⟨rfl, rfl, rfl, rfl, trivial⟩ (fun f1 => hJ10 (false) _ f1 h so)
        · refine wl_set (t := 43) (v := .bool false) (congrArg Value.bool hb) ?_; clear hb
          refine wl_off (t := 43) rfl (by decide) rfl ?_
          refine wl_off (t := 43) rfl (by decide) rfl ?_
          refine wl_off (t := 43) rfl (by decide) rfl ?_
          refine wl_off' (t := 46) rfl (by decide) rfl ?_
          refine wl_off' (t := 46) rfl (by decide) rfl ?_
          refine wl_off' (t := 46) rfl (by decide) rfl ?_
          refine wl_off (t := 43) rfl (by decide) rfl ?_
          refine wl_off (t := 43) rfl (by decide) rfl ?_
          refine wl_off' (t := 51) rfl (by decide) rfl ?_
          refine wl_off' (t := 51) rfl (by decide) rfl ?_
          refine wl_off' (t := 51) rfl (by decide) rfl ?_
          refine wl_off' (t := 51) rfl (by decide) rfl ?_
          refine wl_off (t := 43) rfl (by decide) rfl ?_
          refine wl_on (t := 41) rfl (by decide) rfl ?_
          refine wl_val (at_pick_f rfl rfl) rfl ?_
          refine wl_val (at_pick_f rfl rfl) rfl ?_
          refine wl_val (at_move rfl) rfl ?_
          refine wl_on (t := 59) rfl (by decide) rfl ?_
          refine wl_val (at_move rfl) rfl ?_
          refine wl_on (t := 59) rfl (by decide) rfl ?_
          refine wl_val (at_not rfl) rfl ?_
          refine wl_on (t := 59) rfl (by decide) rfl ?_
          refine wl_val (at_move rfl) rfl ?_
          refine bif_ h (fun hb h => ?_) (fun hb h => ?_)
          · refine wl_set (t := 62) (v := .bool true) (congrArg Value.bool hb) ?_; clear hb
            refine wl_on (t := 62) rfl (by decide) rfl ?_
            refine wl_val (at_move rfl) rfl ?_
            refine wl_on (t := 62) rfl (by decide) rfl ?_
            refine wl_val (at_neq rfl rfl) rfl ?_
            refine wl_on (t := 62) rfl (by decide) rfl ?_
            refine wl_val (at_move rfl) rfl ?_
            refine bif_ h (fun hb h => ?_) (fun hb h => ?_)
            · refine wl_set (t := 65) (v := .bool true) (congrArg Value.bool hb) ?_; clear hb
              refine wl_off (t := 65) rfl (by decide) rfl ?_
              refine wl_off (t := 65) rfl (by decide) rfl ?_
              refine wl_on (t := 62) rfl (by decide) rfl ?_
              refine wl_val (at_pick_t rfl rfl) rfl ?_
              refine wl_on (t := 59) rfl (by decide) rfl ?_
              refine wl_val (at_pick_t rfl rfl) rfl ?_
              refine wl_val (at_pick_f rfl rfl) rfl ?_
              refine wl_nil ?_
              exact wk_prune [(1, .int .u16 a1), (2, .int .i8 a2), (7, .bool x1), (70, .bool true)] ⟨rfl, rfl, rfl, rfl, trivial⟩ (fun f1 => hJ10 (true) _ f1 h so)
            · refine wl_set (t := 65) (v := .bool false) (congrArg Value.bool hb) ?_; clear hb
              refine wl_on (t := 65) rfl (by decide) rfl ?_
              refine wl_val (at_move rfl) rfl ?_
              refine wl_on (t := 65) rfl (by decide) rfl ?_
              refine wl_val (at_neq rfl rfl) rfl ?_
              refine wl_on (t := 62) rfl (by decide) rfl ?_
              refine wl_val (at_pick_f rfl rfl) rfl ?_
              refine wl_on (t := 59) rfl (by decide) rfl ?_
              refine wl_val (at_pick_t rfl rfl) rfl ?_
              refine wl_val (at_pick_f rfl rfl) rfl ?_
              refine wl_nil ?_
              exact wk_prune [(1, .int .u16 a1), (2, .int .i8 a2), (7, .bool x1), (70, .bool (x3.2.1 != 0))] ⟨rfl, rfl, rfl, rfl, trivial⟩ (fun f1 => hJ10 ((x3.2.1 != 0)) _ f1 h so)
          · refine wl_set (t := 62) (v := .bool false) (congrArg Value.bool hb) ?_; clear hb
            refine wl_off (t := 62) rfl (by decide) rfl ?_
            refine wl_off (t := 62) rfl (by decide) rfl ?_
            refine wl_off (t := 62) rfl (by decide) rfl ?_
            refine wl_off' (t := 65) rfl (by decide) rfl ?_
            refine wl_off' (t := 65) rfl (by decide) rfl ?_
            refine wl_off (t := 62) rfl (by decide) rfl ?_
            refine wl_on (t := 59) rfl (by decide) rfl ?_
            refine wl_val (at_pick_f rfl rfl) rfl ?_
            refine wl_val (at_pick_f rfl rfl) rfl ?_
            refine wl_nil ?_
            exact wk_prune [(1, .int .u16 a1), (2, .int .i8 a2), (7, .bool x1), (70, .bool false)] ⟨rfl, rfl, rfl, rfl, trivial⟩ (fun f1 => hJ10 (false) _ f1 h so)
  · intro J7 h hJ7
    refine wc_region ?_
    refine wl_val (at_move rfl) rfl ?_
    refine wl_val (at_gtr rfl rfl) rfl ?_
    refine wl_val (at_move rfl) rfl ?_
    refine bif_ h (fun hb h => ?_) (fun hb h => ?_)
    · refine wl_set (t := 34) (v := .bool true) (congrArg Value.bool hb) ?_; clear hb
      refine wl_on (t := 34) rfl (by decide) rfl ?_
      refine wl_val (at_move rfl) rfl ?_
      refine wl_on (t := 34) rfl (by decide) rfl ?_
      refine wl_val (at_lss rfl rfl) rfl ?_
      refine wl_val (at_pick_t rfl rfl) rfl ?_
      refine wl_val (at_assign rfl) rfl ?_
      refine wl_nil ?_
      exact wk_prune [(0, .int .i64 a0), (1, .int .u16 a1), (2, .int .i8 a2), (7, .bool x1), (8, .int .u16 x3.1), (9, .int .i8 x3.2.1), (10, .bool x3.2.2), (11, .int .i64 x5.1), (12, .bool x5.2), (13, .bool (decide (a0 < 65536)))] ⟨rfl, rfl, rfl, rfl, rfl, rfl, rfl, rfl, rfl, rfl, trivial⟩ (fun f1 => hJ7 ((decide (a0 < 65536))) _ f1 h so)
    · refine wl_set (t := 34) (v := .bool false) (congrArg Value.bool hb) ?_; clear hb
      refine wl_off (t := 34) rfl (by decide) rfl ?_
      refine wl_off (t := 34) rfl (by decide) rfl ?_
      refine wl_val (at_pick_f rfl rfl) rfl ?_
      refine wl_val (at_assign rfl) rfl ?_
      refine wl_nil ?_
      exact wk_prune [(0, .int .i64 a0), (1, .int .u16 a1), (2, .int .i8 a2), (7, .bool x1), (8, .int .u16 x3.1), (9, .int .i8 x3.2.1), (10, .bool x3.2.2), (11, .int .i64 x5.1), (12, .bool x5.2), (13, .bool false)] ⟨rfl, rfl, rfl, rfl, rfl, rfl, rfl, rfl, rfl, rfl, trivial⟩ (fun f1 => hJ7 (false) _ f1 h so)

/-- mosaic/mosaiclaw06.MagnitudeOrder -/
def mosaiclaw06_MagnitudeOrder.enc : Bool → Value := fun r => .bool r
def mosaiclaw06_MagnitudeOrder.s (a0 : Int) (a1 : Int) (H0 : Hp) (Q : Bool → Hp → Prop) : Prop :=
  mosaiclaw06_awake.s H0 (fun x1 H2 => magnitude_Bits.s a0 H2 (fun x3 H4 => magnitude_Bits.s a1 H4 (fun x5 H6 => Join (fun (s8 : Bool) (H9 : Hp) => if s8 = true then (Q x1 H9) else (if (x3.2.1 != x5.2.1) = true then (Join (fun (s11 : Bool) (H12 : Hp) => Q s11 H12) (fun (J10 : Bool → Hp → Prop) => if x1 = true then (J10 ((decide ((IntKind.wrap .i64 (a0 * a0)) < (IntKind.wrap .i64 (a1 * a1))) == decide (x3.2.1 < x5.2.1))) H9) else (J10 (false) H9))) else (Join (fun (s14 : Bool) (H15 : Hp) => if s14 = true then (Q false H15) else (if x1 = true then (Q (decide (a0 < a1) == decide (x3.1 < x5.1)) H15) else (Q false H15))) (fun (J13 : Bool → Hp → Prop) => if decide ((0 : Int) < x3.2.1) = true then (0 ≤ (IntKind.wrap .i8 (x3.2.1 - 1)) ∧ (J13 ((!(decide ((0 : Int) < a0) == ((shrI .i64 (IntKind.wrap .i64 x3.1) (IntKind.wrap .i8 (x3.2.1 - 1))) == 1)))) H9)) else (J13 (false) H9))))) (fun (J7 : Bool → Hp → Prop) => if (!x3.2.2) = true then (J7 (true) H6) else (J7 ((!x5.2.2)) H6)))))
set_option maxRecDepth 20000 in
set_option maxHeartbeats 4000000 in
theorem mosaiclaw06_MagnitudeOrder.calls (a0 : Int) (a1 : Int) (w0 : World) (Q : Bool → Hp → Prop) (h : mosaiclaw06_MagnitudeOrder.s a0 a1 w0.heap Q) :
    Ca Try.prog 7 #[.int .i64 a0, .int .i64 a1] w0 (Rt mosaiclaw06_MagnitudeOrder.enc Q w0) := by
  refine ca_start (c := _) Try.func7 rfl Try.ntmps7 rfl ?_
  have so : Sm w0 w0 := Sm.refl w0
  unfold mosaiclaw06_MagnitudeOrder.s at h
  refine wc_prune [(0, .int .i64 a0), (1, .int .i64 a1)] ⟨rfl, rfl, trivial⟩ (fun f1 => ?_)
  refine wc_seq ?_
  refine wc_region ?_
  refine wl_val (at_assign rfl) rfl ?_
  refine wl_nil ?_
  refine wk_prune [(0, .int .i64 a0), (1, .int .i64 a1)] ⟨rfl, rfl, trivial⟩ (fun f1 => ?_)
  refine wk_then ?_
  refine wc_seq ?_
  refine wc_region ?_
  refine wl_callF (mosaiclaw06_awake.calls _ _ h) enter17 rfl trivial so ?_; intro x1 w2 h so
  refine wl_val (at_assign rfl) rfl ?_
  refine wl_nil ?_
  refine wk_prune [(0, .int .i64 a0), (1, .int .i64 a1), (5, .bool x1)] ⟨rfl, rfl, rfl, trivial⟩ (fun f1 => ?_)
  refine wk_then ?_
  refine wc_seq ?_
  refine wc_region ?_
  refine wl_val (at_move rfl) rfl ?_
  refine wl_callF (magnitude_Bits.calls _ _ _ h) enter13 rfl trivial so ?_; intro x3 w4 h so
  refine wl_val (at_move rfl) rfl ?_
  refine wl_val (at_extract rfl rfl) rfl ?_
  refine wl_val (at_extract rfl rfl) rfl ?_
  refine wl_val (at_extract rfl rfl) rfl ?_
  refine wl_val (at_assign rfl) rfl ?_
  refine wl_val (at_assign rfl) rfl ?_
  refine wl_val (at_assign rfl) rfl ?_
  refine wl_nil ?_
  refine wk_prune [(0, .int .i64 a0), (1, .int .i64 a1), (5, .bool x1), (6, .int .u16 x3.1), (7, .int .i8 x3.2.1), (8, .bool x3.2.2)] ⟨rfl, rfl, rfl, rfl, rfl, rfl, trivial⟩ (fun f1 => ?_)
  refine wk_then ?_
  refine wc_seq ?_
  refine wc_region ?_
  refine wl_val (at_move rfl) rfl ?_
  refine wl_callF (magnitude_Bits.calls _ _ _ h) enter13 rfl trivial so ?_; intro x5 w6 h so
  refine wl_val (at_move rfl) rfl ?_
  refine wl_val (at_extract rfl rfl) rfl ?_
  refine wl_val (at_extract rfl rfl) rfl ?_
  refine wl_val (at_extract rfl rfl) rfl ?_
  refine wl_val (at_assign rfl) rfl ?_
  refine wl_val (at_assign rfl) rfl ?_
  refine wl_val (at_assign rfl) rfl ?_
  refine wl_nil ?_
  refine wk_prune [(0, .int .i64 a0), (1, .int .i64 a1), (5, .bool x1), (6, .int .u16 x3.1), (7, .int .i8 x3.2.1), (8, .bool x3.2.2), (9, .int .u16 x5.1), (10, .int .i8 x5.2.1), (11, .bool x5.2.2)] ⟨rfl, rfl, rfl, rfl, rfl, rfl, rfl, rfl, rfl, trivial⟩ (fun f1 => ?_)
  refine wk_then ?_
  refine wc_seq ?_
  refine wc_seq ?_
  refine wc_join (w0 := w0) (fun (s8 : Bool) => [(0, .int .i64 a0), (1, .int .i64 a1), (5, .bool x1), (6, .int .u16 x3.1), (7, .int .i8 x3.2.1), (9, .int .u16 x5.1), (10, .int .i8 x5.2.1), (31, .bool s8)]) h ?_ ?_
  · intro s8 w9 f1 h so; refine wk_then ?_
    refine wc_cond rfl h (fun h => ?_) (fun h => ?_)
    · refine wc_seq ?_
      refine wc_region ?_
      refine wl_val (at_move rfl) rfl ?_
      refine wl_val (at_assign rfl) rfl ?_
      refine wl_nil ?_
      refine wk_prune [(4, .bool x1)] ⟨rfl, trivial⟩ (fun f1 => ?_)
      refine wk_then ?_
      refine wc_ret ?_
      refine wk_thenR ?_
      exact wk_ret1 (x := x1) rfl (by decide) rfl so h
    · refine wc_skip ?_
      refine wk_prune [(0, .int .i64 a0), (1, .int .i64 a1), (5, .bool x1), (6, .int .u16 x3.1), (7, .int .i8 x3.2.1), (9, .int .u16 x5.1), (10, .int .i8 x5.2.1)] ⟨rfl, rfl, rfl, rfl, rfl, rfl, rfl, trivial⟩ (fun f1 => ?_)
      refine wk_then ?_
      refine wc_seq ?_
      refine wc_region ?_
      refine wl_val (at_move rfl) rfl ?_
      refine wl_val (at_move rfl) rfl ?_
      refine wl_val (at_mul rfl rfl) rfl ?_
      refine wl_val (at_move rfl) rfl ?_
      refine wl_val (at_move rfl) rfl ?_
      refine wl_val (at_mul rfl rfl) rfl ?_
      refine wl_val (at_lss rfl rfl) rfl ?_
      refine wl_val (at_assign rfl) rfl ?_
      refine wl_nil ?_
      refine wk_prune [(0, .int .i64 a0), (1, .int .i64 a1), (5, .bool x1), (6, .int .u16 x3.1), (7, .int .i8 x3.2.1), (9, .int .u16 x5.1), (10, .int .i8 x5.2.1), (12, .bool (decide ((IntKind.wrap .i64 (a0 * a0)) < (IntKind.wrap .i64 (a1 * a1)))))] ⟨rfl, rfl, rfl, rfl, rfl, rfl, rfl, rfl, trivial⟩ (fun f1 => ?_)
      refine wk_then ?_
      refine wc_seq ?_
      refine wc_seq ?_
      refine wc_region ?_
      refine wl_val (at_move rfl) rfl ?_
      refine wl_val (at_move rfl) rfl ?_
      refine wl_val (at_neq rfl rfl) rfl ?_
      refine wl_nil ?_
      refine wk_prune [(0, .int .i64 a0), (1, .int .i64 a1), (5, .bool x1), (6, .int .u16 x3.1), (7, .int .i8 x3.2.1), (9, .int .u16 x5.1), (10, .int .i8 x5.2.1), (12, .bool (decide ((IntKind.wrap .i64 (a0 * a0)) < (IntKind.wrap .i64 (a1 * a1))))), (42, .bool (x3.2.1 != x5.2.1))] ⟨rfl, rfl, rfl, rfl, rfl, rfl, rfl, rfl, rfl, trivial⟩ (fun f1 => ?_)
      refine wk_then ?_
      refine wc_cond rfl h (fun h => ?_) (fun h => ?_)
      · refine wc_seq ?_
        refine wc_join (w0 := w0) (fun (s11 : Bool) => [(4, .bool s11)]) h ?_ ?_
        · intro s11 w12 f1 h so; refine wk_then ?_
          refine wc_ret ?_
          refine wk_thenR ?_
          exact wk_ret1 (x := s11) rfl (by decide) rfl so h
        · intro J10 h hJ10
          refine wc_region ?_
          refine wl_val (at_move rfl) rfl ?_
          refine wl_val (at_move rfl) rfl ?_
          refine bif_ h (fun hb h => ?_) (fun hb h => ?_)
          · refine wl_set (t := 44) (v := .bool true) (congrArg Value.bool hb) ?_; clear hb
            refine wl_on (t := 44) rfl (by decide) rfl ?_
            refine wl_val (at_move rfl) rfl ?_
            refine wl_on (t := 44) rfl (by decide) rfl ?_
            refine wl_val (at_move rfl) rfl ?_
            refine wl_on (t := 44) rfl (by decide) rfl ?_
            refine wl_val (at_move rfl) rfl ?_
            refine wl_on (t := 44) rfl (by decide) rfl ?_
            refine wl_val (at_lss rfl rfl) rfl ?_
            refine wl_on (t := 44) rfl (by decide) rfl ?_
            refine wl_val (at_eqlB Try.underlying4 rfl rfl) rfl ?_
            refine wl_val (at_pick_t rfl rfl) rfl ?_
            refine wl_val (at_assign rfl) rfl ?_
            refine wl_nil ?_
            exact wk_prune [(4, .bool (decide ((IntKind.wrap .i64 (a0 * a0)) < (IntKind.wrap .i64 (a1 * a1))) == decide (x3.2.1 < x5.2.1)))] ⟨rfl, trivial⟩ (fun f1 => hJ10 ((decide ((IntKind.wrap .i64 (a0 * a0)) < (IntKind.wrap .i64 (a1 * a1))) == decide (x3.2.1 < x5.2.1))) _ f1 h so)
          · refine wl_set (t := 44) (v := .bool false) (congrArg Value.bool hb) ?_; clear hb
            refine wl_off (t := 44) rfl (by decide) rfl ?_
            refine wl_off (t := 44) rfl (by decide) rfl ?_
            refine wl_off (t := 44) rfl (by decide) rfl ?_
            refine wl_off (t := 44) rfl (by decide) rfl ?_
            refine wl_off (t := 44) rfl (by decide) rfl ?_
            refine wl_val (at_pick_f rfl rfl) rfl ?_
            refine wl_val (at_assign rfl) rfl ?_
            refine wl_nil ?_
            exact wk_prune [(4, .bool false)] ⟨rfl, trivial⟩ (fun f1 => hJ10 (false) _ f1 h so)
      · refine wc_skip ?_
        refine wk_prune [(0, .int .i64 a0), (1, .int .i64 a1), (5, .bool x1), (6, .int .u16 x3.1), (7, .int .i8 x3.2.1), (9, .int .u16 x5.1)] ⟨rfl, rfl, rfl, rfl, rfl, rfl, trivial⟩ (fun f1 => ?_)
        refine wk_then ?_
        refine wc_seq ?_
        refine wc_seq ?_
        refine wc_join (w0 := w0) (fun (s14 : Bool) => [(0, .int .i64 a0), (1, .int .i64 a1), (5, .bool x1), (6, .int .u16 x3.1), (9, .int .u16 x5.1), (63, .bool s14)]) h ?_ ?_
        · intro s14 w15 f1 h so; refine wk_then ?_
          refine wc_cond rfl h (fun h => ?_) (fun h => ?_)
          · refine wc_seq ?_
            refine wc_region ?_
            refine wl_val (at_assign rfl) rfl ?_
            refine wl_nil ?_
            refine wk_prune [(4, .bool false)] ⟨rfl, trivial⟩ (fun f1 => ?_)
            refine wk_then ?_
            refine wc_ret ?_
            refine wk_thenR ?_
            exact wk_ret1 (x := false) rfl (by decide) rfl so h
          · refine wc_skip ?_
            refine wk_prune [(0, .int .i64 a0), (1, .int .i64 a1), (5, .bool x1), (6, .int .u16 x3.1), (9, .int .u16 x5.1)] ⟨rfl, rfl, rfl, rfl, rfl, trivial⟩ (fun f1 => ?_)
            refine wk_then ?_
            refine wc_seq ?_
            refine wc_region ?_
            refine wl_val (at_move rfl) rfl ?_
            refine wl_val (at_move rfl) rfl ?_
            refine bif_ h (fun hb h => ?_) (fun hb h => ?_)
            · refine wl_set (t := 65) (v := .bool true) (congrArg Value.bool hb) ?_; clear hb
              refine wl_on (t := 65) rfl (by decide) rfl ?_
              refine wl_val (at_move rfl) rfl ?_
              refine wl_on (t := 65) rfl (by decide) rfl ?_
              refine wl_val (at_move rfl) rfl ?_
              refine wl_on (t := 65) rfl (by decide) rfl ?_
              refine wl_val (at_lss rfl rfl) rfl ?_
              refine wl_on (t := 65) rfl (by decide) rfl ?_
              refine wl_val (at_move rfl) rfl ?_
              refine wl_on (t := 65) rfl (by decide) rfl ?_
              refine wl_val (at_move rfl) rfl ?_
              refine wl_on (t := 65) rfl (by decide) rfl ?_
              refine wl_val (at_lss rfl rfl) rfl ?_
              refine wl_on (t := 65) rfl (by decide) rfl ?_
              refine wl_val (at_eqlB Try.underlying4 rfl rfl) rfl ?_
              refine wl_val (at_pick_t rfl rfl) rfl ?_
              refine wl_val (at_assign rfl) rfl ?_
              refine wl_nil ?_
              refine wk_prune [(4, .bool (decide (a0 < a1) == decide (x3.1 < x5.1)))] ⟨rfl, trivial⟩ (fun f1 => ?_)
              refine wk_then ?_
              refine wc_ret ?_
              exact wk_ret1 (x := (decide (a0 < a1) == decide (x3.1 < x5.1))) rfl (by decide) rfl so h
            · refine wl_set (t := 65) (v := .bool false) (congrArg Value.bool hb) ?_; clear hb
              refine wl_off (t := 65) rfl (by decide) rfl ?_
              refine wl_off (t := 65) rfl (by decide) rfl ?_
              refine wl_off (t := 65) rfl (by decide) rfl ?_
              refine wl_off (t := 65) rfl (by decide) rfl ?_
              refine wl_off (t := 65) rfl (by decide) rfl ?_
              refine wl_off (t := 65) rfl (by decide) rfl ?_
              refine wl_off (t := 65) rfl (by decide) rfl ?_
              refine wl_val (at_pick_f rfl rfl) rfl ?_
              refine wl_val (at_assign rfl) rfl ?_
              refine wl_nil ?_
              refine wk_prune [(4, .bool false)] ⟨rfl, trivial⟩ (fun f1 => ?_)
              refine wk_then ?_
              refine wc_ret ?_
              exact wk_ret1 (x := false) rfl (by decide) rfl so h
        · intro J13 h hJ13
          refine wc_region ?_
          refine wl_val (at_move rfl) rfl ?_
          refine wl_val (at_gtr rfl rfl) rfl ?_
          refine wl_val (at_move rfl) rfl ?_
          refine bif_ h (fun hb h => ?_) (fun hb h => ?_)
          · refine wl_set (t := 53) (v := .bool true) (congrArg Value.bool hb) ?_; clear hb
            refine wl_on (t := 53) rfl (by decide) rfl ?_
            refine wl_val (at_move rfl) rfl ?_
            refine wl_on (t := 53) rfl (by decide) rfl ?_
            refine wl_val (at_gtr rfl rfl) rfl ?_
            refine wl_on (t := 53) rfl (by decide) rfl ?_
            refine wl_val (at_move rfl) rfl ?_
            refine wl_on (t := 53) rfl (by decide) rfl ?_
            refine wl_val (at_conv Try.underlying26 Try.underlying3 rfl) rfl ?_
            refine wl_on (t := 53) rfl (by decide) rfl ?_
            refine wl_val (at_move rfl) rfl ?_
            refine wl_on (t := 53) rfl (by decide) rfl ?_
            refine wl_val (at_sub rfl rfl) rfl ?_
            refine wl_on (t := 53) rfl (by decide) rfl ?_
            obtain ⟨q16, h⟩ := h
            refine wl_val (at_shr rfl rfl q16) rfl ?_
            refine wl_on (t := 53) rfl (by decide) rfl ?_
            refine wl_val (at_eql rfl rfl) rfl ?_
            refine wl_on (t := 53) rfl (by decide) rfl ?_
            refine wl_val (at_neqB Try.underlying4 rfl rfl) rfl ?_
            refine wl_val (at_pick_t rfl rfl) rfl ?_
            refine wl_nil ?_
            exact wk_prune [(0, .int .i64 a0), (1, .int .i64 a1), (5, .bool x1), (6, .int .u16 x3.1), (9, .int .u16 x5.1), (63, .bool (!(decide ((0 : Int) < a0) == ((shrI .i64 (IntKind.wrap .i64 x3.1) (IntKind.wrap .i8 (x3.2.1 - 1))) == 1))))] ⟨rfl, rfl, rfl, rfl, rfl, rfl, trivial⟩ (fun f1 => hJ13 ((!(decide ((0 : Int) < a0) == ((shrI .i64 (IntKind.wrap .i64 x3.1) (IntKind.wrap .i8 (x3.2.1 - 1))) == 1)))) _ f1 h so)
          · refine wl_set (t := 53) (v := .bool false) (congrArg Value.bool hb) ?_; clear hb
            refine wl_off (t := 53) rfl (by decide) rfl ?_
            refine wl_off (t := 53) rfl (by decide) rfl ?_
            refine wl_off (t := 53) rfl (by decide) rfl ?_
            refine wl_off (t := 53) rfl (by decide) rfl ?_
            refine wl_off (t := 53) rfl (by decide) rfl ?_
            refine wl_off (t := 53) rfl (by decide) rfl ?_
            refine wl_off (t := 53) rfl (by decide) rfl ?_
            refine wl_off (t := 53) rfl (by decide) rfl ?_
            refine wl_off (t := 53) rfl (by decide) rfl ?_
            refine wl_val (at_pick_f rfl rfl) rfl ?_
            refine wl_nil ?_
            exact wk_prune [(0, .int .i64 a0), (1, .int .i64 a1), (5, .bool x1), (6, .int .u16 x3.1), (9, .int .u16 x5.1), (63, .bool false)] ⟨rfl, rfl, rfl, rfl, rfl, rfl, trivial⟩ (fun f1 => hJ13 (false) _ f1 h so)
  · intro J7 h hJ7
    refine wc_region ?_
    refine wl_val (at_move rfl) rfl ?_
    refine wl_val (at_not rfl) rfl ?_
    refine wl_val (at_move rfl) rfl ?_
    refine bif_ h (fun hb h => ?_) (fun hb h => ?_)
    · refine wl_set (t := 28) (v := .bool true) (congrArg Value.bool hb) ?_; clear hb
      refine wl_off (t := 28) rfl (by decide) rfl ?_
      refine wl_off (t := 28) rfl (by decide) rfl ?_
      refine wl_val (at_pick_t rfl rfl) rfl ?_
      refine wl_nil ?_
      exact wk_prune [(0, .int .i64 a0), (1, .int .i64 a1), (5, .bool x1), (6, .int .u16 x3.1), (7, .int .i8 x3.2.1), (9, .int .u16 x5.1), (10, .int .i8 x5.2.1), (31, .bool true)] ⟨rfl, rfl, rfl, rfl, rfl, rfl, rfl, rfl, trivial⟩ (fun f1 => hJ7 (true) _ f1 h so)
    · refine wl_set (t := 28) (v := .bool false) (congrArg Value.bool hb) ?_; clear hb
      refine wl_on (t := 28) rfl (by decide) rfl ?_
      refine wl_val (at_move rfl) rfl ?_
      refine wl_on (t := 28) rfl (by decide) rfl ?_
      refine wl_val (at_not rfl) rfl ?_
      refine wl_val (at_pick_f rfl rfl) rfl ?_
      refine wl_nil ?_
      exact wk_prune [(0, .int .i64 a0), (1, .int .i64 a1), (5, .bool x1), (6, .int .u16 x3.1), (7, .int .i8 x3.2.1), (9, .int .u16 x5.1), (10, .int .i8 x5.2.1), (31, .bool (!x5.2.2))] ⟨rfl, rfl, rfl, rfl, rfl, rfl, rfl, rfl, trivial⟩ (fun f1 => hJ7 ((!x5.2.2)) _ f1 h so)

/-- mosaic/mosaiclaw06.MagnitudeNearest -/
def mosaiclaw06_MagnitudeNearest.enc : Bool → Value := fun r => .bool r
def mosaiclaw06_MagnitudeNearest.s (a0 : Int) (a1 : Int) (a2 : Int) (H0 : Hp) (Q : Bool → Hp → Prop) : Prop :=
  mosaiclaw06_awake.s H0 (fun x1 H2 => Join (fun (s4 : Int) (H5 : Hp) => Join (fun (s7 : Int) (H8 : Hp) => magnitude_Clip.s a0 a1 H8 (fun x9 H10 => magnitude_Size.s (IntKind.wrap .i64 x9) H10 (fun x11 H12 => if decide (s7 < x11) = true then (Q false H12) else (magnitude_Size.s a0 H12 (fun x13 H14 => if decide (x13 ≤ s7) = true then (Join (fun (s16 : Bool) (H17 : Hp) => Q s16 H17) (fun (J15 : Bool → Hp → Prop) => if x1 = true then (J15 (((IntKind.wrap .i64 x9) == a0)) H14) else (J15 (false) H14))) else (magnitude_Size.s a2 H14 (fun x18 H19 => if decide (s7 < x18) = true then (Q x1 H19) else (if decide ((0 : Int) < a0) = true then (Join (fun (s21 : Bool) (H22 : Hp) => Q s21 H22) (fun (J20 : Bool → Hp → Prop) => if x1 = true then (J20 ((decide (a2 ≤ (IntKind.wrap .i64 x9)))) H19) else (J20 (false) H19))) else (if x1 = true then (Q (decide ((IntKind.wrap .i64 x9) ≤ a2)) H19) else (Q false H19)))))))))) (fun (J6 : Int → Hp → Prop) => if decide ((15 : Int) < s4) = true then (J6 (15) H5) else (J6 (s4) H5))) (fun (J3 : Int → Hp → Prop) => if decide (a1 < 0) = true then (J3 (0) H2) else (J3 (a1) H2)))
set_option maxRecDepth 20000 in
set_option maxHeartbeats 4000000 in
theorem mosaiclaw06_MagnitudeNearest.calls (a0 : Int) (a1 : Int) (a2 : Int) (w0 : World) (Q : Bool → Hp → Prop) (h : mosaiclaw06_MagnitudeNearest.s a0 a1 a2 w0.heap Q) :
    Ca Try.prog 8 #[.int .i64 a0, .int .i8 a1, .int .i64 a2] w0 (Rt mosaiclaw06_MagnitudeNearest.enc Q w0) := by
  refine ca_start (c := _) Try.func8 rfl Try.ntmps8 rfl ?_
  have so : Sm w0 w0 := Sm.refl w0
  unfold mosaiclaw06_MagnitudeNearest.s at h
  refine wc_prune [(0, .int .i64 a0), (1, .int .i8 a1), (2, .int .i64 a2)] ⟨rfl, rfl, rfl, trivial⟩ (fun f1 => ?_)
  refine wc_seq ?_
  refine wc_region ?_
  refine wl_val (at_assign rfl) rfl ?_
  refine wl_nil ?_
  refine wk_prune [(0, .int .i64 a0), (1, .int .i8 a1), (2, .int .i64 a2)] ⟨rfl, rfl, rfl, trivial⟩ (fun f1 => ?_)
  refine wk_then ?_
  refine wc_seq ?_
  refine wc_region ?_
  refine wl_callF (mosaiclaw06_awake.calls _ _ h) enter17 rfl trivial so ?_; intro x1 w2 h so
  refine wl_val (at_assign rfl) rfl ?_
  refine wl_nil ?_
  refine wk_prune [(0, .int .i64 a0), (1, .int .i8 a1), (2, .int .i64 a2), (7, .bool x1)] ⟨rfl, rfl, rfl, rfl, trivial⟩ (fun f1 => ?_)
  refine wk_then ?_
  refine wc_seq ?_
  refine wc_region ?_
  refine wl_val (at_move rfl) rfl ?_
  refine wl_val (at_assign rfl) rfl ?_
  refine wl_nil ?_
  refine wk_prune [(0, .int .i64 a0), (1, .int .i8 a1), (2, .int .i64 a2), (7, .bool x1), (8, .int .i8 a1)] ⟨rfl, rfl, rfl, rfl, rfl, trivial⟩ (fun f1 => ?_)
  refine wk_then ?_
  refine wc_seq ?_
  refine wc_join (w0 := w0) (fun (s4 : Int) => [(0, .int .i64 a0), (1, .int .i8 a1), (2, .int .i64 a2), (7, .bool x1), (8, .int .i8 s4)]) h ?_ ?_
  · intro s4 w5 f1 h so; refine wk_then ?_
    refine wc_seq ?_
    refine wc_join (w0 := w0) (fun (s7 : Int) => [(0, .int .i64 a0), (1, .int .i8 a1), (2, .int .i64 a2), (7, .bool x1), (8, .int .i8 s7)]) h ?_ ?_
    · intro s7 w8 f1 h so; refine wk_then ?_
      refine wc_seq ?_
      refine wc_region ?_
      refine wl_val (at_move rfl) rfl ?_
      refine wl_val (at_move rfl) rfl ?_
      refine wl_callF (magnitude_Clip.calls _ _ _ _ h) enter9 rfl trivial so ?_; intro x9 w10 h so
      refine wl_val (at_conv Try.underlying23 Try.underlying3 rfl) rfl ?_
      refine wl_val (at_assign rfl) rfl ?_
      refine wl_nil ?_
      refine wk_prune [(0, .int .i64 a0), (2, .int .i64 a2), (7, .bool x1), (8, .int .i8 s7), (9, .int .i64 (IntKind.wrap .i64 x9))] ⟨rfl, rfl, rfl, rfl, rfl, trivial⟩ (fun f1 => ?_)
      refine wk_then ?_
      refine wc_seq ?_
      refine wc_seq ?_
      refine wc_region ?_
      refine wl_val (at_move rfl) rfl ?_
      refine wl_callF (magnitude_Size.calls _ _ _ h) enter15 rfl trivial so ?_; intro x11 w12 h so
      refine wl_val (at_move rfl) rfl ?_
      refine wl_val (at_gtr rfl rfl) rfl ?_
      refine wl_nil ?_
      refine wk_prune [(0, .int .i64 a0), (2, .int .i64 a2), (7, .bool x1), (8, .int .i8 s7), (9, .int .i64 (IntKind.wrap .i64 x9)), (23, .bool (decide (s7 < x11)))] ⟨rfl, rfl, rfl, rfl, rfl, rfl, trivial⟩ (fun f1 => ?_)
      refine wk_then ?_
      refine wc_cond rfl h (fun h => ?_) (fun h => ?_)
      · refine wc_seq ?_
        refine wc_region ?_
        refine wl_val (at_assign rfl) rfl ?_
        refine wl_nil ?_
        refine wk_prune [(6, .bool false)] ⟨rfl, trivial⟩ (fun f1 => ?_)
        refine wk_then ?_
        refine wc_ret ?_
        refine wk_thenR ?_
        exact wk_ret1 (x := false) rfl (by decide) rfl so h
      · refine wc_skip ?_
        refine wk_prune [(0, .int .i64 a0), (2, .int .i64 a2), (7, .bool x1), (8, .int .i8 s7), (9, .int .i64 (IntKind.wrap .i64 x9))] ⟨rfl, rfl, rfl, rfl, rfl, trivial⟩ (fun f1 => ?_)
        refine wk_then ?_
        refine wc_seq ?_
        refine wc_seq ?_
        refine wc_region ?_
        refine wl_val (at_move rfl) rfl ?_
        refine wl_callF (magnitude_Size.calls _ _ _ h) enter15 rfl trivial so ?_; intro x13 w14 h so
        refine wl_val (at_move rfl) rfl ?_
        refine wl_val (at_leq rfl rfl) rfl ?_
        refine wl_nil ?_
        refine wk_prune [(0, .int .i64 a0), (2, .int .i64 a2), (7, .bool x1), (8, .int .i8 s7), (9, .int .i64 (IntKind.wrap .i64 x9)), (27, .bool (decide (x13 ≤ s7)))] ⟨rfl, rfl, rfl, rfl, rfl, rfl, trivial⟩ (fun f1 => ?_)
        refine wk_then ?_
        refine wc_cond rfl h (fun h => ?_) (fun h => ?_)
        · refine wc_seq ?_
          refine wc_join (w0 := w0) (fun (s16 : Bool) => [(6, .bool s16)]) h ?_ ?_
          · intro s16 w17 f1 h so; refine wk_then ?_
            refine wc_ret ?_
            refine wk_thenR ?_
            exact wk_ret1 (x := s16) rfl (by decide) rfl so h
          · intro J15 h hJ15
            refine wc_region ?_
            refine wl_val (at_move rfl) rfl ?_
            refine wl_val (at_move rfl) rfl ?_
            refine bif_ h (fun hb h => ?_) (fun hb h => ?_)
            · refine wl_set (t := 29) (v := .bool true) (congrArg Value.bool hb) ?_; clear hb
              refine wl_on (t := 29) rfl (by decide) rfl ?_
              refine wl_val (at_move rfl) rfl ?_
              refine wl_on (t := 29) rfl (by decide) rfl ?_
              refine wl_val (at_move rfl) rfl ?_
              refine wl_on (t := 29) rfl (by decide) rfl ?_
              refine wl_val (at_eql rfl rfl) rfl ?_
              refine wl_val (at_pick_t rfl rfl) rfl ?_
              refine wl_val (at_assign rfl) rfl ?_
              refine wl_nil ?_
              exact wk_prune [(6, .bool ((IntKind.wrap .i64 x9) == a0))] ⟨rfl, trivial⟩ (fun f1 => hJ15 (((IntKind.wrap .i64 x9) == a0)) _ f1 h so)
            · refine wl_set (t := 29) (v := .bool false) (congrArg Value.bool hb) ?_; clear hb
              refine wl_off (t := 29) rfl (by decide) rfl ?_
              refine wl_off (t := 29) rfl (by decide) rfl ?_
              refine wl_off (t := 29) rfl (by decide) rfl ?_
              refine wl_val (at_pick_f rfl rfl) rfl ?_
              refine wl_val (at_assign rfl) rfl ?_
              refine wl_nil ?_
              exact wk_prune [(6, .bool false)] ⟨rfl, trivial⟩ (fun f1 => hJ15 (false) _ f1 h so)
        · refine wc_skip ?_
          refine wk_prune [(0, .int .i64 a0), (2, .int .i64 a2), (7, .bool x1), (8, .int .i8 s7), (9, .int .i64 (IntKind.wrap .i64 x9))] ⟨rfl, rfl, rfl, rfl, rfl, trivial⟩ (fun f1 => ?_)
          refine wk_then ?_
          refine wc_seq ?_
          refine wc_seq ?_
          refine wc_region ?_
          refine wl_val (at_move rfl) rfl ?_
          refine wl_callF (magnitude_Size.calls _ _ _ h) enter15 rfl trivial so ?_; intro x18 w19 h so
          refine wl_val (at_move rfl) rfl ?_
          refine wl_val (at_gtr rfl rfl) rfl ?_
          refine wl_nil ?_
          refine wk_prune [(0, .int .i64 a0), (2, .int .i64 a2), (7, .bool x1), (9, .int .i64 (IntKind.wrap .i64 x9)), (37, .bool (decide (s7 < x18)))] ⟨rfl, rfl, rfl, rfl, rfl, trivial⟩ (fun f1 => ?_)
          refine wk_then ?_
          refine wc_cond rfl h (fun h => ?_) (fun h => ?_)
          · refine wc_seq ?_
            refine wc_region ?_
            refine wl_val (at_move rfl) rfl ?_
            refine wl_val (at_assign rfl) rfl ?_
            refine wl_nil ?_
            refine wk_prune [(6, .bool x1)] ⟨rfl, trivial⟩ (fun f1 => ?_)
            refine wk_then ?_
            refine wc_ret ?_
            refine wk_thenR ?_
            exact wk_ret1 (x := x1) rfl (by decide) rfl so h
          · refine wc_skip ?_
            refine wk_prune [(0, .int .i64 a0), (2, .int .i64 a2), (7, .bool x1), (9, .int .i64 (IntKind.wrap .i64 x9))] ⟨rfl, rfl, rfl, rfl, trivial⟩ (fun f1 => ?_)
            refine wk_then ?_
            refine wc_seq ?_
            refine wc_seq ?_
            refine wc_region ?_
            refine wl_val (at_move rfl) rfl ?_
            refine wl_val (at_gtr rfl rfl) rfl ?_
            refine wl_nil ?_
            refine wk_prune [(2, .int .i64 a2), (7, .bool x1), (9, .int .i64 (IntKind.wrap .i64 x9)), (40, .bool (decide ((0 : Int) < a0)))] ⟨rfl, rfl, rfl, rfl, trivial⟩ (fun f1 => ?_)
            refine wk_then ?_
            refine wc_cond rfl h (fun h => ?_) (fun h => ?_)
            · refine wc_seq ?_
              refine wc_join (w0 := w0) (fun (s21 : Bool) => [(6, .bool s21)]) h ?_ ?_
              · intro s21 w22 f1 h so; refine wk_then ?_
                refine wc_ret ?_
                refine wk_thenR ?_
                exact wk_ret1 (x := s21) rfl (by decide) rfl so h
              · intro J20 h hJ20
                refine wc_region ?_
                refine wl_val (at_move rfl) rfl ?_
                refine wl_val (at_move rfl) rfl ?_
                refine bif_ h (fun hb h => ?_) (fun hb h => ?_)
                · refine wl_set (t := 42) (v := .bool true) (congrArg Value.bool hb) ?_; clear hb
                  refine wl_on (t := 42) rfl (by decide) rfl ?_
                  refine wl_val (at_move rfl) rfl ?_
                  refine wl_on (t := 42) rfl (by decide) rfl ?_
                  refine wl_val (at_move rfl) rfl ?_
                  refine wl_on (t := 42) rfl (by decide) rfl ?_
                  refine wl_val (at_geq rfl rfl) rfl ?_
                  refine wl_val (at_pick_t rfl rfl) rfl ?_
                  refine wl_val (at_assign rfl) rfl ?_
                  refine wl_nil ?_
                  exact wk_prune [(6, .bool (decide (a2 ≤ (IntKind.wrap .i64 x9))))] ⟨rfl, trivial⟩ (fun f1 => hJ20 ((decide (a2 ≤ (IntKind.wrap .i64 x9)))) _ f1 h so)
                · refine wl_set (t := 42) (v := .bool false) (congrArg Value.bool hb) ?_; clear hb
                  refine wl_off (t := 42) rfl (by decide) rfl ?_
                  refine wl_off (t := 42) rfl (by decide) rfl ?_
                  refine wl_off (t := 42) rfl (by decide) rfl ?_
                  refine wl_val (at_pick_f rfl rfl) rfl ?_
                  refine wl_val (at_assign rfl) rfl ?_
                  refine wl_nil ?_
                  exact wk_prune [(6, .bool false)] ⟨rfl, trivial⟩ (fun f1 => hJ20 (false) _ f1 h so)
            · refine wc_skip ?_
              refine wk_prune [(2, .int .i64 a2), (7, .bool x1), (9, .int .i64 (IntKind.wrap .i64 x9))] ⟨rfl, rfl, rfl, trivial⟩ (fun f1 => ?_)
              refine wk_then ?_
              refine wc_seq ?_
              refine wc_region ?_
              refine wl_val (at_move rfl) rfl ?_
              refine wl_val (at_move rfl) rfl ?_
              refine bif_ h (fun hb h => ?_) (fun hb h => ?_)
              · refine wl_set (t := 48) (v := .bool true) (congrArg Value.bool hb) ?_; clear hb
                refine wl_on (t := 48) rfl (by decide) rfl ?_
                refine wl_val (at_move rfl) rfl ?_
                refine wl_on (t := 48) rfl (by decide) rfl ?_
                refine wl_val (at_move rfl) rfl ?_
                refine wl_on (t := 48) rfl (by decide) rfl ?_
                refine wl_val (at_leq rfl rfl) rfl ?_
                refine wl_val (at_pick_t rfl rfl) rfl ?_
                refine wl_val (at_assign rfl) rfl ?_
                refine wl_nil ?_
                refine wk_prune [(6, .bool (decide ((IntKind.wrap .i64 x9) ≤ a2)))] ⟨rfl, trivial⟩ (fun f1 => ?_)
                refine wk_then ?_
                refine wc_ret ?_
                exact wk_ret1 (x := (decide ((IntKind.wrap .i64 x9) ≤ a2))) rfl (by decide) rfl so h
              · refine wl_set (t := 48) (v := .bool false) (congrArg Value.bool hb) ?_; clear hb
                refine wl_off (t := 48) rfl (by decide) rfl ?_
                refine wl_off (t := 48) rfl (by decide) rfl ?_
                refine wl_off (t := 48) rfl (by decide) rfl ?_
                refine wl_val (at_pick_f rfl rfl) rfl ?_
                refine wl_val (at_assign rfl) rfl ?_
                refine wl_nil ?_
                refine wk_prune [(6, .bool false)] ⟨rfl, trivial⟩ (fun f1 => ?_)
                refine wk_then ?_
                refine wc_ret ?_
                exact wk_ret1 (x := false) rfl (by decide) rfl so h
    · intro J6 h hJ6
      refine wc_seq ?_
      refine wc_region ?_
      refine wl_val (at_move rfl) rfl ?_
      refine wl_val (at_gtr rfl rfl) rfl ?_
      refine wl_nil ?_
      refine wk_prune [(0, .int .i64 a0), (1, .int .i8 a1), (2, .int .i64 a2), (7, .bool x1), (8, .int .i8 s4), (15, .bool (decide ((15 : Int) < s4)))] ⟨rfl, rfl, rfl, rfl, rfl, rfl, trivial⟩ (fun f1 => ?_)
      refine wk_then ?_
      refine wc_cond rfl h (fun h => ?_) (fun h => ?_)
      · refine wc_region ?_
        refine wl_val (at_assign rfl) rfl ?_
        refine wl_nil ?_
        exact wk_prune [(0, .int .i64 a0), (1, .int .i8 a1), (2, .int .i64 a2), (7, .bool x1), (8, .int .i8 15)] ⟨rfl, rfl, rfl, rfl, rfl, trivial⟩ (fun f1 => hJ6 (15) _ f1 h so)
      · refine wc_skip ?_
        exact wk_prune [(0, .int .i64 a0), (1, .int .i8 a1), (2, .int .i64 a2), (7, .bool x1), (8, .int .i8 s4)] ⟨rfl, rfl, rfl, rfl, rfl, trivial⟩ (fun f1 => hJ6 (s4) _ f1 h so)
  · intro J3 h hJ3
    refine wc_seq ?_
    refine wc_region ?_
    refine wl_val (at_move rfl) rfl ?_
    refine wl_val (at_lss rfl rfl) rfl ?_
    refine wl_nil ?_
    refine wk_prune [(0, .int .i64 a0), (1, .int .i8 a1), (2, .int .i64 a2), (7, .bool x1), (8, .int .i8 a1), (13, .bool (decide (a1 < 0)))] ⟨rfl, rfl, rfl, rfl, rfl, rfl, trivial⟩ (fun f1 => ?_)
    refine wk_then ?_
    refine wc_cond rfl h (fun h => ?_) (fun h => ?_)
    · refine wc_region ?_
      refine wl_val (at_assign rfl) rfl ?_
      refine wl_nil ?_
      exact wk_prune [(0, .int .i64 a0), (1, .int .i8 a1), (2, .int .i64 a2), (7, .bool x1), (8, .int .i8 0)] ⟨rfl, rfl, rfl, rfl, rfl, trivial⟩ (fun f1 => hJ3 (0) _ f1 h so)
    · refine wc_skip ?_
      exact wk_prune [(0, .int .i64 a0), (1, .int .i8 a1), (2, .int .i64 a2), (7, .bool x1), (8, .int .i8 a1)] ⟨rfl, rfl, rfl, rfl, rfl, trivial⟩ (fun f1 => hJ3 (a1) _ f1 h so)
end Go.Proofs.Ytacokffnonfacaa.G
