/- Of this text what the row needs. -/
import Derived.Test.YtmnoecpnoofdjaaQPenBackKshelf
import Derived.Test.YtmnoecpnoofdjaaQPenBackKbits
namespace Go.Proofs.Ytmnoecpnoofdjaa.G
open Go.RowKit
set_option linter.unusedVariables false
set_option maxRecDepth 20000
set_option maxHeartbeats 4000000
set_option linter.unusedSimpArgs false
def magnitude_away.enc : Int → Value := fun r => .int .u64 r
def magnitude_away.s (a0 : Int) (H0 : Hp) (Q : Int → Hp → Prop) : Prop :=
 if decide (a0 < 0) = true then (Lt ((IntKind.wrap .u64 (0 - (IntKind.wrap .u64 a0))) : Int) (fun x1 => Q x1 H0)) else (Q (IntKind.wrap .u64 a0) H0)
theorem magnitude_away.calls (a0 : Int) (w0 : World) (Q : Int → Hp → Prop) (h : magnitude_away.s a0 w0.heap Q) :
  Ca Try.prog 73 #[.int .i64 a0] w0 (Rt magnitude_away.enc Q w0) := by
 refine ca_start (c := _) Try.func73 rfl Try.ntmps73 rfl ?_
 have so : Sm w0 w0 := Sm.refl w0
 unfold magnitude_away.s at h
 refine wc_prune [(0, .int .i64 a0)] ⟨rfl, trivial⟩ (fun f1 => ?_)
 refine wc_seq (wc_region (wl_val (at_assign rfl) rfl (wl_nil (wk_prune [(0, .int .i64 a0)] ⟨rfl, trivial⟩ fun f1 => wk_then (wc_seq (wc_seq (wc_region (wl_val (at_move rfl) rfl (wl_val (at_lss rfl rfl) rfl (wl_nil (wk_prune [(0, .int .i64 a0), (4, .bool (decide (a0 < 0)))] ⟨rfl, rfl, trivial⟩ fun f1 => wk_then (wc_cond rfl h (fun h => ?_) (fun h => ?_)))))))))))))
 ·refine wc_seq (wc_region (wl_val (at_move rfl) rfl (wl_val (at_conv Try.underlying3 Try.underlying154 rfl) rfl (wl_val (at_neg rfl) rfl (wl_val (at_assign rfl) rfl ?_)))))
  obtain ⟨x1, e2⟩ : ∃ x : Int, x = (IntKind.wrap .u64 (0 - (IntKind.wrap .u64 a0))) := ⟨_, rfl⟩; replace h := h x1 e2
  exact wl_set (t := 2) (v := .int .u64 x1) (congrArg (Value.int .u64) e2.symm) (wl_nil (wk_prune [(2, .int .u64 x1)] ⟨rfl, trivial⟩ fun f1 => wk_then (wc_ret (wk_thenR (wk_ret1 (x := x1) rfl (by decide) rfl so h)))))
 ·exact wc_skip (wk_prune [(0, .int .i64 a0)] ⟨rfl, trivial⟩ fun f1 => wk_then (wc_seq (wc_region (wl_val (at_move rfl) rfl (wl_val (at_conv Try.underlying3 Try.underlying154 rfl) rfl (wl_val (at_assign rfl) rfl (wl_nil (wk_prune [(2, .int .u64 (IntKind.wrap .u64 a0))] ⟨rfl, trivial⟩ fun f1 => wk_then (wc_ret (wk_ret1 (x := (IntKind.wrap .u64 a0)) rfl (by decide) rfl so h))))))))))
def magnitude_Size.enc : Int → Value := fun r => .int .i8 r
def magnitude_Size.s (a0 : Int) (H0 : Hp) (Q : Int → Hp → Prop) : Prop :=
 magnitude_away.s a0 H0 (fun x1 H2 => bits_Len64.s x1 H2 (fun x3 H4 => Q (IntKind.wrap .i8 x3) H4))
theorem magnitude_Size.calls (a0 : Int) (w0 : World) (Q : Int → Hp → Prop) (h : magnitude_Size.s a0 w0.heap Q) :
  Ca Try.prog 62 #[.int .i64 a0] w0 (Rt magnitude_Size.enc Q w0) := by
 refine ca_start (c := _) Try.func62 rfl Try.ntmps62 rfl ?_
 have so : Sm w0 w0 := Sm.refl w0
 unfold magnitude_Size.s at h
 refine wc_prune [(0, .int .i64 a0)] ⟨rfl, trivial⟩ (fun f1 => ?_)
 refine wc_seq (wc_region (wl_val (at_assign rfl) rfl (wl_nil (wk_prune [(0, .int .i64 a0)] ⟨rfl, trivial⟩ fun f1 => wk_then (wc_seq (wc_region (wl_val (at_move rfl) rfl ?_)))))))
 refine wl_callF (magnitude_away.calls _ _ _ h) enter73 rfl trivial so ?_; intro x1 w2 h so
 refine wl_callF (bits_Len64.calls _ _ _ h) enter72 rfl trivial so ?_; intro x3 w4 h so
 exact wl_val (at_conv Try.underlying3 Try.underlying46 rfl) rfl (wl_val (at_assign rfl) rfl (wl_nil (wk_prune [(2, .int .i8 (IntKind.wrap .i8 x3))] ⟨rfl, trivial⟩ fun f1 => wk_then (wc_ret (wk_ret1 (x := (IntKind.wrap .i8 x3)) rfl (by decide) rfl so h)))))
def magnitude_Bits.enc : Int × Int × Bool → Value := fun r => .tuple #[.int .u16 r.1, .int .i8 r.2.1, .bool r.2.2]
def magnitude_Bits.s (a0 : Int) (H0 : Hp) (Q : (Int × Int × Bool) → Hp → Prop) : Prop :=
 magnitude_Size.s a0 H0 (fun x1 H2 => if decide ((16 : Int) < x1) = true then (Q (0, 0, false) H2) else (Join (fun (s4 : Int) (H5 : Hp) => 0 ≤ x1 ∧ (Lt ((IntKind.wrap .u16 (Go.bits .and .i64 s4 (IntKind.wrap .i64 ((shlI .i64 1 x1) - 1)))) : Int) (fun x7 => Q (x7, x1, true) H5))) (fun (J3 : Int → Hp → Prop) => if decide (a0 < 0) = true then (J3 ((IntKind.wrap .i64 (a0 - 1))) H2) else (J3 (a0) H2))))
theorem magnitude_Bits.calls (a0 : Int) (w0 : World) (Q : (Int × Int × Bool) → Hp → Prop) (h : magnitude_Bits.s a0 w0.heap Q) :
  Ca Try.prog 74 #[.int .i64 a0] w0 (Rt magnitude_Bits.enc Q w0) := by
 refine ca_start (c := _) Try.func74 rfl Try.ntmps74 rfl ?_
 have so : Sm w0 w0 := Sm.refl w0
 unfold magnitude_Bits.s at h
 refine wc_prune [(0, .int .i64 a0)] ⟨rfl, trivial⟩ (fun f1 => ?_)
 refine wc_seq (wc_region (wl_val (at_assign rfl) rfl (wl_val (at_assign rfl) rfl (wl_val (at_assign rfl) rfl (wl_nil (wk_prune [(0, .int .i64 a0)] ⟨rfl, trivial⟩ fun f1 => wk_then (wc_seq (wc_region (wl_val (at_move rfl) rfl ?_)))))))))
 refine wl_callF (magnitude_Size.calls _ _ _ h) enter62 rfl trivial so ?_; intro x1 w2 h so
 refine wl_val (at_assign rfl) rfl (wl_nil (wk_prune [(0, .int .i64 a0), (5, .int .i8 x1)] ⟨rfl, rfl, trivial⟩ fun f1 => wk_then (wc_seq (wc_seq (wc_region (wl_val (at_move rfl) rfl (wl_val (at_gtr rfl rfl) rfl (wl_nil (wk_prune [(0, .int .i64 a0), (5, .int .i8 x1), (9, .bool (decide ((16 : Int) < x1)))] ⟨rfl, rfl, rfl, trivial⟩ fun f1 => wk_then (wc_cond rfl h (fun h => ?_) (fun h => ?_)))))))))))
 ·exact wc_seq (wc_region (wl_val (at_assign rfl) rfl (wl_val (at_assign rfl) rfl (wl_val (at_assign rfl) rfl (wl_nil (wk_prune [(2, .int .u16 0), (3, .int .i8 0), (4, .bool false)] ⟨rfl, rfl, rfl, trivial⟩ fun f1 => wk_then (wc_ret (wk_thenR (wk_ret3 (x := (0, 0, false)) rfl (by decide) (by decide) (by decide) rfl so h)))))))))
 ·refine wc_skip (wk_prune [(0, .int .i64 a0), (5, .int .i8 x1)] ⟨rfl, rfl, trivial⟩ fun f1 => wk_then (wc_seq (wc_join (w0 := w0) (fun (s4 : Int) => [(0, .int .i64 s4), (5, .int .i8 x1)]) h ?_ ?_)))
  ·rintro s4 w5 f1 h so; refine wk_then ?_
   refine wc_seq (wc_region (wl_val (at_move rfl) rfl (wl_val (at_move rfl) rfl ?_)))
   obtain ⟨q6, h⟩ := h
   refine wl_val (at_shl rfl rfl q6) rfl (wl_val (at_sub rfl rfl) rfl (wl_val (at_and rfl rfl) rfl (wl_val (at_conv Try.underlying3 Try.underlying64 rfl) rfl (wl_val (at_move rfl) rfl (wl_val (at_assign rfl) rfl ?_)))))
   obtain ⟨x7, e8⟩ : ∃ x : Int, x = (IntKind.wrap .u16 (Go.bits .and .i64 s4 (IntKind.wrap .i64 ((shlI .i64 1 x1) - 1)))) := ⟨_, rfl⟩; replace h := h x7 e8
   exact wl_set (t := 2) (v := .int .u16 x7) (congrArg (Value.int .u16) e8.symm) (wl_val (at_assign rfl) rfl (wl_val (at_assign rfl) rfl (wl_nil (wk_prune [(2, .int .u16 x7), (3, .int .i8 x1), (4, .bool true)] ⟨rfl, rfl, rfl, trivial⟩ fun f1 => wk_then (wc_ret (wk_ret3 (x := (x7, x1, true)) rfl (by decide) (by decide) (by decide) rfl so h))))))
  ·intro J3 h hJ3
   refine wc_seq (wc_region (wl_val (at_move rfl) rfl (wl_val (at_lss rfl rfl) rfl (wl_nil (wk_prune [(0, .int .i64 a0), (5, .int .i8 x1), (11, .bool (decide (a0 < 0)))] ⟨rfl, rfl, rfl, trivial⟩ fun f1 => wk_then (wc_cond rfl h (fun h => ?_) (fun h => ?_)))))))
   ·exact wc_region (wl_val (at_move rfl) rfl (wl_val (at_sub rfl rfl) rfl (wl_val (at_assign rfl) rfl (wl_nil (wk_prune [(0, .int .i64 (IntKind.wrap .i64 (a0 - 1))), (5, .int .i8 x1)] ⟨rfl, rfl, trivial⟩ (fun f1 => hJ3 ((IntKind.wrap .i64 (a0 - 1))) _ f1 h so))))))
   ·exact wc_skip (wk_prune [(0, .int .i64 a0), (5, .int .i8 x1)] ⟨rfl, rfl, trivial⟩ (fun f1 => hJ3 (a0) _ f1 h so))
def magnitude_Value.enc : Int × Bool → Value := fun r => .tuple #[.int .i64 r.1, .bool r.2]
def magnitude_Value.s (a0 : Int) (a1 : Int) (H0 : Hp) (Q : (Int × Bool) → Hp → Prop) : Prop :=
 Join (fun (s2 : Bool) (H3 : Hp) => if s2 = true then (Q (0, false) H3) else (if (a1 == 0) = true then (Q (0, true) H3) else (0 ≤ (IntKind.wrap .i8 (a1 - 1)) ∧ (if ((shrI .u16 a0 (IntKind.wrap .i8 (a1 - 1))) == 0) = true then (0 ≤ a1 ∧ (Lt ((IntKind.wrap .i64 ((IntKind.wrap .i64 a0) - (IntKind.wrap .i64 ((shlI .i64 1 a1) - 1)))) : Int) (fun x6 => Q (x6, true) H3))) else (Q ((IntKind.wrap .i64 a0), true) H3))))) (fun (J1 : Bool → Hp → Prop) => if decide (a1 < 0) = true then (J1 (true) H0) else (if decide ((16 : Int) < a1) = true then (J1 (true) H0) else (0 ≤ a1 ∧ (J1 ((decide ((shlI .i64 1 a1) ≤ (IntKind.wrap .i64 a0)))) H0))))
theorem magnitude_Value.calls (a0 : Int) (a1 : Int) (w0 : World) (Q : (Int × Bool) → Hp → Prop) (h : magnitude_Value.s a0 a1 w0.heap Q) :
  Ca Try.prog 69 #[.int .u16 a0, .int .i8 a1] w0 (Rt magnitude_Value.enc Q w0) := by
 refine ca_start (c := _) Try.func69 rfl Try.ntmps69 rfl ?_
 have so : Sm w0 w0 := Sm.refl w0
 unfold magnitude_Value.s at h
 refine wc_prune [(0, .int .u16 a0), (1, .int .i8 a1)] ⟨rfl, rfl, trivial⟩ (fun f1 => ?_)
 refine wc_seq (wc_region (wl_val (at_assign rfl) rfl (wl_val (at_assign rfl) rfl (wl_nil (wk_prune [(0, .int .u16 a0), (1, .int .i8 a1)] ⟨rfl, rfl, trivial⟩ fun f1 => wk_then (wc_seq (wc_seq (wc_join (w0 := w0) (fun (s2 : Bool) => [(0, .int .u16 a0), (1, .int .i8 a1), (18, .bool s2)]) h ?_ ?_))))))))
 ·rintro s2 w3 f1 h so; refine wk_then ?_
  refine wc_cond rfl h (fun h => ?_) (fun h => ?_)
  ·exact wc_seq (wc_region (wl_val (at_assign rfl) rfl (wl_val (at_assign rfl) rfl (wl_nil (wk_prune [(4, .int .i64 0), (5, .bool false)] ⟨rfl, rfl, trivial⟩ fun f1 => wk_then (wc_ret (wk_thenR (wk_ret2 (x := (0, false)) rfl (by decide) (by decide) rfl so h))))))))
  ·refine wc_skip (wk_prune [(0, .int .u16 a0), (1, .int .i8 a1)] ⟨rfl, rfl, trivial⟩ fun f1 => wk_then (wc_seq (wc_seq (wc_region (wl_val (at_move rfl) rfl (wl_val (at_eql rfl rfl) rfl (wl_nil (wk_prune [(0, .int .u16 a0), (1, .int .i8 a1), (20, .bool (a1 == 0))] ⟨rfl, rfl, rfl, trivial⟩ fun f1 => wk_then (wc_cond rfl h (fun h => ?_) (fun h => ?_))))))))))
   ·exact wc_seq (wc_region (wl_val (at_assign rfl) rfl (wl_val (at_assign rfl) rfl (wl_nil (wk_prune [(4, .int .i64 0), (5, .bool true)] ⟨rfl, rfl, trivial⟩ fun f1 => wk_then (wc_ret (wk_thenR (wk_ret2 (x := (0, true)) rfl (by decide) (by decide) rfl so h))))))))
   ·refine wc_skip (wk_prune [(0, .int .u16 a0), (1, .int .i8 a1)] ⟨rfl, rfl, trivial⟩ fun f1 => wk_then (wc_seq (wc_seq (wc_region (wl_val (at_move rfl) rfl (wl_val (at_move rfl) rfl (wl_val (at_sub rfl rfl) rfl ?_)))))))
    obtain ⟨q4, h⟩ := h
    refine wl_val (at_shr rfl rfl q4) rfl (wl_val (at_eql rfl rfl) rfl (wl_nil (wk_prune [(0, .int .u16 a0), (1, .int .i8 a1), (25, .bool ((shrI .u16 a0 (IntKind.wrap .i8 (a1 - 1))) == 0))] ⟨rfl, rfl, rfl, trivial⟩ fun f1 => wk_then (wc_cond rfl h (fun h => ?_) (fun h => ?_)))))
    ·refine wc_seq (wc_region (wl_val (at_move rfl) rfl (wl_val (at_conv Try.underlying64 Try.underlying3 rfl) rfl (wl_val (at_move rfl) rfl ?_))))
     obtain ⟨q5, h⟩ := h
     refine wl_val (at_shl rfl rfl q5) rfl (wl_val (at_sub rfl rfl) rfl (wl_val (at_sub rfl rfl) rfl (wl_val (at_assign rfl) rfl ?_)))
     obtain ⟨x6, e7⟩ : ∃ x : Int, x = (IntKind.wrap .i64 ((IntKind.wrap .i64 a0) - (IntKind.wrap .i64 ((shlI .i64 1 a1) - 1)))) := ⟨_, rfl⟩; replace h := h x6 e7
     exact wl_set (t := 4) (v := .int .i64 x6) (congrArg (Value.int .i64) e7.symm) (wl_val (at_assign rfl) rfl (wl_nil (wk_prune [(4, .int .i64 x6), (5, .bool true)] ⟨rfl, rfl, trivial⟩ fun f1 => wk_then (wc_ret (wk_thenR (wk_ret2 (x := (x6, true)) rfl (by decide) (by decide) rfl so h))))))
    ·exact wc_skip (wk_prune [(0, .int .u16 a0)] ⟨rfl, trivial⟩ fun f1 => wk_then (wc_seq (wc_region (wl_val (at_move rfl) rfl (wl_val (at_conv Try.underlying64 Try.underlying3 rfl) rfl (wl_val (at_assign rfl) rfl (wl_val (at_assign rfl) rfl (wl_nil (wk_prune [(4, .int .i64 (IntKind.wrap .i64 a0)), (5, .bool true)] ⟨rfl, rfl, trivial⟩ fun f1 => wk_then (wc_ret (wk_ret2 (x := ((IntKind.wrap .i64 a0), true)) rfl (by decide) (by decide) rfl so h)))))))))))
 ·intro J1 h hJ1
  refine wc_region (wl_val (at_move rfl) rfl (wl_val (at_lss rfl rfl) rfl (wl_val (at_move rfl) rfl (bif_ h (fun hb h => ?_) (fun hb h => ?_)))))
  ·refine wl_set (t := 8) (v := .bool true) (congrArg Value.bool hb) ?_; clear hb
   exact wl_off (t := 8) rfl (by decide) rfl (wl_off (t := 8) rfl (by decide) rfl (wl_val (at_pick_t rfl rfl) rfl (wl_val (at_move rfl) rfl (wl_off (t := 12) rfl (by decide) rfl (wl_off (t := 12) rfl (by decide) rfl (wl_off (t := 12) rfl (by decide) rfl (wl_off (t := 12) rfl (by decide) rfl (wl_off (t := 12) rfl (by decide) rfl (wl_val (at_pick_t rfl rfl) rfl (wl_nil (wk_prune [(0, .int .u16 a0), (1, .int .i8 a1), (18, .bool true)] ⟨rfl, rfl, rfl, trivial⟩ (fun f1 => hJ1 (true) _ f1 h so))))))))))))
  ·refine wl_set (t := 8) (v := .bool false) (congrArg Value.bool hb) ?_; clear hb
   refine wl_on (t := 8) rfl (by decide) rfl (wl_val (at_move rfl) rfl (wl_on (t := 8) rfl (by decide) rfl (wl_val (at_gtr rfl rfl) rfl (wl_val (at_pick_f rfl rfl) rfl (wl_val (at_move rfl) rfl (bif_ h (fun hb h => ?_) (fun hb h => ?_)))))))
   ·refine wl_set (t := 12) (v := .bool true) (congrArg Value.bool hb) ?_; clear hb
    exact wl_off (t := 12) rfl (by decide) rfl (wl_off (t := 12) rfl (by decide) rfl (wl_off (t := 12) rfl (by decide) rfl (wl_off (t := 12) rfl (by decide) rfl (wl_off (t := 12) rfl (by decide) rfl (wl_val (at_pick_t rfl rfl) rfl (wl_nil (wk_prune [(0, .int .u16 a0), (1, .int .i8 a1), (18, .bool true)] ⟨rfl, rfl, rfl, trivial⟩ (fun f1 => hJ1 (true) _ f1 h so))))))))
   ·refine wl_set (t := 12) (v := .bool false) (congrArg Value.bool hb) ?_; clear hb
    refine wl_on (t := 12) rfl (by decide) rfl (wl_val (at_move rfl) rfl (wl_on (t := 12) rfl (by decide) rfl (wl_val (at_conv Try.underlying64 Try.underlying3 rfl) rfl (wl_on (t := 12) rfl (by decide) rfl (wl_val (at_move rfl) rfl (wl_on (t := 12) rfl (by decide) rfl ?_))))))
    obtain ⟨q8, h⟩ := h
    exact wl_val (at_shl rfl rfl q8) rfl (wl_on (t := 12) rfl (by decide) rfl (wl_val (at_geq rfl rfl) rfl (wl_val (at_pick_f rfl rfl) rfl (wl_nil (wk_prune [(0, .int .u16 a0), (1, .int .i8 a1), (18, .bool (decide ((shlI .i64 1 a1) ≤ (IntKind.wrap .i64 a0))))] ⟨rfl, rfl, rfl, trivial⟩ (fun f1 => hJ1 ((decide ((shlI .i64 1 a1) ≤ (IntKind.wrap .i64 a0)))) _ f1 h so))))))
end Go.Proofs.Ytmnoecpnoofdjaa.G
