/- Of this text what the row needs. -/
import Derived.Test.YtmnoecpnoofdjaaQPenCostKshelf
import Derived.Test.YtmnoecpnoofdjaaQPenCostKmagnitude
namespace Go.Proofs.Ytmnoecpnoofdjaa.G
open Go.RowKit
set_option linter.unusedVariables false
set_option linter.unusedSimpArgs false
def runs_may.enc : Bool → Value := fun r => .bool r
def runs_may.s (a0 : Option Addr) (H0 : Hp) (Q : Bool → Hp → Prop) : Prop :=
  ∃ k1, Fix (fun (rec6 : Int → Hp → Prop) (s3 : Int) (H4 : Hp) => if decide (s3 < 64) = true then (someA a0 (fun p7 => 0 ≤ s3 ∧ s3 < (64 : Int) ∧ (ldI .i16 H4 (p7.add (Int.toNat s3 * 1)) (fun x11 => Join (fun (s15 : Bool) (H16 : Hp) => if s15 = true then (Q false H16) else (rec6 ((IntKind.wrap .i64 (s3 + 1))) H16)) (fun (J14 : Bool → Hp → Prop) => if (s3 == 0) = true then (if decide (x11 < (-1024)) = true then (J14 (true) H4) else (if decide ((1023 : Int) < x11) = true then (J14 (true) H4) else (if decide ((0 : Int) < s3) = true then (if decide (x11 < (-1023)) = true then (J14 (true) H4) else (J14 ((decide ((1023 : Int) < x11))) H4)) else (J14 (false) H4)))) else (if decide ((0 : Int) < s3) = true then (if decide (x11 < (-1023)) = true then (J14 (true) H4) else (J14 ((decide ((1023 : Int) < x11))) H4)) else (J14 (false) H4))))))) else (Q true H4)) k1 (0) H0
set_option maxRecDepth 20000 in
set_option maxHeartbeats 4000000 in
theorem runs_may.calls (a0 : Option Addr) (w0 : World) (Q : Bool → Hp → Prop) (h : runs_may.s a0 w0.heap Q) :
    Ca Try.prog 61 #[.pointer a0] w0 (Rt runs_may.enc Q w0) := by
  refine ca_start (c := _) Try.func61 rfl Try.ntmps61 rfl ?_
  have so : Sm w0 w0 := Sm.refl w0
  unfold runs_may.s at h
  refine wc_prune [(0, .pointer a0)] ⟨rfl, trivial⟩ (fun f1 => ?_)
  refine wc_seq ?_
  refine wc_region ?_
  refine wl_val (at_assign rfl) rfl ?_
  refine wl_nil ?_
  refine wk_prune [(0, .pointer a0)] ⟨rfl, trivial⟩ (fun f1 => ?_)
  refine wk_then ?_
  refine wc_seq ?_
  refine wc_seq ?_
  refine wc_region ?_
  refine wl_val (at_move rfl) rfl ?_
  refine wl_val (at_move rfl) rfl ?_
  refine wl_nil ?_
  refine wk_prune [(5, .pointer a0), (6, .int .i64 0)] ⟨rfl, rfl, trivial⟩ (fun f1 => ?_)
  refine wk_then ?_
  refine wc_block ?_
  obtain ⟨k1, h⟩ := h
  refine wc_loop (fun k a w => ∃ (s3 : Int) (f1 : Nat → Value), a = ac 35 (en f1 [(5, .pointer a0), (6, .int .i64 s3)]) [] ∧ Sm w0 w ∧ Fix _ k s3 w.heap) k1 ⟨(0), _, ac_again ⟨rfl, rfl, trivial⟩, so, h⟩ ?_
  rintro k2 a5 w4 ⟨s3, f1, rfl, so, h⟩
  rcases k2 with _ | k2
  · exact h.elim
  replace h := Fix.un h; refine wc_in ?_
  refine wc_seq ?_
  refine wc_region ?_
  refine wl_val (at_lss rfl rfl) rfl ?_
  refine wl_nil ?_
  refine wk_prune [(5, .pointer a0), (6, .int .i64 s3), (7, .bool (decide (s3 < 64)))] ⟨rfl, rfl, rfl, trivial⟩ (fun f1 => ?_)
  refine wk_then ?_
  refine wc_seq ?_
  refine wc_cond rfl h (fun h => ?_) (fun h => ?_)
  · refine wc_skip ?_
    refine wk_prune [(5, .pointer a0), (6, .int .i64 s3)] ⟨rfl, rfl, trivial⟩ (fun f1 => ?_)
    refine wk_then ?_
    refine wc_seq ?_
    refine wc_block ?_
    refine wc_seq ?_
    refine wc_draw mixed (by kernel_rfl) so ?_
    refine wq_val (at_move rfl) rfl ?_
    obtain ⟨p7, q8, h⟩ := h
    refine wq_val (at_nilCheck (congrArg Value.pointer q8)) rfl ?_
    obtain ⟨q9, q10, h⟩ := h
    refine wq_val (at_ixAddrA Try.underlying57 sz55 rfl rfl q9 q10) rfl ?_
    obtain ⟨x11, q12, h⟩ := h
    refine wq_val (at_load Try.underlying55 rfl rfl q12) rfl ?_
    refine wq_val (at_assign rfl) rfl ?_
    refine wq_val (at_assign rfl) rfl ?_
    refine wq_nil ?_; intro w13 hw so; rw [← hw] at h; clear hw
    refine wk_prune [(3, .int .i64 s3), (4, .int .i16 x11), (5, .pointer a0), (6, .int .i64 s3)] ⟨rfl, rfl, rfl, rfl, trivial⟩ (fun f1 => ?_)
    refine wk_then ?_
    refine wc_seq ?_
    refine wc_join (w0 := w0) (fun (s15 : Bool) => [(5, .pointer a0), (6, .int .i64 s3), (33, .bool s15)]) h ?_ ?_
    · rintro s15 w16 f1 h so; refine wk_then ?_
      refine wc_cond rfl h (fun h => ?_) (fun h => ?_)
      · refine wc_seq ?_
        refine wc_region ?_
        refine wl_val (at_assign rfl) rfl ?_
        refine wl_nil ?_
        refine wk_prune [(2, .bool false)] ⟨rfl, trivial⟩ (fun f1 => ?_)
        refine wk_then ?_
        refine wc_ret ?_
        refine wk_blkR ?_
        refine wk_thenR ?_
        refine wk_thenR ?_
        refine wk_blkR ?_
        refine wk_thenR ?_
        exact wk_ret1 (x := false) rfl (by decide) rfl so h
      · refine wc_skip ?_
        refine wk_blkN ?_
        refine wk_prune [(5, .pointer a0), (6, .int .i64 s3)] ⟨rfl, rfl, trivial⟩ (fun f1 => ?_)
        refine wk_then ?_
        refine wc_region ?_
        refine wl_val (at_add rfl rfl) rfl ?_
        refine wl_val (at_move rfl) rfl ?_
        refine wl_nil ?_
        exact wk_again ⟨((IntKind.wrap .i64 (s3 + 1))), _, ac_again ⟨rfl, rfl, trivial⟩, so, h⟩
    · intro J14 h hJ14
      refine wc_region ?_
      refine wl_val (at_move rfl) rfl ?_
      refine wl_val (at_eql rfl rfl) rfl ?_
      refine wl_val (at_move rfl) rfl ?_
      refine bif_ h (fun hb h => ?_) (fun hb h => ?_)
      · refine wl_set (t := 14) (v := .bool true) (congrArg Value.bool hb) ?_; clear hb
        refine wl_on (t := 14) rfl (by decide) rfl ?_
        refine wl_val (at_move rfl) rfl ?_
        refine wl_on (t := 14) rfl (by decide) rfl ?_
        refine wl_val (at_lss rfl rfl) rfl ?_
        refine wl_on (t := 14) rfl (by decide) rfl ?_
        refine wl_val (at_move rfl) rfl ?_
        refine bif_ h (fun hb h => ?_) (fun hb h => ?_)
        · refine wl_set (t := 17) (v := .bool true) (congrArg Value.bool hb) ?_; clear hb
          refine wl_off (t := 17) rfl (by decide) rfl ?_
          refine wl_off (t := 17) rfl (by decide) rfl ?_
          refine wl_on (t := 14) rfl (by decide) rfl ?_
          refine wl_val (at_pick_t rfl rfl) rfl ?_
          refine wl_val (at_pick_t rfl rfl) rfl ?_
          refine wl_val (at_move rfl) rfl ?_
          refine wl_off (t := 22) rfl (by decide) rfl ?_
          refine wl_off (t := 22) rfl (by decide) rfl ?_
          refine wl_off (t := 22) rfl (by decide) rfl ?_
          refine wl_off' (t := 25) rfl (by decide) rfl ?_
          refine wl_off' (t := 25) rfl (by decide) rfl ?_
          refine wl_off' (t := 25) rfl (by decide) rfl ?_
          refine wl_off' (t := 28) rfl (by decide) rfl ?_
          refine wl_off' (t := 28) rfl (by decide) rfl ?_
          refine wl_off' (t := 25) rfl (by decide) rfl ?_
          refine wl_off (t := 22) rfl (by decide) rfl ?_
          refine wl_val (at_pick_t rfl rfl) rfl ?_
          refine wl_nil ?_
          exact wk_prune [(5, .pointer a0), (6, .int .i64 s3), (33, .bool true)] ⟨rfl, rfl, rfl, trivial⟩ (fun f1 => hJ14 (true) _ f1 h so)
        · refine wl_set (t := 17) (v := .bool false) (congrArg Value.bool hb) ?_; clear hb
          refine wl_on (t := 17) rfl (by decide) rfl ?_
          refine wl_val (at_move rfl) rfl ?_
          refine wl_on (t := 17) rfl (by decide) rfl ?_
          refine wl_val (at_gtr rfl rfl) rfl ?_
          refine wl_on (t := 14) rfl (by decide) rfl ?_
          refine wl_val (at_pick_f rfl rfl) rfl ?_
          refine wl_val (at_pick_t rfl rfl) rfl ?_
          refine wl_val (at_move rfl) rfl ?_
          refine bif_ h (fun hb h => ?_) (fun hb h => ?_)
          · refine wl_set (t := 22) (v := .bool true) (congrArg Value.bool hb) ?_; clear hb
            refine wl_off (t := 22) rfl (by decide) rfl ?_
            refine wl_off (t := 22) rfl (by decide) rfl ?_
            refine wl_off (t := 22) rfl (by decide) rfl ?_
            refine wl_off' (t := 25) rfl (by decide) rfl ?_
            refine wl_off' (t := 25) rfl (by decide) rfl ?_
            refine wl_off' (t := 25) rfl (by decide) rfl ?_
            refine wl_off' (t := 28) rfl (by decide) rfl ?_
            refine wl_off' (t := 28) rfl (by decide) rfl ?_
            refine wl_off' (t := 25) rfl (by decide) rfl ?_
            refine wl_off (t := 22) rfl (by decide) rfl ?_
            refine wl_val (at_pick_t rfl rfl) rfl ?_
            refine wl_nil ?_
            exact wk_prune [(5, .pointer a0), (6, .int .i64 s3), (33, .bool true)] ⟨rfl, rfl, rfl, trivial⟩ (fun f1 => hJ14 (true) _ f1 h so)
          · refine wl_set (t := 22) (v := .bool false) (congrArg Value.bool hb) ?_; clear hb
            refine wl_on (t := 22) rfl (by decide) rfl ?_
            refine wl_val (at_move rfl) rfl ?_
            refine wl_on (t := 22) rfl (by decide) rfl ?_
            refine wl_val (at_gtr rfl rfl) rfl ?_
            refine wl_on (t := 22) rfl (by decide) rfl ?_
            refine wl_val (at_move rfl) rfl ?_
            refine bif_ h (fun hb h => ?_) (fun hb h => ?_)
            · refine wl_set (t := 25) (v := .bool true) (congrArg Value.bool hb) ?_; clear hb
              refine wl_on (t := 25) rfl (by decide) rfl ?_
              refine wl_val (at_move rfl) rfl ?_
              refine wl_on (t := 25) rfl (by decide) rfl ?_
              refine wl_val (at_lss rfl rfl) rfl ?_
              refine wl_on (t := 25) rfl (by decide) rfl ?_
              refine wl_val (at_move rfl) rfl ?_
              refine bif_ h (fun hb h => ?_) (fun hb h => ?_)
              · refine wl_set (t := 28) (v := .bool true) (congrArg Value.bool hb) ?_; clear hb
                refine wl_off (t := 28) rfl (by decide) rfl ?_
                refine wl_off (t := 28) rfl (by decide) rfl ?_
                refine wl_on (t := 25) rfl (by decide) rfl ?_
                refine wl_val (at_pick_t rfl rfl) rfl ?_
                refine wl_on (t := 22) rfl (by decide) rfl ?_
                refine wl_val (at_pick_t rfl rfl) rfl ?_
                refine wl_val (at_pick_f rfl rfl) rfl ?_
                refine wl_nil ?_
                exact wk_prune [(5, .pointer a0), (6, .int .i64 s3), (33, .bool true)] ⟨rfl, rfl, rfl, trivial⟩ (fun f1 => hJ14 (true) _ f1 h so)
              · refine wl_set (t := 28) (v := .bool false) (congrArg Value.bool hb) ?_; clear hb
                refine wl_on (t := 28) rfl (by decide) rfl ?_
                refine wl_val (at_move rfl) rfl ?_
                refine wl_on (t := 28) rfl (by decide) rfl ?_
                refine wl_val (at_gtr rfl rfl) rfl ?_
                refine wl_on (t := 25) rfl (by decide) rfl ?_
                refine wl_val (at_pick_f rfl rfl) rfl ?_
                refine wl_on (t := 22) rfl (by decide) rfl ?_
                refine wl_val (at_pick_t rfl rfl) rfl ?_
                refine wl_val (at_pick_f rfl rfl) rfl ?_
                refine wl_nil ?_
                exact wk_prune [(5, .pointer a0), (6, .int .i64 s3), (33, .bool (decide ((1023 : Int) < x11)))] ⟨rfl, rfl, rfl, trivial⟩ (fun f1 => hJ14 ((decide ((1023 : Int) < x11))) _ f1 h so)
            · refine wl_set (t := 25) (v := .bool false) (congrArg Value.bool hb) ?_; clear hb
              refine wl_off (t := 25) rfl (by decide) rfl ?_
              refine wl_off (t := 25) rfl (by decide) rfl ?_
              refine wl_off (t := 25) rfl (by decide) rfl ?_
              refine wl_off' (t := 28) rfl (by decide) rfl ?_
              refine wl_off' (t := 28) rfl (by decide) rfl ?_
              refine wl_off (t := 25) rfl (by decide) rfl ?_
              refine wl_on (t := 22) rfl (by decide) rfl ?_
              refine wl_val (at_pick_f rfl rfl) rfl ?_
              refine wl_val (at_pick_f rfl rfl) rfl ?_
              refine wl_nil ?_
              exact wk_prune [(5, .pointer a0), (6, .int .i64 s3), (33, .bool false)] ⟨rfl, rfl, rfl, trivial⟩ (fun f1 => hJ14 (false) _ f1 h so)
      · refine wl_set (t := 14) (v := .bool false) (congrArg Value.bool hb) ?_; clear hb
        refine wl_off (t := 14) rfl (by decide) rfl ?_
        refine wl_off (t := 14) rfl (by decide) rfl ?_
        refine wl_off (t := 14) rfl (by decide) rfl ?_
        refine wl_off' (t := 17) rfl (by decide) rfl ?_
        refine wl_off' (t := 17) rfl (by decide) rfl ?_
        refine wl_off (t := 14) rfl (by decide) rfl ?_
        refine wl_val (at_pick_f rfl rfl) rfl ?_
        refine wl_val (at_move rfl) rfl ?_
        refine wl_on (t := 22) rfl (by decide) rfl ?_
        refine wl_val (at_move rfl) rfl ?_
        refine wl_on (t := 22) rfl (by decide) rfl ?_
        refine wl_val (at_gtr rfl rfl) rfl ?_
        refine wl_on (t := 22) rfl (by decide) rfl ?_
        refine wl_val (at_move rfl) rfl ?_
        refine bif_ h (fun hb h => ?_) (fun hb h => ?_)
        · refine wl_set (t := 25) (v := .bool true) (congrArg Value.bool hb) ?_; clear hb
          refine wl_on (t := 25) rfl (by decide) rfl ?_
          refine wl_val (at_move rfl) rfl ?_
          refine wl_on (t := 25) rfl (by decide) rfl ?_
          refine wl_val (at_lss rfl rfl) rfl ?_
          refine wl_on (t := 25) rfl (by decide) rfl ?_
          refine wl_val (at_move rfl) rfl ?_
          refine bif_ h (fun hb h => ?_) (fun hb h => ?_)
          · refine wl_set (t := 28) (v := .bool true) (congrArg Value.bool hb) ?_; clear hb
            refine wl_off (t := 28) rfl (by decide) rfl ?_
            refine wl_off (t := 28) rfl (by decide) rfl ?_
            refine wl_on (t := 25) rfl (by decide) rfl ?_
            refine wl_val (at_pick_t rfl rfl) rfl ?_
            refine wl_on (t := 22) rfl (by decide) rfl ?_
            refine wl_val (at_pick_t rfl rfl) rfl ?_
            refine wl_val (at_pick_f rfl rfl) rfl ?_
            refine wl_nil ?_
            exact wk_prune [(5, .pointer a0), (6, .int .i64 s3), (33, .bool true)] ⟨rfl, rfl, rfl, trivial⟩ (fun f1 => hJ14 (true) _ f1 h so)
          · refine wl_set (t := 28) (v := .bool false) (congrArg Value.bool hb) ?_; clear hb
            refine wl_on (t := 28) rfl (by decide) rfl ?_
            refine wl_val (at_move rfl) rfl ?_
            refine wl_on (t := 28) rfl (by decide) rfl ?_
            refine wl_val (at_gtr rfl rfl) rfl ?_
            refine wl_on (t := 25) rfl (by decide) rfl ?_
            refine wl_val (at_pick_f rfl rfl) rfl ?_
            refine wl_on (t := 22) rfl (by decide) rfl ?_
            refine wl_val (at_pick_t rfl rfl) rfl ?_
            refine wl_val (at_pick_f rfl rfl) rfl ?_
            refine wl_nil ?_
            exact wk_prune [(5, .pointer a0), (6, .int .i64 s3), (33, .bool (decide ((1023 : Int) < x11)))] ⟨rfl, rfl, rfl, trivial⟩ (fun f1 => hJ14 ((decide ((1023 : Int) < x11))) _ f1 h so)
        · refine wl_set (t := 25) (v := .bool false) (congrArg Value.bool hb) ?_; clear hb
          refine wl_off (t := 25) rfl (by decide) rfl ?_
          refine wl_off (t := 25) rfl (by decide) rfl ?_
          refine wl_off (t := 25) rfl (by decide) rfl ?_
          refine wl_off' (t := 28) rfl (by decide) rfl ?_
          refine wl_off' (t := 28) rfl (by decide) rfl ?_
          refine wl_off (t := 25) rfl (by decide) rfl ?_
          refine wl_on (t := 22) rfl (by decide) rfl ?_
          refine wl_val (at_pick_f rfl rfl) rfl ?_
          refine wl_val (at_pick_f rfl rfl) rfl ?_
          refine wl_nil ?_
          exact wk_prune [(5, .pointer a0), (6, .int .i64 s3), (33, .bool false)] ⟨rfl, rfl, rfl, trivial⟩ (fun f1 => hJ14 (false) _ f1 h so)
  · refine wc_exit ?_
    refine wk_thenE ?_
    refine wk_thenE ?_
    refine wk_blkE ?_
    refine wk_prune [] trivial (fun f1 => ?_)
    refine wk_then ?_
    refine wc_seq ?_
    refine wc_region ?_
    refine wl_val (at_assign rfl) rfl ?_
    refine wl_nil ?_
    refine wk_prune [(2, .bool true)] ⟨rfl, trivial⟩ (fun f1 => ?_)
    refine wk_then ?_
    refine wc_ret ?_
    exact wk_ret1 (x := true) rfl (by decide) rfl so h
def runs_sym.enc : Int × Int × Int → Value := fun r => .agg (c66 r.1 r.2.1 r.2.2).toArray
def runs_sym.s (a0 : Int) (a1 : Int) (H0 : Hp) (Q : (Int × Int × Int) → Hp → Prop) : Prop :=
  Gn [] H0 (fun (b1 : Nat) (H2 : Hp) => magnitude_Bits.s a1 H2 (fun x3 H4 => Pv [b1] H2 H4 ∧ (Gr [b1] H4 (fun (H6 : Hp) => Q ((Go.bits .or .u8 (shlI .u8 (IntKind.wrap .u8 a0) 4) (IntKind.wrap .u8 x3.2.1)), x3.2.1, x3.1) H6))))
set_option maxRecDepth 20000 in
set_option maxHeartbeats 4000000 in
theorem runs_sym.calls (a0 : Int) (a1 : Int) (w0 : World) (Q : (Int × Int × Int) → Hp → Prop) (h : runs_sym.s a0 a1 w0.heap Q) :
    Ca Try.prog 63 #[.int .i64 a0, .int .i64 a1] w0 (Rt runs_sym.enc Q w0) := by
  refine ca_start (c := _) Try.func63 rfl Try.ntmps63 rfl ?_
  have so : Sm w0 w0 := Sm.refl w0
  unfold runs_sym.s at h
  refine wc_prune [(0, .int .i64 a0), (1, .int .i64 a1)] ⟨rfl, rfl, trivial⟩ (fun f1 => ?_)
  refine wc_seq ?_
  refine wc_region ?_
  refine wl_newT (T := 66) (cs := (c66 0 0 0)) (ef_alloc zero66 rfl) rfl so ?_; intro b1 w2 hb_b1 t_b1 k_b1 so
  have g_b1 := Nat.le_of_eq hb_b1.symm
  have hc := k_b1.ch (F := [])
  refine wl_nil ?_
  refine wk_prune [(0, .int .i64 a0), (1, .int .i64 a1), (4, .pointer (some (⟨b1, 0, none⟩ : Addr)))] ⟨rfl, rfl, rfl, trivial⟩ (fun f1 => ?_)
  refine wk_then ?_
  refine wc_seq ?_
  refine wc_region ?_
  refine wl_val (at_move rfl) rfl ?_
  replace h := h b1 _ hc g_b1 t_b1.lt; clear hc
  refine wl_callF (magnitude_Bits.calls _ _ _ h) enter74 rfl trivial so ?_; intro x3 w4 h so
  obtain ⟨q5, h⟩ := h
  replace t_b1 := pv_bk q5 t_b1 (by simp)
  refine wl_val (at_move rfl) rfl ?_
  refine wl_val (at_extract rfl rfl) rfl ?_
  refine wl_val (at_extract rfl rfl) rfl ?_
  refine wl_val (at_extract rfl rfl) rfl ?_
  refine wl_val (at_assign rfl) rfl ?_
  refine wl_val (at_assign rfl) rfl ?_
  refine wl_val (at_assign rfl) rfl ?_
  refine wl_nil ?_
  refine wk_prune [(0, .int .i64 a0), (4, .pointer (some (⟨b1, 0, none⟩ : Addr))), (5, .int .u16 x3.1), (6, .int .i8 x3.2.1)] ⟨rfl, rfl, rfl, rfl, trivial⟩ (fun f1 => ?_)
  refine wk_then ?_
  refine wc_seq ?_
  refine wc_region ?_
  refine wl_val (at_move rfl) rfl ?_
  refine wl_val (at_conv Try.underlying3 Try.underlying5 rfl) rfl ?_
  refine wl_val (at_shl rfl rfl (by decide)) rfl ?_
  refine wl_val (at_move rfl) rfl ?_
  refine wl_val (at_conv Try.underlying46 Try.underlying5 rfl) rfl ?_
  refine wl_val (at_or rfl rfl) rfl ?_
  refine wl_val (at_move rfl) rfl ?_
  refine wl_val (at_move rfl) rfl ?_
  refine wl_val (at_build (cs := (c66 (Go.bits .or .u8 (shlI .u8 (IntKind.wrap .u8 a0) 4) (IntKind.wrap .u8 x3.2.1)) x3.2.1 x3.1)) (ps := [(0, .int .u8 (Go.bits .or .u8 (shlI .u8 (IntKind.wrap .u8 a0) 4) (IntKind.wrap .u8 x3.2.1))), (1, .int .i8 x3.2.1), (2, .int .u16 x3.1)]) rfl (fun w => by simp [Instr.build, Instr.fill, go_sem, Try.underlying66, z66] <;> rfl)) rfl ?_
  refine wl_stWT (vs := (c66 (Go.bits .or .u8 (shlI .u8 (IntKind.wrap .u8 a0) 4) (IntKind.wrap .u8 x3.2.1)) x3.2.1 x3.1)) t_b1 (by first | (rw [len66, len66]) | (rw [len66]) | rfl) rfl so (fun q => ef_storeA (p := (⟨b1, 0, none⟩ : Addr)) (cs := (c66 (Go.bits .or .u8 (shlI .u8 (IntKind.wrap .u8 a0) 4) (IntKind.wrap .u8 x3.2.1)) x3.2.1 x3.1)) (by rw [len66]; exact sz66) rfl rfl (one66 _ _ _) q) ?_; intro w6 t_b1 s_w6 so
  have hc := s_w6.ch
  refine wl_nil ?_
  refine wk_prune [(4, .pointer (some (⟨b1, 0, none⟩ : Addr)))] ⟨rfl, trivial⟩ (fun f1 => ?_)
  refine wk_then ?_
  refine wc_ret ?_
  replace h := h _ hc; clear hc
  exact wk_retR1 (x := ((Go.bits .or .u8 (shlI .u8 (IntKind.wrap .u8 a0) 4) (IntKind.wrap .u8 x3.2.1)), x3.2.1, x3.1)) rfl ⟨by decide, _, rfl, loadVar_agg (cs := (c66 (Go.bits .or .u8 (shlI .u8 (IntKind.wrap .u8 a0) 4) (IntKind.wrap .u8 x3.2.1)) x3.2.1 x3.1)) Try.underlying66 rfl (by rw [len66]; exact sz66) (ldA_full t_b1)⟩ rfl so h
def runs_Symbols.enc : Sl × Int → Value := fun r => .tuple #[.slice r.1.a r.1.n r.1.c, .int .i64 r.2]
def runs_Symbols.s (a0_0 : Ints 64) (a1 : Int) (H0 : Hp) (Q : (Sl × Int) → Hp → Prop) : Prop :=
  Gn [] H0 (fun (b1 : Nat) (H2 : Hp) => Bk H2 b1 57 (c57 a0_0) → (runs_may.s (some (⟨b1, 0, none⟩ : Addr)) H2 (fun x3 H4 => if (!x3) = true then (Q (⟨none, 0, 0⟩, 3) H4) else (ldI .i16 H4 (⟨b1, 0, none⟩ : Addr) (fun x5 => Lt ((IntKind.wrap .i64 ((IntKind.wrap .i64 x5) - (IntKind.wrap .i64 a1))) : Int) (fun x7 => magnitude_Size.s x7 H4 (fun x9 H10 => if decide ((11 : Int) < x9) = true then (Q (⟨none, 0, 0⟩, 60) H10) else (runs_sym.s 0 x7 H10 (fun x11 H12 => nw H12 66 (c66 x11.1 x11.2.1 x11.2.2) (fun p13 H14 => ∃ k17, Fix (fun (rec22 : (Sl × Int × Int) → Hp → Prop) (s19 : Sl × Int × Int) (H20 : Hp) => if decide (s19.2.2 < ((64 - 1) : Int)) = true then (Join (fun (s24 : Sl × Int) (H25 : Hp) => rec22 (s24.1, s24.2, (IntKind.wrap .i64 (s19.2.2 + 1))) H25) (fun (J23 : (Sl × Int) → Hp → Prop) => 0 ≤ s19.2.2 ∧ s19.2.2 < ((64 - 1) : Int) ∧ (ldI .i16 H20 (((⟨b1, 0, none⟩ : Addr).add (1 * 1)).add (Int.toNat s19.2.2 * 1)) (fun x28 => if (x28 == 0) = true then (J23 (s19.1, (IntKind.wrap .i64 (s19.2.1 + 1))) H20) else (∃ k30, Fix (fun (rec35 : (Sl × Int) → Hp → Prop) (s32 : Sl × Int) (H33 : Hp) => if decide ((15 : Int) < s32.2) = true then (nw H33 66 (c66 240 0 0) (fun p36 H37 => apS H37 s32.1 66 3 4 z66.cells 1 (c66 240 0 0) (fun l41 H42 => rec35 (l41, (IntKind.wrap .i64 (s32.2 - 16))) H42))) else (runs_sym.s s32.2 (IntKind.wrap .i64 x28) H33 (fun x43 H44 => nw H44 66 (c66 x43.1 x43.2.1 x43.2.2) (fun p45 H46 => apS H46 s32.1 66 3 4 z66.cells 1 (c66 x43.1 x43.2.1 x43.2.2) (fun l50 H51 => J23 (l50, 0) H51))))) k30 (s19.1, s19.2.1) H20))))) else (Join (fun (s53 : Sl) (H54 : Hp) => Q (s53, 0) H54) (fun (J52 : Sl → Hp → Prop) => if decide ((0 : Int) < s19.2.1) = true then (nw H20 66 (c66 0 0 0) (fun p55 H56 => apS H56 s19.1 66 3 4 z66.cells 1 (c66 0 0 0) (fun l60 H61 => J52 (l60) H61))) else (J52 (s19.1) H20)))) k17 (⟨(some p13), 1, 1⟩, 0, 0) H14))))))))))
set_option maxRecDepth 20000 in
set_option maxHeartbeats 4000000 in
theorem runs_Symbols.calls (a0_0 : Ints 64) (a1 : Int) (w0 : World) (Q : (Sl × Int) → Hp → Prop) (h : runs_Symbols.s a0_0 a1 w0.heap Q) :
    Ca Try.prog 36 #[.agg (c57 a0_0).toArray, .int .i16 a1] w0 (Rt runs_Symbols.enc Q w0) := by
  refine ca_start (c := _) Try.func36 rfl Try.ntmps36 rfl ?_
  have so : Sm w0 w0 := Sm.refl w0
  unfold runs_Symbols.s at h
  refine wc_prune [(0, .agg (c57 a0_0).toArray), (1, .int .i16 a1)] ⟨rfl, rfl, trivial⟩ (fun f1 => ?_)
  refine wc_seq ?_
  refine wc_region ?_
  refine wl_newT (T := 57) (cs := (c57 a0_0)) (ef_box rfl rfl) rfl so ?_; intro b1 w2 hb_b1 t_b1 k_b1 so
  have g_b1 := Nat.le_of_eq hb_b1.symm
  have hc := k_b1.ch (F := [])
  refine wl_val (at_assign rfl) rfl ?_
  refine wl_val (at_assign rfl) rfl ?_
  refine wl_nil ?_
  refine wk_prune [(1, .int .i16 a1), (2, .pointer (some (⟨b1, 0, none⟩ : Addr)))] ⟨rfl, rfl, trivial⟩ (fun f1 => ?_)
  refine wk_then ?_
  refine wc_seq ?_
  refine wc_seq ?_
  refine wc_region ?_
  replace h := h b1 _ hc g_b1 t_b1.lt; clear hc
  replace h := h t_b1
  refine wl_callF (runs_may.calls _ _ _ h) enter61 rfl trivial so ?_; intro x3 w4 h so
  refine wl_val (at_not rfl) rfl ?_
  refine wl_nil ?_
  refine wk_prune [(1, .int .i16 a1), (2, .pointer (some (⟨b1, 0, none⟩ : Addr))), (12, .bool (!x3))] ⟨rfl, rfl, rfl, trivial⟩ (fun f1 => ?_)
  refine wk_then ?_
  refine wc_cond rfl h (fun h => ?_) (fun h => ?_)
  · refine wc_seq ?_
    refine wc_region ?_
    refine wl_val (at_assign rfl) rfl ?_
    refine wl_val (at_assign rfl) rfl ?_
    refine wl_nil ?_
    refine wk_prune [(4, .slice none 0 0), (5, .int .i64 3)] ⟨rfl, rfl, trivial⟩ (fun f1 => ?_)
    refine wk_then ?_
    refine wc_ret ?_
    refine wk_thenR ?_
    exact wk_ret2 (x := (⟨none, 0, 0⟩, 3)) rfl (by decide) (by decide) rfl so h
  · refine wc_skip ?_
    refine wk_prune [(1, .int .i16 a1), (2, .pointer (some (⟨b1, 0, none⟩ : Addr)))] ⟨rfl, rfl, trivial⟩ (fun f1 => ?_)
    refine wk_then ?_
    refine wc_seq ?_
    refine wc_region ?_
    refine wl_val (at_ixAddrA Try.underlying57 sz55 rfl rfl (by decide) (by decide)) rfl ?_
    obtain ⟨x5, q6, h⟩ := h
    refine wl_val (at_load Try.underlying55 rfl rfl q6) rfl ?_
    refine wl_val (at_conv Try.underlying55 Try.underlying3 rfl) rfl ?_
    refine wl_val (at_move rfl) rfl ?_
    refine wl_val (at_conv Try.underlying55 Try.underlying3 rfl) rfl ?_
    refine wl_val (at_sub rfl rfl) rfl ?_
    refine wl_val (at_assign rfl) rfl ?_
    obtain ⟨x7, e8⟩ : ∃ x : Int, x = (IntKind.wrap .i64 ((IntKind.wrap .i64 x5) - (IntKind.wrap .i64 a1))) := ⟨_, rfl⟩; replace h := h x7 e8
    refine wl_set (t := 6) (v := .int .i64 x7) (congrArg (Value.int .i64) e8.symm) ?_
    refine wl_nil ?_
    refine wk_prune [(2, .pointer (some (⟨b1, 0, none⟩ : Addr))), (6, .int .i64 x7)] ⟨rfl, rfl, trivial⟩ (fun f1 => ?_)
    refine wk_then ?_
    refine wc_seq ?_
    refine wc_seq ?_
    refine wc_region ?_
    refine wl_val (at_move rfl) rfl ?_
    refine wl_callF (magnitude_Size.calls _ _ _ h) enter62 rfl trivial so ?_; intro x9 w10 h so
    refine wl_val (at_gtr rfl rfl) rfl ?_
    refine wl_nil ?_
    refine wk_prune [(2, .pointer (some (⟨b1, 0, none⟩ : Addr))), (6, .int .i64 x7), (21, .bool (decide ((11 : Int) < x9)))] ⟨rfl, rfl, rfl, trivial⟩ (fun f1 => ?_)
    refine wk_then ?_
    refine wc_cond rfl h (fun h => ?_) (fun h => ?_)
    · refine wc_seq ?_
      refine wc_region ?_
      refine wl_val (at_assign rfl) rfl ?_
      refine wl_val (at_assign rfl) rfl ?_
      refine wl_nil ?_
      refine wk_prune [(4, .slice none 0 0), (5, .int .i64 60)] ⟨rfl, rfl, trivial⟩ (fun f1 => ?_)
      refine wk_then ?_
      refine wc_ret ?_
      refine wk_thenR ?_
      exact wk_ret2 (x := (⟨none, 0, 0⟩, 60)) rfl (by decide) (by decide) rfl so h
    · refine wc_skip ?_
      refine wk_prune [(2, .pointer (some (⟨b1, 0, none⟩ : Addr))), (6, .int .i64 x7)] ⟨rfl, rfl, trivial⟩ (fun f1 => ?_)
      refine wk_then ?_
      refine wc_seq ?_
      refine wc_region ?_
      refine wl_val (at_move rfl) rfl ?_
      refine wl_callF (runs_sym.calls _ _ _ _ h) enter63 rfl trivial so ?_; intro x11 w12 h so
      obtain ⟨i16, i16a, i16b, i16c, i16d⟩ := info66
      refine wl_newS (ef_buildSlice (cs := (c66 x11.1 x11.2.1 x11.2.2)) (ps := [(0, .agg (c66 x11.1 x11.2.1 x11.2.2).toArray)]) Try.underlying107 i16a i16b rfl (by rw [i16c]; decide) (by rw [i16c]; exact fill_full (vs := [.agg (c66 x11.1 x11.2.1 x11.2.2).toArray]) rfl (by simp [Value.cells]) (by simp [Value.cells, len66]) rfl (by simp))) rfl so (one66 _ _ _) h ?_; intro p13 w14 h r15 so
      refine wl_val (at_assign rfl) rfl ?_
      refine wl_nil ?_
      refine wk_prune [(2, .pointer (some (⟨b1, 0, none⟩ : Addr))), (7, .slice (some p13) 1 1)] ⟨rfl, rfl, trivial⟩ (fun f1 => ?_)
      refine wk_then ?_
      refine wc_seq ?_
      refine wc_region ?_
      refine wl_val (at_assign rfl) rfl ?_
      refine wl_nil ?_
      refine wk_prune [(2, .pointer (some (⟨b1, 0, none⟩ : Addr))), (7, .slice (some p13) 1 1), (8, .int .i64 0)] ⟨rfl, rfl, rfl, trivial⟩ (fun f1 => ?_)
      refine wk_then ?_
      refine wc_seq ?_
      refine wc_seq ?_
      refine wc_region ?_
      refine wl_val (at_subAl (l := 1) Try.underlying57 sz55 rfl rfl (by decide)) rfl ?_
      refine wl_val (at_lenL Try.underlying87 rfl) rfl ?_
      refine wl_val (at_move rfl) rfl ?_
      refine wl_nil ?_
      refine wk_prune [(7, .slice (some p13) 1 1), (8, .int .i64 0), (25, .slice (some ((⟨b1, 0, none⟩ : Addr).add (1 * 1))) (64 - 1) (64 - 1)), (26, .int .i64 ((64 - 1) : Int)), (27, .int .i64 0)] ⟨rfl, rfl, rfl, rfl, rfl, trivial⟩ (fun f1 => ?_)
      refine wk_then ?_
      refine wc_block ?_
      obtain ⟨k17, h⟩ := h
      refine wc_loop (fun k a w => ∃ (s19 : Sl × Int × Int) (f1 : Nat → Value), a = ac 58 (en f1 [(7, .slice s19.1.a s19.1.n s19.1.c), (8, .int .i64 s19.2.1), (25, .slice (some ((⟨b1, 0, none⟩ : Addr).add (1 * 1))) (64 - 1) (64 - 1)), (26, .int .i64 ((64 - 1) : Int)), (27, .int .i64 s19.2.2)]) [] ∧ Sm w0 w ∧ Fix _ k s19 w.heap) k17 ⟨(⟨(some p13), 1, 1⟩, 0, 0), _, ac_again ⟨rfl, rfl, rfl, rfl, rfl, trivial⟩, so, h⟩ ?_
      rintro k18 a21 w20 ⟨s19, f1, rfl, so, h⟩
      rcases k18 with _ | k18
      · exact h.elim
      replace h := Fix.un h; refine wc_in ?_
      refine wc_seq ?_
      refine wc_region ?_
      refine wl_val (at_lss rfl rfl) rfl ?_
      refine wl_nil ?_
      refine wk_prune [(7, .slice s19.1.a s19.1.n s19.1.c), (8, .int .i64 s19.2.1), (25, .slice (some ((⟨b1, 0, none⟩ : Addr).add (1 * 1))) (64 - 1) (64 - 1)), (26, .int .i64 ((64 - 1) : Int)), (27, .int .i64 s19.2.2), (28, .bool (decide (s19.2.2 < ((64 - 1) : Int))))] ⟨rfl, rfl, rfl, rfl, rfl, rfl, trivial⟩ (fun f1 => ?_)
      refine wk_then ?_
      refine wc_seq ?_
      refine wc_cond rfl h (fun h => ?_) (fun h => ?_)
      · refine wc_skip ?_
        refine wk_prune [(7, .slice s19.1.a s19.1.n s19.1.c), (8, .int .i64 s19.2.1), (25, .slice (some ((⟨b1, 0, none⟩ : Addr).add (1 * 1))) (64 - 1) (64 - 1)), (26, .int .i64 ((64 - 1) : Int)), (27, .int .i64 s19.2.2)] ⟨rfl, rfl, rfl, rfl, rfl, trivial⟩ (fun f1 => ?_)
        refine wk_then ?_
        refine wc_seq ?_
        refine wc_join (w0 := w0) (fun (s24 : Sl × Int) => [(7, .slice s24.1.a s24.1.n s24.1.c), (8, .int .i64 s24.2), (25, .slice (some ((⟨b1, 0, none⟩ : Addr).add (1 * 1))) (64 - 1) (64 - 1)), (26, .int .i64 ((64 - 1) : Int)), (27, .int .i64 s19.2.2)]) h ?_ ?_
        · rintro s24 w25 f1 h so; refine wk_then ?_
          refine wc_region ?_
          refine wl_val (at_add rfl rfl) rfl ?_
          refine wl_val (at_move rfl) rfl ?_
          refine wl_nil ?_
          exact wk_again ⟨(s24.1, s24.2, (IntKind.wrap .i64 (s19.2.2 + 1))), _, ac_again ⟨rfl, rfl, rfl, rfl, rfl, trivial⟩, so, h⟩
        · intro J23 h hJ23
          refine wc_block ?_
          refine wc_seq ?_
          refine wc_region ?_
          obtain ⟨q26, q27, h⟩ := h
          refine wl_val (at_ixAddrL Try.underlying87 sz55 rfl rfl q26 q27) rfl ?_
          obtain ⟨x28, q29, h⟩ := h
          refine wl_val (at_load Try.underlying55 rfl rfl q29) rfl ?_
          refine wl_val (at_assign rfl) rfl ?_
          refine wl_nil ?_
          refine wk_prune [(7, .slice s19.1.a s19.1.n s19.1.c), (8, .int .i64 s19.2.1), (10, .int .i16 x28), (25, .slice (some ((⟨b1, 0, none⟩ : Addr).add (1 * 1))) (64 - 1) (64 - 1)), (26, .int .i64 ((64 - 1) : Int)), (27, .int .i64 s19.2.2)] ⟨rfl, rfl, rfl, rfl, rfl, rfl, trivial⟩ (fun f1 => ?_)
          refine wk_then ?_
          refine wc_seq ?_
          refine wc_seq ?_
          refine wc_region ?_
          refine wl_val (at_move rfl) rfl ?_
          refine wl_val (at_eql rfl rfl) rfl ?_
          refine wl_nil ?_
          refine wk_prune [(7, .slice s19.1.a s19.1.n s19.1.c), (8, .int .i64 s19.2.1), (10, .int .i16 x28), (25, .slice (some ((⟨b1, 0, none⟩ : Addr).add (1 * 1))) (64 - 1) (64 - 1)), (26, .int .i64 ((64 - 1) : Int)), (27, .int .i64 s19.2.2), (32, .bool (x28 == 0))] ⟨rfl, rfl, rfl, rfl, rfl, rfl, rfl, trivial⟩ (fun f1 => ?_)
          refine wk_then ?_
          refine wc_cond rfl h (fun h => ?_) (fun h => ?_)
          · refine wc_seq ?_
            refine wc_region ?_
            refine wl_val (at_move rfl) rfl ?_
            refine wl_val (at_add rfl rfl) rfl ?_
            refine wl_val (at_assign rfl) rfl ?_
            refine wl_nil ?_
            refine wk_prune [(7, .slice s19.1.a s19.1.n s19.1.c), (8, .int .i64 (IntKind.wrap .i64 (s19.2.1 + 1))), (25, .slice (some ((⟨b1, 0, none⟩ : Addr).add (1 * 1))) (64 - 1) (64 - 1)), (26, .int .i64 ((64 - 1) : Int)), (27, .int .i64 s19.2.2)] ⟨rfl, rfl, rfl, rfl, rfl, trivial⟩ (fun f1 => ?_)
            refine wk_then ?_
            refine wc_exit ?_
            refine wk_thenE ?_
            refine wk_blkE ?_
            exact wk_prune [(7, .slice s19.1.a s19.1.n s19.1.c), (8, .int .i64 (IntKind.wrap .i64 (s19.2.1 + 1))), (25, .slice (some ((⟨b1, 0, none⟩ : Addr).add (1 * 1))) (64 - 1) (64 - 1)), (26, .int .i64 ((64 - 1) : Int)), (27, .int .i64 s19.2.2)] ⟨rfl, rfl, rfl, rfl, rfl, trivial⟩ (fun f1 => hJ23 (s19.1, (IntKind.wrap .i64 (s19.2.1 + 1))) _ f1 h so)
          · refine wc_skip ?_
            refine wk_prune [(7, .slice s19.1.a s19.1.n s19.1.c), (8, .int .i64 s19.2.1), (10, .int .i16 x28), (25, .slice (some ((⟨b1, 0, none⟩ : Addr).add (1 * 1))) (64 - 1) (64 - 1)), (26, .int .i64 ((64 - 1) : Int)), (27, .int .i64 s19.2.2)] ⟨rfl, rfl, rfl, rfl, rfl, rfl, trivial⟩ (fun f1 => ?_)
            refine wk_then ?_
            refine wc_seq ?_
            refine wc_block ?_
            obtain ⟨k30, h⟩ := h
            refine wc_loop (fun k a w => ∃ (s32 : Sl × Int) (f1 : Nat → Value), a = ac 58 (en f1 [(7, .slice s32.1.a s32.1.n s32.1.c), (8, .int .i64 s32.2), (10, .int .i16 x28), (25, .slice (some ((⟨b1, 0, none⟩ : Addr).add (1 * 1))) (64 - 1) (64 - 1)), (26, .int .i64 ((64 - 1) : Int)), (27, .int .i64 s19.2.2)]) [] ∧ Sm w0 w ∧ Fix _ k s32 w.heap) k30 ⟨(s19.1, s19.2.1), _, ac_again ⟨rfl, rfl, rfl, rfl, rfl, rfl, trivial⟩, so, h⟩ ?_
            rintro k31 a34 w33 ⟨s32, f1, rfl, so, h⟩
            rcases k31 with _ | k31
            · exact h.elim
            replace h := Fix.un h; refine wc_in ?_
            refine wc_seq ?_
            refine wc_seq ?_
            refine wc_region ?_
            refine wl_val (at_move rfl) rfl ?_
            refine wl_val (at_gtr rfl rfl) rfl ?_
            refine wl_nil ?_
            refine wk_prune [(7, .slice s32.1.a s32.1.n s32.1.c), (8, .int .i64 s32.2), (10, .int .i16 x28), (25, .slice (some ((⟨b1, 0, none⟩ : Addr).add (1 * 1))) (64 - 1) (64 - 1)), (26, .int .i64 ((64 - 1) : Int)), (27, .int .i64 s19.2.2), (36, .bool (decide ((15 : Int) < s32.2)))] ⟨rfl, rfl, rfl, rfl, rfl, rfl, rfl, trivial⟩ (fun f1 => ?_)
            refine wk_then ?_
            refine wc_cond rfl h (fun h => ?_) (fun h => ?_)
            · refine wc_skip ?_
              refine wk_prune [(7, .slice s32.1.a s32.1.n s32.1.c), (8, .int .i64 s32.2), (10, .int .i16 x28), (25, .slice (some ((⟨b1, 0, none⟩ : Addr).add (1 * 1))) (64 - 1) (64 - 1)), (26, .int .i64 ((64 - 1) : Int)), (27, .int .i64 s19.2.2)] ⟨rfl, rfl, rfl, rfl, rfl, rfl, trivial⟩ (fun f1 => ?_)
              refine wk_then ?_
              refine wc_seq ?_
              refine wc_block ?_
              refine wc_region ?_
              refine wl_val (at_move rfl) rfl ?_
              refine wl_val (at_build (cs := (c66 240 0 0)) (ps := [(0, .int .u8 240)]) rfl (fun w => by simp [Instr.build, Instr.fill, go_sem, Try.underlying66, z66] <;> rfl)) rfl ?_
              obtain ⟨i39, i39a, i39b, i39c, i39d⟩ := info66
              refine wl_newS (ef_buildSlice (cs := (c66 240 0 0)) (ps := [(0, .agg (c66 240 0 0).toArray)]) Try.underlying107 i39a i39b rfl (by rw [i39c]; decide) (by rw [i39c]; exact fill_full (vs := [.agg (c66 240 0 0).toArray]) rfl (by simp [Value.cells]) (by simp [Value.cells, len66]) rfl (by simp))) rfl so (one66 _ _ _) h ?_; intro p36 w37 h r38 so
              obtain ⟨i40, i40a, i40b, i40c, i40d⟩ := info66
              refine wl_ap (fx_append (s := s32.1) (t := ⟨(some p36), 1, 1⟩) (m := 1) (xs := (c66 240 0 0)) Try.underlying107 Try.underlying107 i40a i40b i40c i40d rfl rfl rfl (by first | rfl | simp [len66]) r38 h) rfl so ?_; intro l41 w42 h so
              refine wl_val (at_assign rfl) rfl ?_
              refine wl_nil ?_
              refine wk_blkN ?_
              refine wk_prune [(7, .slice l41.a l41.n l41.c), (8, .int .i64 s32.2), (10, .int .i16 x28), (25, .slice (some ((⟨b1, 0, none⟩ : Addr).add (1 * 1))) (64 - 1) (64 - 1)), (26, .int .i64 ((64 - 1) : Int)), (27, .int .i64 s19.2.2)] ⟨rfl, rfl, rfl, rfl, rfl, rfl, trivial⟩ (fun f1 => ?_)
              refine wk_then ?_
              refine wc_region ?_
              refine wl_val (at_move rfl) rfl ?_
              refine wl_val (at_sub rfl rfl) rfl ?_
              refine wl_val (at_assign rfl) rfl ?_
              refine wl_nil ?_
              exact wk_again ⟨(l41, (IntKind.wrap .i64 (s32.2 - 16))), _, ac_again ⟨rfl, rfl, rfl, rfl, rfl, rfl, trivial⟩, so, h⟩
            · refine wc_exit ?_
              refine wk_thenE ?_
              refine wk_thenE ?_
              refine wk_blkE ?_
              refine wk_prune [(7, .slice s32.1.a s32.1.n s32.1.c), (8, .int .i64 s32.2), (10, .int .i16 x28), (25, .slice (some ((⟨b1, 0, none⟩ : Addr).add (1 * 1))) (64 - 1) (64 - 1)), (26, .int .i64 ((64 - 1) : Int)), (27, .int .i64 s19.2.2)] ⟨rfl, rfl, rfl, rfl, rfl, rfl, trivial⟩ (fun f1 => ?_)
              refine wk_then ?_
              refine wc_seq ?_
              refine wc_region ?_
              refine wl_val (at_move rfl) rfl ?_
              refine wl_val (at_move rfl) rfl ?_
              refine wl_val (at_move rfl) rfl ?_
              refine wl_val (at_conv Try.underlying55 Try.underlying3 rfl) rfl ?_
              refine wl_callF (runs_sym.calls _ _ _ _ h) enter63 rfl trivial so ?_; intro x43 w44 h so
              obtain ⟨i48, i48a, i48b, i48c, i48d⟩ := info66
              refine wl_newS (ef_buildSlice (cs := (c66 x43.1 x43.2.1 x43.2.2)) (ps := [(0, .agg (c66 x43.1 x43.2.1 x43.2.2).toArray)]) Try.underlying107 i48a i48b rfl (by rw [i48c]; decide) (by rw [i48c]; exact fill_full (vs := [.agg (c66 x43.1 x43.2.1 x43.2.2).toArray]) rfl (by simp [Value.cells]) (by simp [Value.cells, len66]) rfl (by simp))) rfl so (one66 _ _ _) h ?_; intro p45 w46 h r47 so
              obtain ⟨i49, i49a, i49b, i49c, i49d⟩ := info66
              refine wl_ap (fx_append (s := s32.1) (t := ⟨(some p45), 1, 1⟩) (m := 1) (xs := (c66 x43.1 x43.2.1 x43.2.2)) Try.underlying107 Try.underlying107 i49a i49b i49c i49d rfl rfl rfl (by first | rfl | simp [len66]) r47 h) rfl so ?_; intro l50 w51 h so
              refine wl_val (at_assign rfl) rfl ?_
              refine wl_nil ?_
              refine wk_prune [(7, .slice l50.a l50.n l50.c), (25, .slice (some ((⟨b1, 0, none⟩ : Addr).add (1 * 1))) (64 - 1) (64 - 1)), (26, .int .i64 ((64 - 1) : Int)), (27, .int .i64 s19.2.2)] ⟨rfl, rfl, rfl, rfl, trivial⟩ (fun f1 => ?_)
              refine wk_then ?_
              refine wc_region ?_
              refine wl_val (at_assign rfl) rfl ?_
              refine wl_nil ?_
              refine wk_blkN ?_
              exact wk_prune [(7, .slice l50.a l50.n l50.c), (8, .int .i64 0), (25, .slice (some ((⟨b1, 0, none⟩ : Addr).add (1 * 1))) (64 - 1) (64 - 1)), (26, .int .i64 ((64 - 1) : Int)), (27, .int .i64 s19.2.2)] ⟨rfl, rfl, rfl, rfl, rfl, trivial⟩ (fun f1 => hJ23 (l50, 0) _ f1 h so)
      · refine wc_exit ?_
        refine wk_thenE ?_
        refine wk_thenE ?_
        refine wk_blkE ?_
        refine wk_prune [(7, .slice s19.1.a s19.1.n s19.1.c), (8, .int .i64 s19.2.1)] ⟨rfl, rfl, trivial⟩ (fun f1 => ?_)
        refine wk_then ?_
        refine wc_seq ?_
        refine wc_join (w0 := w0) (fun (s53 : Sl) => [(7, .slice s53.a s53.n s53.c)]) h ?_ ?_
        · rintro s53 w54 f1 h so; refine wk_then ?_
          refine wc_seq ?_
          refine wc_region ?_
          refine wl_val (at_move rfl) rfl ?_
          refine wl_val (at_assign rfl) rfl ?_
          refine wl_val (at_assign rfl) rfl ?_
          refine wl_nil ?_
          refine wk_prune [(4, .slice s53.a s53.n s53.c), (5, .int .i64 0)] ⟨rfl, rfl, trivial⟩ (fun f1 => ?_)
          refine wk_then ?_
          refine wc_ret ?_
          exact wk_ret2 (x := (s53, 0)) rfl (by decide) (by decide) rfl so h
        · intro J52 h hJ52
          refine wc_seq ?_
          refine wc_region ?_
          refine wl_val (at_move rfl) rfl ?_
          refine wl_val (at_gtr rfl rfl) rfl ?_
          refine wl_nil ?_
          refine wk_prune [(7, .slice s19.1.a s19.1.n s19.1.c), (52, .bool (decide ((0 : Int) < s19.2.1)))] ⟨rfl, rfl, trivial⟩ (fun f1 => ?_)
          refine wk_then ?_
          refine wc_cond rfl h (fun h => ?_) (fun h => ?_)
          · refine wc_region ?_
            refine wl_val (at_move rfl) rfl ?_
            refine wl_val (at_build (cs := (c66 0 0 0)) (ps := [(0, .int .u8 0)]) rfl (fun w => by simp [Instr.build, Instr.fill, go_sem, Try.underlying66, z66] <;> rfl)) rfl ?_
            obtain ⟨i58, i58a, i58b, i58c, i58d⟩ := info66
            refine wl_newS (ef_buildSlice (cs := (c66 0 0 0)) (ps := [(0, .agg (c66 0 0 0).toArray)]) Try.underlying107 i58a i58b rfl (by rw [i58c]; decide) (by rw [i58c]; exact fill_full (vs := [.agg (c66 0 0 0).toArray]) rfl (by simp [Value.cells]) (by simp [Value.cells, len66]) rfl (by simp))) rfl so (one66 _ _ _) h ?_; intro p55 w56 h r57 so
            obtain ⟨i59, i59a, i59b, i59c, i59d⟩ := info66
            refine wl_ap (fx_append (s := s19.1) (t := ⟨(some p55), 1, 1⟩) (m := 1) (xs := (c66 0 0 0)) Try.underlying107 Try.underlying107 i59a i59b i59c i59d rfl rfl rfl (by first | rfl | simp [len66]) r57 h) rfl so ?_; intro l60 w61 h so
            refine wl_val (at_assign rfl) rfl ?_
            refine wl_nil ?_
            exact wk_prune [(7, .slice l60.a l60.n l60.c)] ⟨rfl, trivial⟩ (fun f1 => hJ52 (l60) _ f1 h so)
          · refine wc_skip ?_
            exact wk_prune [(7, .slice s19.1.a s19.1.n s19.1.c)] ⟨rfl, trivial⟩ (fun f1 => hJ52 (s19.1) _ f1 h so)
def runs_Begin.enc : (Option Addr) → Value := fun r => .pointer r
def runs_Builder_first.enc : Int → Value := fun r => .int .i64 r
def runs_Builder_other.enc : Int → Value := fun r => .int .i64 r
def runs_Builder_Done.enc : Bool → Value := fun r => .bool r
def runs_Builder_Wants.enc : Int × Int → Value := fun r => .tuple #[.int .i8 r.1, .int .i64 r.2]
def runs_Builder_Take.enc : Int → Value := fun r => .int .i64 r
def runs_Builder_Block.enc : (Ints 64) → Value := fun r => .agg (c57 r).toArray
end Go.Proofs.Ytmnoecpnoofdjaa.G
