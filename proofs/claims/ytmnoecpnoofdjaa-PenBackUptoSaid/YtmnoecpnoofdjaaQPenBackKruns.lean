/- Of this text what the row needs. -/
import Derived.Test.YtmnoecpnoofdjaaQPenBackKshelf
import Derived.Test.YtmnoecpnoofdjaaQPenBackKmagnitude
namespace Go.Proofs.Ytmnoecpnoofdjaa.G
open Go.RowKit
set_option linter.unusedVariables false
set_option maxRecDepth 20000
set_option maxHeartbeats 4000000
set_option linter.unusedSimpArgs false
def runs_may.enc : Bool → Value := fun r => .bool r
def runs_may.s (a0 : Option Addr) (H0 : Hp) (Q : Bool → Hp → Prop) : Prop :=
 ∃ k1, Fix (fun (rec6 : Int → Hp → Prop) (s3 : Int) (H4 : Hp) => if decide (s3 < 64) = true then (someA a0 (fun p7 => 0 ≤ s3 ∧ s3 < (64 : Int) ∧ (ldI .i16 H4 (p7.add (Int.toNat s3 * 1)) (fun x11 => Join (fun (s15 : Bool) (H16 : Hp) => if s15 = true then (Q false H16) else (rec6 ((IntKind.wrap .i64 (s3 + 1))) H16)) (fun (J14 : Bool → Hp → Prop) => if (s3 == 0) = true then (if decide (x11 < (-1024)) = true then (J14 (true) H4) else (if decide ((1023 : Int) < x11) = true then (J14 (true) H4) else (if decide ((0 : Int) < s3) = true then (if decide (x11 < (-1023)) = true then (J14 (true) H4) else (J14 ((decide ((1023 : Int) < x11))) H4)) else (J14 (false) H4)))) else (if decide ((0 : Int) < s3) = true then (if decide (x11 < (-1023)) = true then (J14 (true) H4) else (J14 ((decide ((1023 : Int) < x11))) H4)) else (J14 (false) H4))))))) else (Q true H4)) k1 (0) H0
theorem runs_may.calls (a0 : Option Addr) (w0 : World) (Q : Bool → Hp → Prop) (h : runs_may.s a0 w0.heap Q) :
  Ca Try.prog 61 #[.pointer a0] w0 (Rt runs_may.enc Q w0) := by
 refine ca_start (c := _) Try.func61 rfl Try.ntmps61 rfl ?_
 have so : Sm w0 w0 := Sm.refl w0
 unfold runs_may.s at h
 refine wc_prune [(0, .pointer a0)] ⟨rfl, trivial⟩ (fun f1 => ?_)
 refine wc_seq (wc_region (wl_val (at_assign rfl) rfl (wl_nil (wk_prune [(0, .pointer a0)] ⟨rfl, trivial⟩ fun f1 => wk_then (wc_seq (wc_seq (wc_region (wl_val (at_move rfl) rfl (wl_val (at_move rfl) rfl (wl_nil (wk_prune [(5, .pointer a0), (6, .int .i64 0)] ⟨rfl, rfl, trivial⟩ fun f1 => wk_then (wc_block ?_))))))))))))
 obtain ⟨k1, h⟩ := h
 refine wc_loop (fun k a w => ∃ (s3 : Int) (f1 : Nat → Value), a = ac 35 (en f1 [(5, .pointer a0), (6, .int .i64 s3)]) [] ∧ Sm w0 w ∧ Fix _ k s3 w.heap) k1 ⟨(0), _, ac_again ⟨rfl, rfl, trivial⟩, so, h⟩ ?_
 rintro k2 a5 w4 ⟨s3, f1, rfl, so, h⟩
 rcases k2 with _ | k2
 ·exact h.elim
 replace h := Fix.un h; refine wc_in ?_
 refine wc_seq (wc_region (wl_val (at_lss rfl rfl) rfl (wl_nil (wk_prune [(5, .pointer a0), (6, .int .i64 s3), (7, .bool (decide (s3 < 64)))] ⟨rfl, rfl, rfl, trivial⟩ fun f1 => wk_then (wc_seq (wc_cond rfl h (fun h => ?_) (fun h => ?_)))))))
 ·refine wc_skip (wk_prune [(5, .pointer a0), (6, .int .i64 s3)] ⟨rfl, rfl, trivial⟩ fun f1 => wk_then (wc_seq (wc_block (wc_seq (wc_draw mixed (by kernel_rfl) so (wq_val (at_move rfl) rfl ?_))))))
  obtain ⟨p7, q8, h⟩ := h
  refine wq_val (at_nilCheck (congrArg Value.pointer q8)) rfl ?_
  obtain ⟨q9, q10, h⟩ := h
  refine wq_val (at_ixAddrA Try.underlying57 sz55 rfl rfl q9 q10) rfl ?_
  obtain ⟨x11, q12, h⟩ := h
  refine wq_val (at_load Try.underlying55 rfl rfl q12) rfl (wq_val (at_assign rfl) rfl (wq_val (at_assign rfl) rfl ?_))
  refine wq_nil ?_; intro w13 hw so; rw [← hw] at h; clear hw
  refine wk_prune [(3, .int .i64 s3), (4, .int .i16 x11), (5, .pointer a0), (6, .int .i64 s3)] ⟨rfl, rfl, rfl, rfl, trivial⟩ fun f1 => wk_then (wc_seq (wc_join (w0 := w0) (fun (s15 : Bool) => [(5, .pointer a0), (6, .int .i64 s3), (33, .bool s15)]) h ?_ ?_))
  ·rintro s15 w16 f1 h so; refine wk_then ?_
   refine wc_cond rfl h (fun h => ?_) (fun h => ?_)
   ·exact wc_seq (wc_region (wl_val (at_assign rfl) rfl (wl_nil (wk_prune [(2, .bool false)] ⟨rfl, trivial⟩ fun f1 => wk_then (wc_ret (wk_blkR (wk_thenR (wk_thenR (wk_blkR (wk_thenR (wk_ret1 (x := false) rfl (by decide) rfl so h)))))))))))
   ·exact wc_skip (wk_blkN (wk_prune [(5, .pointer a0), (6, .int .i64 s3)] ⟨rfl, rfl, trivial⟩ fun f1 => wk_then (wc_region (wl_val (at_add rfl rfl) rfl (wl_val (at_move rfl) rfl (wl_nil (wk_again ⟨((IntKind.wrap .i64 (s3 + 1))), _, ac_again ⟨rfl, rfl, trivial⟩, so, h⟩)))))))
  ·intro J14 h hJ14
   refine wc_region (wl_val (at_move rfl) rfl (wl_val (at_eql rfl rfl) rfl (wl_val (at_move rfl) rfl (bif_ h (fun hb h => ?_) (fun hb h => ?_)))))
   ·refine wl_set (t := 14) (v := .bool true) (congrArg Value.bool hb) ?_; clear hb
    refine wl_on (t := 14) rfl (by decide) rfl (wl_val (at_move rfl) rfl (wl_on (t := 14) rfl (by decide) rfl (wl_val (at_lss rfl rfl) rfl (wl_on (t := 14) rfl (by decide) rfl (wl_val (at_move rfl) rfl (bif_ h (fun hb h => ?_) (fun hb h => ?_)))))))
    ·refine wl_set (t := 17) (v := .bool true) (congrArg Value.bool hb) ?_; clear hb
     refine wl_off (t := 17) rfl (by decide) rfl (wl_off (t := 17) rfl (by decide) rfl (wl_on (t := 14) rfl (by decide) rfl (wl_val (at_pick_t rfl rfl) rfl (wl_val (at_pick_t rfl rfl) rfl (wl_val (at_move rfl) rfl (wl_off (t := 22) rfl (by decide) rfl (wl_off (t := 22) rfl (by decide) rfl (wl_off (t := 22) rfl (by decide) rfl ?_))))))))
     refine wl_off' (t := 25) rfl (by decide) rfl ?_
     refine wl_off' (t := 25) rfl (by decide) rfl ?_
     refine wl_off' (t := 25) rfl (by decide) rfl ?_
     refine wl_off' (t := 28) rfl (by decide) rfl ?_
     refine wl_off' (t := 28) rfl (by decide) rfl ?_
     refine wl_off' (t := 25) rfl (by decide) rfl ?_
     exact wl_off (t := 22) rfl (by decide) rfl (wl_val (at_pick_t rfl rfl) rfl (wl_nil (wk_prune [(5, .pointer a0), (6, .int .i64 s3), (33, .bool true)] ⟨rfl, rfl, rfl, trivial⟩ (fun f1 => hJ14 (true) _ f1 h so))))
    ·refine wl_set (t := 17) (v := .bool false) (congrArg Value.bool hb) ?_; clear hb
     refine wl_on (t := 17) rfl (by decide) rfl (wl_val (at_move rfl) rfl (wl_on (t := 17) rfl (by decide) rfl (wl_val (at_gtr rfl rfl) rfl (wl_on (t := 14) rfl (by decide) rfl (wl_val (at_pick_f rfl rfl) rfl (wl_val (at_pick_t rfl rfl) rfl (wl_val (at_move rfl) rfl (bif_ h (fun hb h => ?_) (fun hb h => ?_)))))))))
     ·refine wl_set (t := 22) (v := .bool true) (congrArg Value.bool hb) ?_; clear hb
      refine wl_off (t := 22) rfl (by decide) rfl (wl_off (t := 22) rfl (by decide) rfl (wl_off (t := 22) rfl (by decide) rfl ?_))
      refine wl_off' (t := 25) rfl (by decide) rfl ?_
      refine wl_off' (t := 25) rfl (by decide) rfl ?_
      refine wl_off' (t := 25) rfl (by decide) rfl ?_
      refine wl_off' (t := 28) rfl (by decide) rfl ?_
      refine wl_off' (t := 28) rfl (by decide) rfl ?_
      refine wl_off' (t := 25) rfl (by decide) rfl ?_
      exact wl_off (t := 22) rfl (by decide) rfl (wl_val (at_pick_t rfl rfl) rfl (wl_nil (wk_prune [(5, .pointer a0), (6, .int .i64 s3), (33, .bool true)] ⟨rfl, rfl, rfl, trivial⟩ (fun f1 => hJ14 (true) _ f1 h so))))
     ·refine wl_set (t := 22) (v := .bool false) (congrArg Value.bool hb) ?_; clear hb
      refine wl_on (t := 22) rfl (by decide) rfl (wl_val (at_move rfl) rfl (wl_on (t := 22) rfl (by decide) rfl (wl_val (at_gtr rfl rfl) rfl (wl_on (t := 22) rfl (by decide) rfl (wl_val (at_move rfl) rfl (bif_ h (fun hb h => ?_) (fun hb h => ?_)))))))
      ·refine wl_set (t := 25) (v := .bool true) (congrArg Value.bool hb) ?_; clear hb
       refine wl_on (t := 25) rfl (by decide) rfl (wl_val (at_move rfl) rfl (wl_on (t := 25) rfl (by decide) rfl (wl_val (at_lss rfl rfl) rfl (wl_on (t := 25) rfl (by decide) rfl (wl_val (at_move rfl) rfl (bif_ h (fun hb h => ?_) (fun hb h => ?_)))))))
       ·refine wl_set (t := 28) (v := .bool true) (congrArg Value.bool hb) ?_; clear hb
        exact wl_off (t := 28) rfl (by decide) rfl (wl_off (t := 28) rfl (by decide) rfl (wl_on (t := 25) rfl (by decide) rfl (wl_val (at_pick_t rfl rfl) rfl (wl_on (t := 22) rfl (by decide) rfl (wl_val (at_pick_t rfl rfl) rfl (wl_val (at_pick_f rfl rfl) rfl (wl_nil (wk_prune [(5, .pointer a0), (6, .int .i64 s3), (33, .bool true)] ⟨rfl, rfl, rfl, trivial⟩ (fun f1 => hJ14 (true) _ f1 h so)))))))))
       ·refine wl_set (t := 28) (v := .bool false) (congrArg Value.bool hb) ?_; clear hb
        exact wl_on (t := 28) rfl (by decide) rfl (wl_val (at_move rfl) rfl (wl_on (t := 28) rfl (by decide) rfl (wl_val (at_gtr rfl rfl) rfl (wl_on (t := 25) rfl (by decide) rfl (wl_val (at_pick_f rfl rfl) rfl (wl_on (t := 22) rfl (by decide) rfl (wl_val (at_pick_t rfl rfl) rfl (wl_val (at_pick_f rfl rfl) rfl (wl_nil (wk_prune [(5, .pointer a0), (6, .int .i64 s3), (33, .bool (decide ((1023 : Int) < x11)))] ⟨rfl, rfl, rfl, trivial⟩ (fun f1 => hJ14 ((decide ((1023 : Int) < x11))) _ f1 h so)))))))))))
      ·refine wl_set (t := 25) (v := .bool false) (congrArg Value.bool hb) ?_; clear hb
       refine wl_off (t := 25) rfl (by decide) rfl (wl_off (t := 25) rfl (by decide) rfl (wl_off (t := 25) rfl (by decide) rfl ?_))
       refine wl_off' (t := 28) rfl (by decide) rfl ?_
       refine wl_off' (t := 28) rfl (by decide) rfl ?_
       exact wl_off (t := 25) rfl (by decide) rfl (wl_on (t := 22) rfl (by decide) rfl (wl_val (at_pick_f rfl rfl) rfl (wl_val (at_pick_f rfl rfl) rfl (wl_nil (wk_prune [(5, .pointer a0), (6, .int .i64 s3), (33, .bool false)] ⟨rfl, rfl, rfl, trivial⟩ (fun f1 => hJ14 (false) _ f1 h so))))))
   ·refine wl_set (t := 14) (v := .bool false) (congrArg Value.bool hb) ?_; clear hb
    refine wl_off (t := 14) rfl (by decide) rfl (wl_off (t := 14) rfl (by decide) rfl (wl_off (t := 14) rfl (by decide) rfl ?_))
    refine wl_off' (t := 17) rfl (by decide) rfl ?_
    refine wl_off' (t := 17) rfl (by decide) rfl ?_
    refine wl_off (t := 14) rfl (by decide) rfl (wl_val (at_pick_f rfl rfl) rfl (wl_val (at_move rfl) rfl (wl_on (t := 22) rfl (by decide) rfl (wl_val (at_move rfl) rfl (wl_on (t := 22) rfl (by decide) rfl (wl_val (at_gtr rfl rfl) rfl (wl_on (t := 22) rfl (by decide) rfl (wl_val (at_move rfl) rfl (bif_ h (fun hb h => ?_) (fun hb h => ?_))))))))))
    ·refine wl_set (t := 25) (v := .bool true) (congrArg Value.bool hb) ?_; clear hb
     refine wl_on (t := 25) rfl (by decide) rfl (wl_val (at_move rfl) rfl (wl_on (t := 25) rfl (by decide) rfl (wl_val (at_lss rfl rfl) rfl (wl_on (t := 25) rfl (by decide) rfl (wl_val (at_move rfl) rfl (bif_ h (fun hb h => ?_) (fun hb h => ?_)))))))
     ·refine wl_set (t := 28) (v := .bool true) (congrArg Value.bool hb) ?_; clear hb
      exact wl_off (t := 28) rfl (by decide) rfl (wl_off (t := 28) rfl (by decide) rfl (wl_on (t := 25) rfl (by decide) rfl (wl_val (at_pick_t rfl rfl) rfl (wl_on (t := 22) rfl (by decide) rfl (wl_val (at_pick_t rfl rfl) rfl (wl_val (at_pick_f rfl rfl) rfl (wl_nil (wk_prune [(5, .pointer a0), (6, .int .i64 s3), (33, .bool true)] ⟨rfl, rfl, rfl, trivial⟩ (fun f1 => hJ14 (true) _ f1 h so)))))))))
     ·refine wl_set (t := 28) (v := .bool false) (congrArg Value.bool hb) ?_; clear hb
      exact wl_on (t := 28) rfl (by decide) rfl (wl_val (at_move rfl) rfl (wl_on (t := 28) rfl (by decide) rfl (wl_val (at_gtr rfl rfl) rfl (wl_on (t := 25) rfl (by decide) rfl (wl_val (at_pick_f rfl rfl) rfl (wl_on (t := 22) rfl (by decide) rfl (wl_val (at_pick_t rfl rfl) rfl (wl_val (at_pick_f rfl rfl) rfl (wl_nil (wk_prune [(5, .pointer a0), (6, .int .i64 s3), (33, .bool (decide ((1023 : Int) < x11)))] ⟨rfl, rfl, rfl, trivial⟩ (fun f1 => hJ14 ((decide ((1023 : Int) < x11))) _ f1 h so)))))))))))
    ·refine wl_set (t := 25) (v := .bool false) (congrArg Value.bool hb) ?_; clear hb
     refine wl_off (t := 25) rfl (by decide) rfl (wl_off (t := 25) rfl (by decide) rfl (wl_off (t := 25) rfl (by decide) rfl ?_))
     refine wl_off' (t := 28) rfl (by decide) rfl ?_
     refine wl_off' (t := 28) rfl (by decide) rfl ?_
     exact wl_off (t := 25) rfl (by decide) rfl (wl_on (t := 22) rfl (by decide) rfl (wl_val (at_pick_f rfl rfl) rfl (wl_val (at_pick_f rfl rfl) rfl (wl_nil (wk_prune [(5, .pointer a0), (6, .int .i64 s3), (33, .bool false)] ⟨rfl, rfl, rfl, trivial⟩ (fun f1 => hJ14 (false) _ f1 h so))))))
 ·exact wc_exit (wk_thenE (wk_thenE (wk_blkE (wk_prune [] trivial fun f1 => wk_then (wc_seq (wc_region (wl_val (at_assign rfl) rfl (wl_nil (wk_prune [(2, .bool true)] ⟨rfl, trivial⟩ fun f1 => wk_then (wc_ret (wk_ret1 (x := true) rfl (by decide) rfl so h)))))))))))
def runs_sym.enc : Int × Int × Int → Value := fun r => .agg (c66 r.1 r.2.1 r.2.2).toArray
def runs_sym.s (a0 : Int) (a1 : Int) (H0 : Hp) (Q : (Int × Int × Int) → Hp → Prop) : Prop :=
 Gn [] H0 (fun (b1 : Nat) (H2 : Hp) => magnitude_Bits.s a1 H2 (fun x3 H4 => Pv [b1] H2 H4 ∧ (Gr [b1] H4 (fun (H6 : Hp) => Q ((Go.bits .or .u8 (shlI .u8 (IntKind.wrap .u8 a0) 4) (IntKind.wrap .u8 x3.2.1)), x3.2.1, x3.1) H6))))
theorem runs_sym.calls (a0 : Int) (a1 : Int) (w0 : World) (Q : (Int × Int × Int) → Hp → Prop) (h : runs_sym.s a0 a1 w0.heap Q) :
  Ca Try.prog 63 #[.int .i64 a0, .int .i64 a1] w0 (Rt runs_sym.enc Q w0) := by
 refine ca_start (c := _) Try.func63 rfl Try.ntmps63 rfl ?_
 have so : Sm w0 w0 := Sm.refl w0
 unfold runs_sym.s at h
 refine wc_prune [(0, .int .i64 a0), (1, .int .i64 a1)] ⟨rfl, rfl, trivial⟩ (fun f1 => ?_)
 refine wc_seq (wc_region ?_)
 refine wl_newT (T := 66) (cs := (c66 0 0 0)) (ef_alloc zero66 rfl) rfl so ?_; intro b1 w2 hb_b1 t_b1 k_b1 so
 have g_b1 := Nat.le_of_eq hb_b1.symm
 have hc := k_b1.ch (F := [])
 refine wl_nil (wk_prune [(0, .int .i64 a0), (1, .int .i64 a1), (4, .pointer (some (⟨b1, 0, none⟩ : Addr)))] ⟨rfl, rfl, rfl, trivial⟩ fun f1 => wk_then (wc_seq (wc_region (wl_val (at_move rfl) rfl ?_))))
 replace h := h b1 _ hc g_b1 t_b1.lt; clear hc
 refine wl_callF (magnitude_Bits.calls _ _ _ h) enter74 rfl trivial so ?_; intro x3 w4 h so
 obtain ⟨q5, h⟩ := h
 replace t_b1 := pv_bk q5 t_b1 (by simp)
 refine wl_val (at_move rfl) rfl (wl_val (at_extract rfl rfl) rfl (wl_val (at_extract rfl rfl) rfl (wl_val (at_extract rfl rfl) rfl (wl_val (at_assign rfl) rfl (wl_val (at_assign rfl) rfl (wl_val (at_assign rfl) rfl (wl_nil (wk_prune [(0, .int .i64 a0), (4, .pointer (some (⟨b1, 0, none⟩ : Addr))), (5, .int .u16 x3.1), (6, .int .i8 x3.2.1)] ⟨rfl, rfl, rfl, rfl, trivial⟩ fun f1 => wk_then (wc_seq (wc_region (wl_val (at_move rfl) rfl (wl_val (at_conv Try.underlying3 Try.underlying5 rfl) rfl (wl_val (at_shl rfl rfl (by decide)) rfl (wl_val (at_move rfl) rfl (wl_val (at_conv Try.underlying46 Try.underlying5 rfl) rfl (wl_val (at_or rfl rfl) rfl (wl_val (at_move rfl) rfl (wl_val (at_move rfl) rfl ?_))))))))))))))))))
 refine wl_val (at_build (cs := (c66 (Go.bits .or .u8 (shlI .u8 (IntKind.wrap .u8 a0) 4) (IntKind.wrap .u8 x3.2.1)) x3.2.1 x3.1)) (ps := [(0, .int .u8 (Go.bits .or .u8 (shlI .u8 (IntKind.wrap .u8 a0) 4) (IntKind.wrap .u8 x3.2.1))), (1, .int .i8 x3.2.1), (2, .int .u16 x3.1)]) rfl (fun w => by simp [Instr.build, Instr.fill, go_sem, Try.underlying66, z66] <;> rfl)) rfl ?_
 refine wl_stWT (vs := (c66 (Go.bits .or .u8 (shlI .u8 (IntKind.wrap .u8 a0) 4) (IntKind.wrap .u8 x3.2.1)) x3.2.1 x3.1)) t_b1 (by first | (rw [len66, len66]) | (rw [len66]) | rfl) rfl so (fun q => ef_storeA (p := (⟨b1, 0, none⟩ : Addr)) (cs := (c66 (Go.bits .or .u8 (shlI .u8 (IntKind.wrap .u8 a0) 4) (IntKind.wrap .u8 x3.2.1)) x3.2.1 x3.1)) (by rw [len66]; exact sz66) rfl rfl (one66 _ _ _) q) ?_; intro w6 t_b1 s_w6 so
 have hc := s_w6.ch
 refine wl_nil (wk_prune [(4, .pointer (some (⟨b1, 0, none⟩ : Addr)))] ⟨rfl, trivial⟩ fun f1 => wk_then (wc_ret ?_))
 replace h := h _ hc; clear hc
 exact wk_retR1 (x := ((Go.bits .or .u8 (shlI .u8 (IntKind.wrap .u8 a0) 4) (IntKind.wrap .u8 x3.2.1)), x3.2.1, x3.1)) rfl ⟨by decide, _, rfl, loadVar_agg (cs := (c66 (Go.bits .or .u8 (shlI .u8 (IntKind.wrap .u8 a0) 4) (IntKind.wrap .u8 x3.2.1)) x3.2.1 x3.1)) Try.underlying66 rfl (by rw [len66]; exact sz66) (ldA_full t_b1)⟩ rfl so h
def runs_Symbols.enc : Sl × Int → Value := fun r => .tuple #[.slice r.1.a r.1.n r.1.c, .int .i64 r.2]
def runs_Symbols.s (a0_0 : Ints 64) (a1 : Int) (H0 : Hp) (Q : (Sl × Int) → Hp → Prop) : Prop :=
 Gn [] H0 (fun (b1 : Nat) (H2 : Hp) => Bk H2 b1 57 (c57 a0_0) → (runs_may.s (some (⟨b1, 0, none⟩ : Addr)) H2 (fun x3 H4 => if (!x3) = true then (Q (⟨none, 0, 0⟩, 3) H4) else (ldI .i16 H4 (⟨b1, 0, none⟩ : Addr) (fun x5 => Lt ((IntKind.wrap .i64 ((IntKind.wrap .i64 x5) - (IntKind.wrap .i64 a1))) : Int) (fun x7 => magnitude_Size.s x7 H4 (fun x9 H10 => if decide ((11 : Int) < x9) = true then (Q (⟨none, 0, 0⟩, 60) H10) else (runs_sym.s 0 x7 H10 (fun x11 H12 => nw H12 66 (c66 x11.1 x11.2.1 x11.2.2) (fun p13 H14 => ∃ k17, Fix (fun (rec22 : (Sl × Int × Int) → Hp → Prop) (s19 : Sl × Int × Int) (H20 : Hp) => if decide (s19.2.2 < ((64 - 1) : Int)) = true then (Join (fun (s24 : Sl × Int) (H25 : Hp) => rec22 (s24.1, s24.2, (IntKind.wrap .i64 (s19.2.2 + 1))) H25) (fun (J23 : (Sl × Int) → Hp → Prop) => 0 ≤ s19.2.2 ∧ s19.2.2 < ((64 - 1) : Int) ∧ (ldI .i16 H20 (((⟨b1, 0, none⟩ : Addr).add (1 * 1)).add (Int.toNat s19.2.2 * 1)) (fun x28 => if (x28 == 0) = true then (J23 (s19.1, (IntKind.wrap .i64 (s19.2.1 + 1))) H20) else (∃ k30, Fix (fun (rec35 : (Sl × Int) → Hp → Prop) (s32 : Sl × Int) (H33 : Hp) => if decide ((15 : Int) < s32.2) = true then (nw H33 66 (c66 240 0 0) (fun p36 H37 => apS H37 s32.1 66 3 4 z66.cells 1 (c66 240 0 0) (fun l41 H42 => rec35 (l41, (IntKind.wrap .i64 (s32.2 - 16))) H42))) else (runs_sym.s s32.2 (IntKind.wrap .i64 x28) H33 (fun x43 H44 => nw H44 66 (c66 x43.1 x43.2.1 x43.2.2) (fun p45 H46 => apS H46 s32.1 66 3 4 z66.cells 1 (c66 x43.1 x43.2.1 x43.2.2) (fun l50 H51 => J23 (l50, 0) H51))))) k30 (s19.1, s19.2.1) H20))))) else (Join (fun (s53 : Sl) (H54 : Hp) => Q (s53, 0) H54) (fun (J52 : Sl → Hp → Prop) => if decide ((0 : Int) < s19.2.1) = true then (nw H20 66 (c66 0 0 0) (fun p55 H56 => apS H56 s19.1 66 3 4 z66.cells 1 (c66 0 0 0) (fun l60 H61 => J52 (l60) H61))) else (J52 (s19.1) H20)))) k17 (⟨(some p13), 1, 1⟩, 0, 0) H14))))))))))
theorem runs_Symbols.calls (a0_0 : Ints 64) (a1 : Int) (w0 : World) (Q : (Sl × Int) → Hp → Prop) (h : runs_Symbols.s a0_0 a1 w0.heap Q) :
  Ca Try.prog 36 #[.agg (c57 a0_0).toArray, .int .i16 a1] w0 (Rt runs_Symbols.enc Q w0) := by
 refine ca_start (c := _) Try.func36 rfl Try.ntmps36 rfl ?_
 have so : Sm w0 w0 := Sm.refl w0
 unfold runs_Symbols.s at h
 refine wc_prune [(0, .agg (c57 a0_0).toArray), (1, .int .i16 a1)] ⟨rfl, rfl, trivial⟩ (fun f1 => ?_)
 refine wc_seq (wc_region ?_)
 refine wl_newT (T := 57) (cs := (c57 a0_0)) (ef_box rfl rfl) rfl so ?_; intro b1 w2 hb_b1 t_b1 k_b1 so
 have g_b1 := Nat.le_of_eq hb_b1.symm
 have hc := k_b1.ch (F := [])
 refine wl_val (at_assign rfl) rfl (wl_val (at_assign rfl) rfl (wl_nil (wk_prune [(1, .int .i16 a1), (2, .pointer (some (⟨b1, 0, none⟩ : Addr)))] ⟨rfl, rfl, trivial⟩ fun f1 => wk_then (wc_seq (wc_seq (wc_region ?_))))))
 replace h := h b1 _ hc g_b1 t_b1.lt; clear hc
 replace h := h t_b1
 refine wl_callF (runs_may.calls _ _ _ h) enter61 rfl trivial so ?_; intro x3 w4 h so
 refine wl_val (at_not rfl) rfl (wl_nil (wk_prune [(1, .int .i16 a1), (2, .pointer (some (⟨b1, 0, none⟩ : Addr))), (12, .bool (!x3))] ⟨rfl, rfl, rfl, trivial⟩ fun f1 => wk_then (wc_cond rfl h (fun h => ?_) (fun h => ?_))))
 ·exact wc_seq (wc_region (wl_val (at_assign rfl) rfl (wl_val (at_assign rfl) rfl (wl_nil (wk_prune [(4, .slice none 0 0), (5, .int .i64 3)] ⟨rfl, rfl, trivial⟩ fun f1 => wk_then (wc_ret (wk_thenR (wk_ret2 (x := (⟨none, 0, 0⟩, 3)) rfl (by decide) (by decide) rfl so h))))))))
 ·refine wc_skip (wk_prune [(1, .int .i16 a1), (2, .pointer (some (⟨b1, 0, none⟩ : Addr)))] ⟨rfl, rfl, trivial⟩ fun f1 => wk_then (wc_seq (wc_region (wl_val (at_ixAddrA Try.underlying57 sz55 rfl rfl (by decide) (by decide)) rfl ?_))))
  obtain ⟨x5, q6, h⟩ := h
  refine wl_val (at_load Try.underlying55 rfl rfl q6) rfl (wl_val (at_conv Try.underlying55 Try.underlying3 rfl) rfl (wl_val (at_move rfl) rfl (wl_val (at_conv Try.underlying55 Try.underlying3 rfl) rfl (wl_val (at_sub rfl rfl) rfl (wl_val (at_assign rfl) rfl ?_)))))
  obtain ⟨x7, e8⟩ : ∃ x : Int, x = (IntKind.wrap .i64 ((IntKind.wrap .i64 x5) - (IntKind.wrap .i64 a1))) := ⟨_, rfl⟩; replace h := h x7 e8
  refine wl_set (t := 6) (v := .int .i64 x7) (congrArg (Value.int .i64) e8.symm) (wl_nil (wk_prune [(2, .pointer (some (⟨b1, 0, none⟩ : Addr))), (6, .int .i64 x7)] ⟨rfl, rfl, trivial⟩ fun f1 => wk_then (wc_seq (wc_seq (wc_region (wl_val (at_move rfl) rfl ?_))))))
  refine wl_callF (magnitude_Size.calls _ _ _ h) enter62 rfl trivial so ?_; intro x9 w10 h so
  refine wl_val (at_gtr rfl rfl) rfl (wl_nil (wk_prune [(2, .pointer (some (⟨b1, 0, none⟩ : Addr))), (6, .int .i64 x7), (21, .bool (decide ((11 : Int) < x9)))] ⟨rfl, rfl, rfl, trivial⟩ fun f1 => wk_then (wc_cond rfl h (fun h => ?_) (fun h => ?_))))
  ·exact wc_seq (wc_region (wl_val (at_assign rfl) rfl (wl_val (at_assign rfl) rfl (wl_nil (wk_prune [(4, .slice none 0 0), (5, .int .i64 60)] ⟨rfl, rfl, trivial⟩ fun f1 => wk_then (wc_ret (wk_thenR (wk_ret2 (x := (⟨none, 0, 0⟩, 60)) rfl (by decide) (by decide) rfl so h))))))))
  ·refine wc_skip (wk_prune [(2, .pointer (some (⟨b1, 0, none⟩ : Addr))), (6, .int .i64 x7)] ⟨rfl, rfl, trivial⟩ fun f1 => wk_then (wc_seq (wc_region (wl_val (at_move rfl) rfl ?_))))
   refine wl_callF (runs_sym.calls _ _ _ _ h) enter63 rfl trivial so ?_; intro x11 w12 h so
   obtain ⟨i16, i16a, i16b, i16c, i16d⟩ := info66
   refine wl_newS (ef_buildSlice (cs := (c66 x11.1 x11.2.1 x11.2.2)) (ps := [(0, .agg (c66 x11.1 x11.2.1 x11.2.2).toArray)]) Try.underlying107 i16a i16b rfl (by rw [i16c]; decide) (by rw [i16c]; exact fill_full (vs := [.agg (c66 x11.1 x11.2.1 x11.2.2).toArray]) rfl (by simp [Value.cells]) (by simp [Value.cells, len66]) rfl (by simp))) rfl so (one66 _ _ _) h ?_; intro p13 w14 h r15 so
   refine wl_val (at_assign rfl) rfl (wl_nil (wk_prune [(2, .pointer (some (⟨b1, 0, none⟩ : Addr))), (7, .slice (some p13) 1 1)] ⟨rfl, rfl, trivial⟩ fun f1 => wk_then (wc_seq (wc_region (wl_val (at_assign rfl) rfl (wl_nil (wk_prune [(2, .pointer (some (⟨b1, 0, none⟩ : Addr))), (7, .slice (some p13) 1 1), (8, .int .i64 0)] ⟨rfl, rfl, rfl, trivial⟩ fun f1 => wk_then (wc_seq (wc_seq (wc_region (wl_val (at_subAl (l := 1) Try.underlying57 sz55 rfl rfl (by decide)) rfl (wl_val (at_lenL Try.underlying87 rfl) rfl (wl_val (at_move rfl) rfl (wl_nil (wk_prune [(7, .slice (some p13) 1 1), (8, .int .i64 0), (25, .slice (some ((⟨b1, 0, none⟩ : Addr).add (1 * 1))) (64 - 1) (64 - 1)), (26, .int .i64 ((64 - 1) : Int)), (27, .int .i64 0)] ⟨rfl, rfl, rfl, rfl, rfl, trivial⟩ fun f1 => wk_then (wc_block ?_))))))))))))))))
   obtain ⟨k17, h⟩ := h
   refine wc_loop (fun k a w => ∃ (s19 : Sl × Int × Int) (f1 : Nat → Value), a = ac 58 (en f1 [(7, .slice s19.1.a s19.1.n s19.1.c), (8, .int .i64 s19.2.1), (25, .slice (some ((⟨b1, 0, none⟩ : Addr).add (1 * 1))) (64 - 1) (64 - 1)), (26, .int .i64 ((64 - 1) : Int)), (27, .int .i64 s19.2.2)]) [] ∧ Sm w0 w ∧ Fix _ k s19 w.heap) k17 ⟨(⟨(some p13), 1, 1⟩, 0, 0), _, ac_again ⟨rfl, rfl, rfl, rfl, rfl, trivial⟩, so, h⟩ ?_
   rintro k18 a21 w20 ⟨s19, f1, rfl, so, h⟩
   rcases k18 with _ | k18
   ·exact h.elim
   replace h := Fix.un h; refine wc_in ?_
   refine wc_seq (wc_region (wl_val (at_lss rfl rfl) rfl (wl_nil (wk_prune [(7, .slice s19.1.a s19.1.n s19.1.c), (8, .int .i64 s19.2.1), (25, .slice (some ((⟨b1, 0, none⟩ : Addr).add (1 * 1))) (64 - 1) (64 - 1)), (26, .int .i64 ((64 - 1) : Int)), (27, .int .i64 s19.2.2), (28, .bool (decide (s19.2.2 < ((64 - 1) : Int))))] ⟨rfl, rfl, rfl, rfl, rfl, rfl, trivial⟩ fun f1 => wk_then (wc_seq (wc_cond rfl h (fun h => ?_) (fun h => ?_)))))))
   ·refine wc_skip (wk_prune [(7, .slice s19.1.a s19.1.n s19.1.c), (8, .int .i64 s19.2.1), (25, .slice (some ((⟨b1, 0, none⟩ : Addr).add (1 * 1))) (64 - 1) (64 - 1)), (26, .int .i64 ((64 - 1) : Int)), (27, .int .i64 s19.2.2)] ⟨rfl, rfl, rfl, rfl, rfl, trivial⟩ fun f1 => wk_then (wc_seq (wc_join (w0 := w0) (fun (s24 : Sl × Int) => [(7, .slice s24.1.a s24.1.n s24.1.c), (8, .int .i64 s24.2), (25, .slice (some ((⟨b1, 0, none⟩ : Addr).add (1 * 1))) (64 - 1) (64 - 1)), (26, .int .i64 ((64 - 1) : Int)), (27, .int .i64 s19.2.2)]) h ?_ ?_)))
    ·rintro s24 w25 f1 h so; refine wk_then ?_
     exact wc_region (wl_val (at_add rfl rfl) rfl (wl_val (at_move rfl) rfl (wl_nil (wk_again ⟨(s24.1, s24.2, (IntKind.wrap .i64 (s19.2.2 + 1))), _, ac_again ⟨rfl, rfl, rfl, rfl, rfl, trivial⟩, so, h⟩))))
    ·intro J23 h hJ23
     refine wc_block (wc_seq (wc_region ?_))
     obtain ⟨q26, q27, h⟩ := h
     refine wl_val (at_ixAddrL Try.underlying87 sz55 rfl rfl q26 q27) rfl ?_
     obtain ⟨x28, q29, h⟩ := h
     refine wl_val (at_load Try.underlying55 rfl rfl q29) rfl (wl_val (at_assign rfl) rfl (wl_nil (wk_prune [(7, .slice s19.1.a s19.1.n s19.1.c), (8, .int .i64 s19.2.1), (10, .int .i16 x28), (25, .slice (some ((⟨b1, 0, none⟩ : Addr).add (1 * 1))) (64 - 1) (64 - 1)), (26, .int .i64 ((64 - 1) : Int)), (27, .int .i64 s19.2.2)] ⟨rfl, rfl, rfl, rfl, rfl, rfl, trivial⟩ fun f1 => wk_then (wc_seq (wc_seq (wc_region (wl_val (at_move rfl) rfl (wl_val (at_eql rfl rfl) rfl (wl_nil (wk_prune [(7, .slice s19.1.a s19.1.n s19.1.c), (8, .int .i64 s19.2.1), (10, .int .i16 x28), (25, .slice (some ((⟨b1, 0, none⟩ : Addr).add (1 * 1))) (64 - 1) (64 - 1)), (26, .int .i64 ((64 - 1) : Int)), (27, .int .i64 s19.2.2), (32, .bool (x28 == 0))] ⟨rfl, rfl, rfl, rfl, rfl, rfl, rfl, trivial⟩ fun f1 => wk_then (wc_cond rfl h (fun h => ?_) (fun h => ?_))))))))))))
     ·exact wc_seq (wc_region (wl_val (at_move rfl) rfl (wl_val (at_add rfl rfl) rfl (wl_val (at_assign rfl) rfl (wl_nil (wk_prune [(7, .slice s19.1.a s19.1.n s19.1.c), (8, .int .i64 (IntKind.wrap .i64 (s19.2.1 + 1))), (25, .slice (some ((⟨b1, 0, none⟩ : Addr).add (1 * 1))) (64 - 1) (64 - 1)), (26, .int .i64 ((64 - 1) : Int)), (27, .int .i64 s19.2.2)] ⟨rfl, rfl, rfl, rfl, rfl, trivial⟩ fun f1 => wk_then (wc_exit (wk_thenE (wk_blkE (wk_prune [(7, .slice s19.1.a s19.1.n s19.1.c), (8, .int .i64 (IntKind.wrap .i64 (s19.2.1 + 1))), (25, .slice (some ((⟨b1, 0, none⟩ : Addr).add (1 * 1))) (64 - 1) (64 - 1)), (26, .int .i64 ((64 - 1) : Int)), (27, .int .i64 s19.2.2)] ⟨rfl, rfl, rfl, rfl, rfl, trivial⟩ (fun f1 => hJ23 (s19.1, (IntKind.wrap .i64 (s19.2.1 + 1))) _ f1 h so)))))))))))
     ·refine wc_skip (wk_prune [(7, .slice s19.1.a s19.1.n s19.1.c), (8, .int .i64 s19.2.1), (10, .int .i16 x28), (25, .slice (some ((⟨b1, 0, none⟩ : Addr).add (1 * 1))) (64 - 1) (64 - 1)), (26, .int .i64 ((64 - 1) : Int)), (27, .int .i64 s19.2.2)] ⟨rfl, rfl, rfl, rfl, rfl, rfl, trivial⟩ fun f1 => wk_then (wc_seq (wc_block ?_)))
      obtain ⟨k30, h⟩ := h
      refine wc_loop (fun k a w => ∃ (s32 : Sl × Int) (f1 : Nat → Value), a = ac 58 (en f1 [(7, .slice s32.1.a s32.1.n s32.1.c), (8, .int .i64 s32.2), (10, .int .i16 x28), (25, .slice (some ((⟨b1, 0, none⟩ : Addr).add (1 * 1))) (64 - 1) (64 - 1)), (26, .int .i64 ((64 - 1) : Int)), (27, .int .i64 s19.2.2)]) [] ∧ Sm w0 w ∧ Fix _ k s32 w.heap) k30 ⟨(s19.1, s19.2.1), _, ac_again ⟨rfl, rfl, rfl, rfl, rfl, rfl, trivial⟩, so, h⟩ ?_
      rintro k31 a34 w33 ⟨s32, f1, rfl, so, h⟩
      rcases k31 with _ | k31
      ·exact h.elim
      replace h := Fix.un h; refine wc_in ?_
      refine wc_seq (wc_seq (wc_region (wl_val (at_move rfl) rfl (wl_val (at_gtr rfl rfl) rfl (wl_nil (wk_prune [(7, .slice s32.1.a s32.1.n s32.1.c), (8, .int .i64 s32.2), (10, .int .i16 x28), (25, .slice (some ((⟨b1, 0, none⟩ : Addr).add (1 * 1))) (64 - 1) (64 - 1)), (26, .int .i64 ((64 - 1) : Int)), (27, .int .i64 s19.2.2), (36, .bool (decide ((15 : Int) < s32.2)))] ⟨rfl, rfl, rfl, rfl, rfl, rfl, rfl, trivial⟩ fun f1 => wk_then (wc_cond rfl h (fun h => ?_) (fun h => ?_))))))))
      ·refine wc_skip (wk_prune [(7, .slice s32.1.a s32.1.n s32.1.c), (8, .int .i64 s32.2), (10, .int .i16 x28), (25, .slice (some ((⟨b1, 0, none⟩ : Addr).add (1 * 1))) (64 - 1) (64 - 1)), (26, .int .i64 ((64 - 1) : Int)), (27, .int .i64 s19.2.2)] ⟨rfl, rfl, rfl, rfl, rfl, rfl, trivial⟩ fun f1 => wk_then (wc_seq (wc_block (wc_region (wl_val (at_move rfl) rfl ?_)))))
       refine wl_val (at_build (cs := (c66 240 0 0)) (ps := [(0, .int .u8 240)]) rfl (fun w => by simp [Instr.build, Instr.fill, go_sem, Try.underlying66, z66] <;> rfl)) rfl ?_
       obtain ⟨i39, i39a, i39b, i39c, i39d⟩ := info66
       refine wl_newS (ef_buildSlice (cs := (c66 240 0 0)) (ps := [(0, .agg (c66 240 0 0).toArray)]) Try.underlying107 i39a i39b rfl (by rw [i39c]; decide) (by rw [i39c]; exact fill_full (vs := [.agg (c66 240 0 0).toArray]) rfl (by simp [Value.cells]) (by simp [Value.cells, len66]) rfl (by simp))) rfl so (one66 _ _ _) h ?_; intro p36 w37 h r38 so
       obtain ⟨i40, i40a, i40b, i40c, i40d⟩ := info66
       refine wl_ap (fx_append (s := s32.1) (t := ⟨(some p36), 1, 1⟩) (m := 1) (xs := (c66 240 0 0)) Try.underlying107 Try.underlying107 i40a i40b i40c i40d rfl rfl rfl (by first | rfl | simp [len66]) r38 h) rfl so ?_; intro l41 w42 h so
       exact wl_val (at_assign rfl) rfl (wl_nil (wk_blkN (wk_prune [(7, .slice l41.a l41.n l41.c), (8, .int .i64 s32.2), (10, .int .i16 x28), (25, .slice (some ((⟨b1, 0, none⟩ : Addr).add (1 * 1))) (64 - 1) (64 - 1)), (26, .int .i64 ((64 - 1) : Int)), (27, .int .i64 s19.2.2)] ⟨rfl, rfl, rfl, rfl, rfl, rfl, trivial⟩ fun f1 => wk_then (wc_region (wl_val (at_move rfl) rfl (wl_val (at_sub rfl rfl) rfl (wl_val (at_assign rfl) rfl (wl_nil (wk_again ⟨(l41, (IntKind.wrap .i64 (s32.2 - 16))), _, ac_again ⟨rfl, rfl, rfl, rfl, rfl, rfl, trivial⟩, so, h⟩)))))))))
      ·refine wc_exit (wk_thenE (wk_thenE (wk_blkE (wk_prune [(7, .slice s32.1.a s32.1.n s32.1.c), (8, .int .i64 s32.2), (10, .int .i16 x28), (25, .slice (some ((⟨b1, 0, none⟩ : Addr).add (1 * 1))) (64 - 1) (64 - 1)), (26, .int .i64 ((64 - 1) : Int)), (27, .int .i64 s19.2.2)] ⟨rfl, rfl, rfl, rfl, rfl, rfl, trivial⟩ fun f1 => wk_then (wc_seq (wc_region (wl_val (at_move rfl) rfl (wl_val (at_move rfl) rfl (wl_val (at_move rfl) rfl (wl_val (at_conv Try.underlying55 Try.underlying3 rfl) rfl ?_))))))))))
       refine wl_callF (runs_sym.calls _ _ _ _ h) enter63 rfl trivial so ?_; intro x43 w44 h so
       obtain ⟨i48, i48a, i48b, i48c, i48d⟩ := info66
       refine wl_newS (ef_buildSlice (cs := (c66 x43.1 x43.2.1 x43.2.2)) (ps := [(0, .agg (c66 x43.1 x43.2.1 x43.2.2).toArray)]) Try.underlying107 i48a i48b rfl (by rw [i48c]; decide) (by rw [i48c]; exact fill_full (vs := [.agg (c66 x43.1 x43.2.1 x43.2.2).toArray]) rfl (by simp [Value.cells]) (by simp [Value.cells, len66]) rfl (by simp))) rfl so (one66 _ _ _) h ?_; intro p45 w46 h r47 so
       obtain ⟨i49, i49a, i49b, i49c, i49d⟩ := info66
       refine wl_ap (fx_append (s := s32.1) (t := ⟨(some p45), 1, 1⟩) (m := 1) (xs := (c66 x43.1 x43.2.1 x43.2.2)) Try.underlying107 Try.underlying107 i49a i49b i49c i49d rfl rfl rfl (by first | rfl | simp [len66]) r47 h) rfl so ?_; intro l50 w51 h so
       exact wl_val (at_assign rfl) rfl (wl_nil (wk_prune [(7, .slice l50.a l50.n l50.c), (25, .slice (some ((⟨b1, 0, none⟩ : Addr).add (1 * 1))) (64 - 1) (64 - 1)), (26, .int .i64 ((64 - 1) : Int)), (27, .int .i64 s19.2.2)] ⟨rfl, rfl, rfl, rfl, trivial⟩ fun f1 => wk_then (wc_region (wl_val (at_assign rfl) rfl (wl_nil (wk_blkN (wk_prune [(7, .slice l50.a l50.n l50.c), (8, .int .i64 0), (25, .slice (some ((⟨b1, 0, none⟩ : Addr).add (1 * 1))) (64 - 1) (64 - 1)), (26, .int .i64 ((64 - 1) : Int)), (27, .int .i64 s19.2.2)] ⟨rfl, rfl, rfl, rfl, rfl, trivial⟩ (fun f1 => hJ23 (l50, 0) _ f1 h so))))))))
   ·refine wc_exit (wk_thenE (wk_thenE (wk_blkE (wk_prune [(7, .slice s19.1.a s19.1.n s19.1.c), (8, .int .i64 s19.2.1)] ⟨rfl, rfl, trivial⟩ fun f1 => wk_then (wc_seq (wc_join (w0 := w0) (fun (s53 : Sl) => [(7, .slice s53.a s53.n s53.c)]) h ?_ ?_))))))
    ·rintro s53 w54 f1 h so; refine wk_then ?_
     exact wc_seq (wc_region (wl_val (at_move rfl) rfl (wl_val (at_assign rfl) rfl (wl_val (at_assign rfl) rfl (wl_nil (wk_prune [(4, .slice s53.a s53.n s53.c), (5, .int .i64 0)] ⟨rfl, rfl, trivial⟩ fun f1 => wk_then (wc_ret (wk_ret2 (x := (s53, 0)) rfl (by decide) (by decide) rfl so h))))))))
    ·intro J52 h hJ52
     refine wc_seq (wc_region (wl_val (at_move rfl) rfl (wl_val (at_gtr rfl rfl) rfl (wl_nil (wk_prune [(7, .slice s19.1.a s19.1.n s19.1.c), (52, .bool (decide ((0 : Int) < s19.2.1)))] ⟨rfl, rfl, trivial⟩ fun f1 => wk_then (wc_cond rfl h (fun h => ?_) (fun h => ?_)))))))
     ·refine wc_region (wl_val (at_move rfl) rfl ?_)
      refine wl_val (at_build (cs := (c66 0 0 0)) (ps := [(0, .int .u8 0)]) rfl (fun w => by simp [Instr.build, Instr.fill, go_sem, Try.underlying66, z66] <;> rfl)) rfl ?_
      obtain ⟨i58, i58a, i58b, i58c, i58d⟩ := info66
      refine wl_newS (ef_buildSlice (cs := (c66 0 0 0)) (ps := [(0, .agg (c66 0 0 0).toArray)]) Try.underlying107 i58a i58b rfl (by rw [i58c]; decide) (by rw [i58c]; exact fill_full (vs := [.agg (c66 0 0 0).toArray]) rfl (by simp [Value.cells]) (by simp [Value.cells, len66]) rfl (by simp))) rfl so (one66 _ _ _) h ?_; intro p55 w56 h r57 so
      obtain ⟨i59, i59a, i59b, i59c, i59d⟩ := info66
      refine wl_ap (fx_append (s := s19.1) (t := ⟨(some p55), 1, 1⟩) (m := 1) (xs := (c66 0 0 0)) Try.underlying107 Try.underlying107 i59a i59b i59c i59d rfl rfl rfl (by first | rfl | simp [len66]) r57 h) rfl so ?_; intro l60 w61 h so
      exact wl_val (at_assign rfl) rfl (wl_nil (wk_prune [(7, .slice l60.a l60.n l60.c)] ⟨rfl, trivial⟩ (fun f1 => hJ52 (l60) _ f1 h so)))
     ·exact wc_skip (wk_prune [(7, .slice s19.1.a s19.1.n s19.1.c)] ⟨rfl, trivial⟩ (fun f1 => hJ52 (s19.1) _ f1 h so))
def runs_Begin.enc : (Option Addr) → Value := fun r => .pointer r
def runs_Begin.s (a0 : Int) (H0 : Hp) (Q : (Option Addr) → Hp → Prop) : Prop :=
 Gn [] H0 (fun (b1 : Nat) (H2 : Hp) => Bk H2 b1 151 (c151 (zInts 64) a0 0 .nilFunc) → (st H2 (⟨b1, 66, none⟩ : Addr) (.func (.func 67) #[.pointer (some (⟨b1, 0, none⟩ : Addr))] #[]) (fun H3 => Q (some (⟨b1, 0, none⟩ : Addr)) H3)))
theorem runs_Begin.calls (a0 : Int) (w0 : World) (Q : (Option Addr) → Hp → Prop) (h : runs_Begin.s a0 w0.heap Q) :
  Ca Try.prog 44 #[.int .i16 a0] w0 (Rt runs_Begin.enc Q w0) := by
 refine ca_start (c := _) Try.func44 rfl Try.ntmps44 rfl ?_
 have so : Sm w0 w0 := Sm.refl w0
 unfold runs_Begin.s at h
 refine wc_prune [(0, .int .i16 a0)] ⟨rfl, trivial⟩ (fun f1 => ?_)
 refine wc_seq (wc_region (wl_val (at_assign rfl) rfl (wl_nil (wk_prune [(0, .int .i16 a0)] ⟨rfl, trivial⟩ fun f1 => wk_then (wc_seq (wc_region (wl_val (at_move rfl) rfl ?_)))))))
 refine wl_val (at_build (cs := (c151 (zInts 64) a0 0 .nilFunc)) (ps := [(1, .int .i16 a0)]) rfl (build_struct (szs := [64, 1, 1, 1]) (vs := [.agg (c57 (zInts 64)).toArray, .int .i16 0, .int .i64 0, .nilFunc]) (cs := (c151 (zInts 64) a0 0 .nilFunc)) zero151 (by first | rfl | simp [z151, c151, c57, len57, Value.cells, ints_len, bools_len, List.flatMap]) Try.underlying151 (by kernel_rfl) (by simp [z151, c151, c57, len57, Value.cells, ints_len, bools_len]) (by simp [z151, c151, c57, len57, Value.cells, ints_len, bools_len]) (by first | rfl | simp [z151, c151, c57, len57, Value.cells, ints_len, bools_len, List.set, List.flatMap, mkI, mkB, ints, bools]))) rfl ?_
 refine wl_newT (T := 151) (cs := (c151 (zInts 64) a0 0 .nilFunc)) (ef_box rfl rfl) rfl so ?_; intro b1 w2 hb_b1 t_b1 k_b1 so
 have g_b1 := Nat.le_of_eq hb_b1.symm
 have hc := k_b1.ch (F := [])
 refine wl_val (at_assign rfl) rfl (wl_nil (wk_prune [(3, .pointer (some (⟨b1, 0, none⟩ : Addr)))] ⟨rfl, trivial⟩ fun f1 => wk_then (wc_seq (wc_region (wl_val (at_move rfl) rfl (wl_val (at_move rfl) rfl ?_))))))
 replace h := h b1 _ hc g_b1 t_b1.lt; clear hc
 replace h := h t_b1
 refine wl_val (at_makeFunc (v1 := [.pointer (some (⟨b1, 0, none⟩ : Addr))]) (v2 := []) rfl rfl) rfl (wl_val (at_nilCheck rfl) rfl (wl_val (at_fieldAddr Try.underlying151 rfl rfl sz149 (by decide) rfl) rfl ?_))
 refine wl_st (v := .func (.func 67) #[.pointer (some (⟨b1, 0, none⟩ : Addr))] #[]) h rfl so (fun q1 q2 => ef_store (sz := sz149) rfl rfl rfl q1 q2) ?_; intro w3 h so
 exact wl_nil (wk_prune [(3, .pointer (some (⟨b1, 0, none⟩ : Addr)))] ⟨rfl, trivial⟩ fun f1 => wk_then (wc_seq (wc_region (wl_val (at_move rfl) rfl (wl_val (at_assign rfl) rfl (wl_nil (wk_prune [(2, .pointer (some (⟨b1, 0, none⟩ : Addr)))] ⟨rfl, trivial⟩ fun f1 => wk_then (wc_ret (wk_ret1 (x := (some (⟨b1, 0, none⟩ : Addr))) rfl (by decide) rfl so h)))))))))
def runs_Builder_first.enc : Int → Value := fun r => .int .i64 r
def runs_Builder_first.s (a0 : Option Addr) (a1 : Int) (a2 : Int) (H0 : Hp) (Q : Int → Hp → Prop) : Prop :=
 someA a0 (fun p1 => ldI .i16 H0 (p1.add 64) (fun x3 => Lt ((IntKind.wrap .i64 (a2 + (IntKind.wrap .i64 x3))) : Int) (fun x5 => Join (fun (s8 : Bool) (H9 : Hp) => if s8 = true then (Q 3 H9) else (0 ≤ (0 : Int) ∧ (0 : Int) < (64 : Int) ∧ (st H9 ((p1.add 0).add (Int.toNat 0 * 1)) (.int .i16 (IntKind.wrap .i16 x5)) (fun H12 => st H12 (p1.add 65) (.int .i64 1) (fun H13 => st H13 (p1.add 66) (.func (.func 76) #[.pointer a0] #[]) (fun H14 => Q 0 H14)))))) (fun (J7 : Bool → Hp → Prop) => if decide (x5 < (-1024)) = true then (J7 (true) H0) else (J7 ((decide ((1023 : Int) < x5))) H0)))))
theorem runs_Builder_first.calls (a0 : Option Addr) (a1 : Int) (a2 : Int) (w0 : World) (Q : Int → Hp → Prop) (h : runs_Builder_first.s a0 a1 a2 w0.heap Q) :
  Ca Try.prog 67 #[.pointer a0, .int .i64 a1, .int .i64 a2] w0 (Rt runs_Builder_first.enc Q w0) := by
 refine ca_start (c := _) Try.func67 rfl Try.ntmps67 rfl ?_
 have so : Sm w0 w0 := Sm.refl w0
 unfold runs_Builder_first.s at h
 refine wc_prune [(0, .pointer a0), (2, .int .i64 a2)] ⟨rfl, rfl, trivial⟩ (fun f1 => ?_)
 refine wc_seq (wc_region (wl_val (at_assign rfl) rfl (wl_nil (wk_prune [(0, .pointer a0), (2, .int .i64 a2)] ⟨rfl, rfl, trivial⟩ fun f1 => wk_then (wc_seq (wc_region (wl_val (at_move rfl) rfl (wl_val (at_move rfl) rfl ?_))))))))
 obtain ⟨p1, q2, h⟩ := h
 refine wl_val (at_nilCheck (congrArg Value.pointer q2)) rfl (wl_val (at_fieldAddr Try.underlying151 rfl rfl sz55 (by decide) rfl) rfl ?_)
 obtain ⟨x3, q4, h⟩ := h
 refine wl_val (at_load Try.underlying55 rfl rfl q4) rfl (wl_val (at_conv Try.underlying55 Try.underlying3 rfl) rfl (wl_val (at_add rfl rfl) rfl (wl_val (at_assign rfl) rfl ?_)))
 obtain ⟨x5, e6⟩ : ∃ x : Int, x = (IntKind.wrap .i64 (a2 + (IntKind.wrap .i64 x3))) := ⟨_, rfl⟩; replace h := h x5 e6
 refine wl_set (t := 2) (v := .int .i64 x5) (congrArg (Value.int .i64) e6.symm) (wl_nil (wk_prune [(0, .pointer a0), (2, .int .i64 x5)] ⟨rfl, rfl, trivial⟩ fun f1 => wk_then (wc_seq (wc_seq (wc_join (w0 := w0) (fun (s8 : Bool) => [(0, .pointer a0), (2, .int .i64 x5), (19, .bool s8)]) h ?_ ?_)))))
 ·rintro s8 w9 f1 h so; refine wk_then ?_
  refine wc_cond rfl h (fun h => ?_) (fun h => ?_)
  ·exact wc_seq (wc_region (wl_val (at_assign rfl) rfl (wl_nil (wk_prune [(6, .int .i64 3)] ⟨rfl, trivial⟩ fun f1 => wk_then (wc_ret (wk_thenR (wk_ret1 (x := 3) rfl (by decide) rfl so h)))))))
  ·refine wc_skip (wk_prune [(0, .pointer a0), (2, .int .i64 x5)] ⟨rfl, rfl, trivial⟩ fun f1 => wk_then (wc_seq (wc_region (wl_val (at_move rfl) rfl (wl_val (at_move rfl) rfl (wl_val (at_move rfl) rfl (wl_val (at_move rfl) rfl (wl_val (at_conv Try.underlying3 Try.underlying55 rfl) rfl (wl_val (at_move rfl) rfl (wl_val (at_makeFunc (v1 := [.pointer a0]) (v2 := []) rfl rfl) rfl (wl_val (at_nilCheck (congrArg Value.pointer q2)) rfl (wl_val (at_fieldAddr Try.underlying151 rfl rfl sz57 (by decide) rfl) rfl ?_))))))))))))
   obtain ⟨q10, q11, h⟩ := h
   refine wl_val (at_ixAddrA Try.underlying57 sz55 rfl rfl q10 q11) rfl ?_
   refine wl_st (v := .int .i16 (IntKind.wrap .i16 x5)) h rfl so (fun q1 q2 => ef_store (sz := sz55) rfl rfl rfl q1 q2) ?_; intro w12 h so
   refine wl_val (at_nilCheck (congrArg Value.pointer q2)) rfl (wl_val (at_fieldAddr Try.underlying151 rfl rfl sz3 (by decide) rfl) rfl ?_)
   refine wl_st (v := .int .i64 1) h rfl so (fun q1 q2 => ef_store (sz := sz3) rfl rfl rfl q1 q2) ?_; intro w13 h so
   refine wl_val (at_nilCheck (congrArg Value.pointer q2)) rfl (wl_val (at_fieldAddr Try.underlying151 rfl rfl sz149 (by decide) rfl) rfl ?_)
   refine wl_st (v := .func (.func 76) #[.pointer a0] #[]) h rfl so (fun q1 q2 => ef_store (sz := sz149) rfl rfl rfl q1 q2) ?_; intro w14 h so
   exact wl_nil (wk_prune [] trivial fun f1 => wk_then (wc_seq (wc_region (wl_val (at_assign rfl) rfl (wl_nil (wk_prune [(6, .int .i64 0)] ⟨rfl, trivial⟩ fun f1 => wk_then (wc_ret (wk_ret1 (x := 0) rfl (by decide) rfl so h))))))))
 ·intro J7 h hJ7
  refine wc_region (wl_val (at_move rfl) rfl (wl_val (at_lss rfl rfl) rfl (wl_val (at_move rfl) rfl (bif_ h (fun hb h => ?_) (fun hb h => ?_)))))
  ·refine wl_set (t := 16) (v := .bool true) (congrArg Value.bool hb) ?_; clear hb
   exact wl_off (t := 16) rfl (by decide) rfl (wl_off (t := 16) rfl (by decide) rfl (wl_val (at_pick_t rfl rfl) rfl (wl_nil (wk_prune [(0, .pointer a0), (2, .int .i64 x5), (19, .bool true)] ⟨rfl, rfl, rfl, trivial⟩ (fun f1 => hJ7 (true) _ f1 h so)))))
  ·refine wl_set (t := 16) (v := .bool false) (congrArg Value.bool hb) ?_; clear hb
   exact wl_on (t := 16) rfl (by decide) rfl (wl_val (at_move rfl) rfl (wl_on (t := 16) rfl (by decide) rfl (wl_val (at_gtr rfl rfl) rfl (wl_val (at_pick_f rfl rfl) rfl (wl_nil (wk_prune [(0, .pointer a0), (2, .int .i64 x5), (19, .bool (decide ((1023 : Int) < x5)))] ⟨rfl, rfl, rfl, trivial⟩ (fun f1 => hJ7 ((decide ((1023 : Int) < x5))) _ f1 h so)))))))
def runs_Builder_other.enc : Int → Value := fun r => .int .i64 r
def runs_Builder_other.s (a0 : Option Addr) (a1 : Int) (a2 : Int) (H0 : Hp) (Q : Int → Hp → Prop) : Prop :=
 someA a0 (fun p1 => ldI .i64 H0 (p1.add 65) (fun x3 => st H0 (p1.add 65) (.int .i64 (IntKind.wrap .i64 (x3 + a1))) (fun H5 => ldI .i64 H5 (p1.add 65) (fun x7 => 0 ≤ x7 ∧ x7 < (64 : Int) ∧ (st H5 ((p1.add 0).add (Int.toNat x7 * 1)) (.int .i16 (IntKind.wrap .i16 a2)) (fun H11 => ldI .i64 H11 (p1.add 65) (fun x12 => st H11 (p1.add 65) (.int .i64 (IntKind.wrap .i64 (x12 + 1))) (fun H14 => Q 0 H14))))))))
theorem runs_Builder_other.calls (a0 : Option Addr) (a1 : Int) (a2 : Int) (w0 : World) (Q : Int → Hp → Prop) (h : runs_Builder_other.s a0 a1 a2 w0.heap Q) :
  Ca Try.prog 76 #[.pointer a0, .int .i64 a1, .int .i64 a2] w0 (Rt runs_Builder_other.enc Q w0) := by
 refine ca_start (c := _) Try.func76 rfl Try.ntmps76 rfl ?_
 have so : Sm w0 w0 := Sm.refl w0
 unfold runs_Builder_other.s at h
 refine wc_prune [(0, .pointer a0), (1, .int .i64 a1), (2, .int .i64 a2)] ⟨rfl, rfl, rfl, trivial⟩ (fun f1 => ?_)
 refine wc_seq (wc_region (wl_val (at_assign rfl) rfl (wl_nil (wk_prune [(0, .pointer a0), (1, .int .i64 a1), (2, .int .i64 a2)] ⟨rfl, rfl, rfl, trivial⟩ fun f1 => wk_then (wc_seq (wc_region (wl_val (at_move rfl) rfl ?_)))))))
 obtain ⟨p1, q2, h⟩ := h
 refine wl_val (at_nilCheck (congrArg Value.pointer q2)) rfl (wl_val (at_fieldAddr Try.underlying151 rfl rfl sz3 (by decide) rfl) rfl ?_)
 obtain ⟨x3, q4, h⟩ := h
 refine wl_val (at_load Try.underlying3 rfl rfl q4) rfl (wl_val (at_move rfl) rfl (wl_val (at_add rfl rfl) rfl (wl_val (at_nilCheck (congrArg Value.pointer q2)) rfl (wl_val (at_fieldAddr Try.underlying151 rfl rfl sz3 (by decide) rfl) rfl ?_))))
 refine wl_st (v := .int .i64 (IntKind.wrap .i64 (x3 + a1))) h rfl so (fun q1 q2 => ef_store (sz := sz3) rfl rfl rfl q1 q2) ?_; intro w5 h so
 refine wl_nil (wk_prune [(0, .pointer a0), (2, .int .i64 a2)] ⟨rfl, rfl, trivial⟩ fun f1 => wk_then (wc_seq ?_))
 refine wc_wo [0, 0, 2, 6, 14, 0, 32, 1, 129, 511, 1023] mixed (by kernel_rfl) so ?_; intro w6 hw so; rw [← hw] at h; clear hw
 refine wo_pure (m' := 1) 0 rfl (by kernel_rfl) rfl rfl (fun H => at_move rfl) (wo_pure (m' := 3) 1 rfl (by kernel_rfl) rfl rfl (fun H => at_move rfl) (wo_pure (m' := 7) 2 rfl (by kernel_rfl) rfl rfl (fun H => at_nilCheck (congrArg Value.pointer q2)) (wo_pure (m' := 15) 3 rfl (by kernel_rfl) rfl rfl (fun H => at_fieldAddr Try.underlying151 rfl rfl sz3 (by decide) rfl) (wo_pure (m' := 47) 5 rfl (by kernel_rfl) rfl rfl (fun H => at_move rfl) (wo_pure (m' := 111) 6 rfl (by kernel_rfl) rfl rfl (fun H => at_conv Try.underlying3 Try.underlying55 rfl) (wo_pure (m' := 239) 7 rfl (by kernel_rfl) rfl rfl (fun H => at_nilCheck (congrArg Value.pointer q2)) (wo_pure (m' := 495) 8 rfl (by kernel_rfl) rfl rfl (fun H => at_fieldAddr Try.underlying151 rfl rfl sz57 (by decide) rfl) ?_)))))))
 obtain ⟨x7, q8, h⟩ := h
 refine wo_load (m' := 511) 4 (fun H => cellAt H (p1.add 65) = some (.int .i64 x7)) rfl (by kernel_rfl) rfl rfl (fun H q8 => at_load Try.underlying3 rfl rfl q8) q8 ?_
 obtain ⟨q9, q10, h⟩ := h
 refine wo_pure (m' := 1023) 9 rfl (by kernel_rfl) rfl rfl (fun H => at_ixAddrA Try.underlying57 sz55 rfl rfl q9 q10) (wo_take (m' := 2047) 10 [true] rfl (by kernel_rfl) rfl (by kernel_rfl) ?_)
 refine wl_st (v := .int .i16 (IntKind.wrap .i16 a2)) h rfl so (fun q1 q2 => ef_store (sz := sz55) rfl rfl rfl q1 q2) ?_; intro w11 h so
 refine wl_nil (wk_tq trivial ?_)
 refine wo_done (by kernel_rfl) (wk_prune [(0, .pointer a0)] ⟨rfl, trivial⟩ fun f1 => wk_then (wc_seq (wc_region (wl_val (at_move rfl) rfl (wl_val (at_nilCheck (congrArg Value.pointer q2)) rfl (wl_val (at_fieldAddr Try.underlying151 rfl rfl sz3 (by decide) rfl) rfl ?_))))))
 obtain ⟨x12, q13, h⟩ := h
 refine wl_val (at_load Try.underlying3 rfl rfl q13) rfl (wl_val (at_add rfl rfl) rfl (wl_val (at_nilCheck (congrArg Value.pointer q2)) rfl (wl_val (at_fieldAddr Try.underlying151 rfl rfl sz3 (by decide) rfl) rfl ?_)))
 refine wl_st (v := .int .i64 (IntKind.wrap .i64 (x12 + 1))) h rfl so (fun q1 q2 => ef_store (sz := sz3) rfl rfl rfl q1 q2) ?_; intro w14 h so
 exact wl_nil (wk_prune [] trivial fun f1 => wk_then (wc_seq (wc_region (wl_val (at_assign rfl) rfl (wl_nil (wk_prune [(6, .int .i64 0)] ⟨rfl, trivial⟩ fun f1 => wk_then (wc_ret (wk_ret1 (x := 0) rfl (by decide) rfl so h))))))))
def runs_Builder_Done.enc : Bool → Value := fun r => .bool r
def runs_Builder_Done.s (a0 : Option Addr) (H0 : Hp) (Q : Bool → Hp → Prop) : Prop :=
 someA a0 (fun p1 => ldI .i64 H0 (p1.add 65) (fun x3 => Q (decide ((63 : Int) < x3)) H0))
theorem runs_Builder_Done.calls (a0 : Option Addr) (w0 : World) (Q : Bool → Hp → Prop) (h : runs_Builder_Done.s a0 w0.heap Q) :
  Ca Try.prog 45 #[.pointer a0] w0 (Rt runs_Builder_Done.enc Q w0) := by
 refine ca_start (c := _) Try.func45 rfl Try.ntmps45 rfl ?_
 have so : Sm w0 w0 := Sm.refl w0
 unfold runs_Builder_Done.s at h
 refine wc_prune [(0, .pointer a0)] ⟨rfl, trivial⟩ (fun f1 => ?_)
 refine wc_seq (wc_region (wl_val (at_assign rfl) rfl (wl_nil (wk_prune [(0, .pointer a0)] ⟨rfl, trivial⟩ fun f1 => wk_then (wc_seq (wc_region (wl_val (at_move rfl) rfl ?_)))))))
 obtain ⟨p1, q2, h⟩ := h
 refine wl_val (at_nilCheck (congrArg Value.pointer q2)) rfl (wl_val (at_fieldAddr Try.underlying151 rfl rfl sz3 (by decide) rfl) rfl ?_)
 obtain ⟨x3, q4, h⟩ := h
 exact wl_val (at_load Try.underlying3 rfl rfl q4) rfl (wl_val (at_gtr rfl rfl) rfl (wl_val (at_assign rfl) rfl (wl_nil (wk_prune [(2, .bool (decide ((63 : Int) < x3)))] ⟨rfl, trivial⟩ fun f1 => wk_then (wc_ret (wk_ret1 (x := (decide ((63 : Int) < x3))) rfl (by decide) rfl so h))))))
def runs_Builder_Wants.enc : Int × Int → Value := fun r => .tuple #[.int .i8 r.1, .int .i64 r.2]
def runs_Builder_Wants.s (a0 : Option Addr) (a1 : Int) (H0 : Hp) (Q : (Int × Int) → Hp → Prop) : Prop :=
 runs_Builder_Done.s a0 H0 (fun x1 H2 => if x1 = true then (Q (0, 4) H2) else (Join (fun (s4 : Bool) (H5 : Hp) => if s4 = true then (Q (0, 60) H5) else (someA a0 (fun p6 => ldI .i64 H5 (p6.add 65) (fun x8 => if (x8 == 0) = true then (Q ((IntKind.wrap .i8 a1), 0) H5) else (if (a1 == 0) = true then (Q (0, 0) H5) else (if (a1 == 240) = true then (ldI .i64 H5 (p6.add 65) (fun x10 => if decide ((63 : Int) < (IntKind.wrap .i64 (x10 + 16))) = true then (Q (0, 70) H5) else (Q (0, 0) H5))) else (Join (fun (s13 : Bool) (H14 : Hp) => if s13 = true then (Q (0, 60) H14) else (ldI .i64 H14 (p6.add 65) (fun x15 => if decide ((63 : Int) < (IntKind.wrap .i64 (x15 + (IntKind.wrap .i64 (shrI .u8 a1 4))))) = true then (Q (0, 70) H14) else (Q ((IntKind.wrap .i8 (Go.bits .and .u8 a1 15)), 0) H14)))) (fun (J12 : Bool → Hp → Prop) => if decide ((IntKind.wrap .i8 (Go.bits .and .u8 a1 15)) < 1) = true then (J12 (true) H5) else (J12 ((decide ((10 : Int) < (IntKind.wrap .i8 (Go.bits .and .u8 a1 15))))) H5))))))))) (fun (J3 : Bool → Hp → Prop) => someA a0 (fun p17 => ldI .i64 H2 (p17.add 65) (fun x19 => if (x19 == 0) = true then (J3 ((decide ((11 : Int) < a1))) H2) else (J3 (false) H2))))))
theorem runs_Builder_Wants.calls (a0 : Option Addr) (a1 : Int) (w0 : World) (Q : (Int × Int) → Hp → Prop) (h : runs_Builder_Wants.s a0 a1 w0.heap Q) :
  Ca Try.prog 48 #[.pointer a0, .int .u8 a1] w0 (Rt runs_Builder_Wants.enc Q w0) := by
 refine ca_start (c := _) Try.func48 rfl Try.ntmps48 rfl ?_
 have so : Sm w0 w0 := Sm.refl w0
 unfold runs_Builder_Wants.s at h
 refine wc_prune [(0, .pointer a0), (1, .int .u8 a1)] ⟨rfl, rfl, trivial⟩ (fun f1 => ?_)
 refine wc_seq (wc_region (wl_val (at_assign rfl) rfl (wl_val (at_assign rfl) rfl (wl_nil (wk_prune [(0, .pointer a0), (1, .int .u8 a1)] ⟨rfl, rfl, trivial⟩ fun f1 => wk_then (wc_seq (wc_block (wc_seq (wc_region (wl_val (at_move rfl) rfl ?_))))))))))
 refine wl_callF (runs_Builder_Done.calls _ _ _ h) enter45 rfl trivial so ?_; intro x1 w2 h so
 refine wl_val (at_assign rfl) rfl (wl_nil (wk_prune [(0, .pointer a0), (1, .int .u8 a1), (8, .bool x1)] ⟨rfl, rfl, rfl, trivial⟩ fun f1 => wk_then (wc_cond rfl h (fun h => ?_) (fun h => ?_))))
 ·exact wc_seq (wc_region (wl_val (at_assign rfl) rfl (wl_val (at_assign rfl) rfl (wl_nil (wk_prune [(4, .int .i8 0), (5, .int .i64 4)] ⟨rfl, rfl, trivial⟩ fun f1 => wk_then (wc_ret (wk_blkR (wk_thenR (wk_ret2 (x := (0, 4)) rfl (by decide) (by decide) rfl so h)))))))))
 ·refine wc_seq (wc_join (w0 := w0) (fun (s4 : Bool) => [(0, .pointer a0), (1, .int .u8 a1), (11, .bool s4)]) h ?_ ?_)
  ·rintro s4 w5 f1 h so; refine wk_then ?_
   refine wc_cond rfl h (fun h => ?_) (fun h => ?_)
   ·exact wc_seq (wc_region (wl_val (at_assign rfl) rfl (wl_val (at_assign rfl) rfl (wl_nil (wk_prune [(4, .int .i8 0), (5, .int .i64 60)] ⟨rfl, rfl, trivial⟩ fun f1 => wk_then (wc_ret (wk_blkR (wk_thenR (wk_ret2 (x := (0, 60)) rfl (by decide) (by decide) rfl so h)))))))))
   ·refine wc_seq (wc_region (wl_val (at_move rfl) rfl ?_))
    obtain ⟨p6, q7, h⟩ := h
    refine wl_val (at_nilCheck (congrArg Value.pointer q7)) rfl (wl_val (at_fieldAddr Try.underlying151 rfl rfl sz3 (by decide) rfl) rfl ?_)
    obtain ⟨x8, q9, h⟩ := h
    refine wl_val (at_load Try.underlying3 rfl rfl q9) rfl (wl_val (at_eql rfl rfl) rfl (wl_val (at_assign rfl) rfl (wl_nil (wk_prune [(0, .pointer a0), (1, .int .u8 a1), (21, .bool (x8 == 0))] ⟨rfl, rfl, rfl, trivial⟩ fun f1 => wk_then (wc_cond rfl h (fun h => ?_) (fun h => ?_))))))
    ·exact wc_seq (wc_region (wl_val (at_move rfl) rfl (wl_val (at_conv Try.underlying5 Try.underlying46 rfl) rfl (wl_val (at_assign rfl) rfl (wl_val (at_assign rfl) rfl (wl_nil (wk_prune [(4, .int .i8 (IntKind.wrap .i8 a1)), (5, .int .i64 0)] ⟨rfl, rfl, trivial⟩ fun f1 => wk_then (wc_ret (wk_blkR (wk_thenR (wk_ret2 (x := ((IntKind.wrap .i8 a1), 0)) rfl (by decide) (by decide) rfl so h)))))))))))
    ·refine wc_seq (wc_region (wl_val (at_move rfl) rfl (wl_val (at_eql rfl rfl) rfl (wl_val (at_assign rfl) rfl (wl_nil (wk_prune [(0, .pointer a0), (1, .int .u8 a1), (29, .bool (a1 == 0))] ⟨rfl, rfl, rfl, trivial⟩ fun f1 => wk_then (wc_cond rfl h (fun h => ?_) (fun h => ?_))))))))
     ·exact wc_seq (wc_region (wl_val (at_assign rfl) rfl (wl_val (at_assign rfl) rfl (wl_nil (wk_prune [(4, .int .i8 0), (5, .int .i64 0)] ⟨rfl, rfl, trivial⟩ fun f1 => wk_then (wc_ret (wk_blkR (wk_thenR (wk_ret2 (x := (0, 0)) rfl (by decide) (by decide) rfl so h)))))))))
     ·refine wc_seq (wc_region (wl_val (at_move rfl) rfl (wl_val (at_eql rfl rfl) rfl (wl_val (at_assign rfl) rfl (wl_nil (wk_prune [(0, .pointer a0), (1, .int .u8 a1), (32, .bool (a1 == 240))] ⟨rfl, rfl, rfl, trivial⟩ fun f1 => wk_then (wc_cond rfl h (fun h => ?_) (fun h => ?_))))))))
      ·refine wc_seq (wc_seq (wc_region (wl_val (at_move rfl) rfl (wl_val (at_nilCheck (congrArg Value.pointer q7)) rfl (wl_val (at_fieldAddr Try.underlying151 rfl rfl sz3 (by decide) rfl) rfl ?_)))))
       obtain ⟨x10, q11, h⟩ := h
       refine wl_val (at_load Try.underlying3 rfl rfl q11) rfl (wl_val (at_add rfl rfl) rfl (wl_val (at_gtr rfl rfl) rfl (wl_nil (wk_prune [(40, .bool (decide ((63 : Int) < (IntKind.wrap .i64 (x10 + 16)))))] ⟨rfl, trivial⟩ fun f1 => wk_then (wc_cond rfl h (fun h => ?_) (fun h => ?_))))))
       ·exact wc_seq (wc_region (wl_val (at_assign rfl) rfl (wl_val (at_assign rfl) rfl (wl_nil (wk_prune [(4, .int .i8 0), (5, .int .i64 70)] ⟨rfl, rfl, trivial⟩ fun f1 => wk_then (wc_ret (wk_thenR (wk_blkR (wk_thenR (wk_ret2 (x := (0, 70)) rfl (by decide) (by decide) rfl so h))))))))))
       ·exact wc_skip (wk_prune [] trivial fun f1 => wk_then (wc_seq (wc_region (wl_val (at_assign rfl) rfl (wl_val (at_assign rfl) rfl (wl_nil (wk_prune [(4, .int .i8 0), (5, .int .i64 0)] ⟨rfl, rfl, trivial⟩ fun f1 => wk_then (wc_ret (wk_blkR (wk_thenR (wk_ret2 (x := (0, 0)) rfl (by decide) (by decide) rfl so h)))))))))))
      ·refine wc_skip (wk_blkN (wk_prune [(0, .pointer a0), (1, .int .u8 a1)] ⟨rfl, rfl, trivial⟩ fun f1 => wk_then (wc_seq (wc_region (wl_val (at_move rfl) rfl (wl_val (at_and rfl rfl) rfl (wl_val (at_conv Try.underlying5 Try.underlying46 rfl) rfl (wl_val (at_move rfl) rfl (wl_val (at_shr rfl rfl (by decide)) rfl (wl_val (at_conv Try.underlying5 Try.underlying3 rfl) rfl (wl_val (at_assign rfl) rfl (wl_val (at_assign rfl) rfl (wl_nil (wk_prune [(0, .pointer a0), (6, .int .i8 (IntKind.wrap .i8 (Go.bits .and .u8 a1 15))), (7, .int .i64 (IntKind.wrap .i64 (shrI .u8 a1 4)))] ⟨rfl, rfl, rfl, trivial⟩ fun f1 => wk_then (wc_seq (wc_seq (wc_join (w0 := w0) (fun (s13 : Bool) => [(0, .pointer a0), (6, .int .i8 (IntKind.wrap .i8 (Go.bits .and .u8 a1 15))), (7, .int .i64 (IntKind.wrap .i64 (shrI .u8 a1 4))), (52, .bool s13)]) h ?_ ?_)))))))))))))))))
       ·rintro s13 w14 f1 h so; refine wk_then ?_
        refine wc_cond rfl h (fun h => ?_) (fun h => ?_)
        ·exact wc_seq (wc_region (wl_val (at_assign rfl) rfl (wl_val (at_assign rfl) rfl (wl_nil (wk_prune [(4, .int .i8 0), (5, .int .i64 60)] ⟨rfl, rfl, trivial⟩ fun f1 => wk_then (wc_ret (wk_thenR (wk_ret2 (x := (0, 60)) rfl (by decide) (by decide) rfl so h))))))))
        ·refine wc_skip (wk_prune [(0, .pointer a0), (6, .int .i8 (IntKind.wrap .i8 (Go.bits .and .u8 a1 15))), (7, .int .i64 (IntKind.wrap .i64 (shrI .u8 a1 4)))] ⟨rfl, rfl, rfl, trivial⟩ fun f1 => wk_then (wc_seq (wc_seq (wc_region (wl_val (at_move rfl) rfl (wl_val (at_nilCheck (congrArg Value.pointer q7)) rfl (wl_val (at_fieldAddr Try.underlying151 rfl rfl sz3 (by decide) rfl) rfl ?_)))))))
         obtain ⟨x15, q16, h⟩ := h
         refine wl_val (at_load Try.underlying3 rfl rfl q16) rfl (wl_val (at_move rfl) rfl (wl_val (at_add rfl rfl) rfl (wl_val (at_gtr rfl rfl) rfl (wl_nil (wk_prune [(6, .int .i8 (IntKind.wrap .i8 (Go.bits .and .u8 a1 15))), (59, .bool (decide ((63 : Int) < (IntKind.wrap .i64 (x15 + (IntKind.wrap .i64 (shrI .u8 a1 4)))))))] ⟨rfl, rfl, trivial⟩ fun f1 => wk_then (wc_cond rfl h (fun h => ?_) (fun h => ?_)))))))
         ·exact wc_seq (wc_region (wl_val (at_assign rfl) rfl (wl_val (at_assign rfl) rfl (wl_nil (wk_prune [(4, .int .i8 0), (5, .int .i64 70)] ⟨rfl, rfl, trivial⟩ fun f1 => wk_then (wc_ret (wk_thenR (wk_ret2 (x := (0, 70)) rfl (by decide) (by decide) rfl so h))))))))
         ·exact wc_skip (wk_prune [(6, .int .i8 (IntKind.wrap .i8 (Go.bits .and .u8 a1 15)))] ⟨rfl, trivial⟩ fun f1 => wk_then (wc_seq (wc_region (wl_val (at_move rfl) rfl (wl_val (at_assign rfl) rfl (wl_val (at_assign rfl) rfl (wl_nil (wk_prune [(4, .int .i8 (IntKind.wrap .i8 (Go.bits .and .u8 a1 15))), (5, .int .i64 0)] ⟨rfl, rfl, trivial⟩ fun f1 => wk_then (wc_ret (wk_ret2 (x := ((IntKind.wrap .i8 (Go.bits .and .u8 a1 15)), 0)) rfl (by decide) (by decide) rfl so h))))))))))
       ·intro J12 h hJ12
        refine wc_region (wl_val (at_move rfl) rfl (wl_val (at_lss rfl rfl) rfl (wl_val (at_move rfl) rfl (bif_ h (fun hb h => ?_) (fun hb h => ?_)))))
        ·refine wl_set (t := 49) (v := .bool true) (congrArg Value.bool hb) ?_; clear hb
         exact wl_off (t := 49) rfl (by decide) rfl (wl_off (t := 49) rfl (by decide) rfl (wl_val (at_pick_t rfl rfl) rfl (wl_nil (wk_prune [(0, .pointer a0), (6, .int .i8 (IntKind.wrap .i8 (Go.bits .and .u8 a1 15))), (7, .int .i64 (IntKind.wrap .i64 (shrI .u8 a1 4))), (52, .bool true)] ⟨rfl, rfl, rfl, rfl, trivial⟩ (fun f1 => hJ12 (true) _ f1 h so)))))
        ·refine wl_set (t := 49) (v := .bool false) (congrArg Value.bool hb) ?_; clear hb
         exact wl_on (t := 49) rfl (by decide) rfl (wl_val (at_move rfl) rfl (wl_on (t := 49) rfl (by decide) rfl (wl_val (at_gtr rfl rfl) rfl (wl_val (at_pick_f rfl rfl) rfl (wl_nil (wk_prune [(0, .pointer a0), (6, .int .i8 (IntKind.wrap .i8 (Go.bits .and .u8 a1 15))), (7, .int .i64 (IntKind.wrap .i64 (shrI .u8 a1 4))), (52, .bool (decide ((10 : Int) < (IntKind.wrap .i8 (Go.bits .and .u8 a1 15)))))] ⟨rfl, rfl, rfl, rfl, trivial⟩ (fun f1 => hJ12 ((decide ((10 : Int) < (IntKind.wrap .i8 (Go.bits .and .u8 a1 15))))) _ f1 h so)))))))
  ·intro J3 h hJ3
   refine wc_region (wl_val (at_move rfl) rfl ?_)
   obtain ⟨p17, q18, h⟩ := h
   refine wl_val (at_nilCheck (congrArg Value.pointer q18)) rfl (wl_val (at_fieldAddr Try.underlying151 rfl rfl sz3 (by decide) rfl) rfl ?_)
   obtain ⟨x19, q20, h⟩ := h
   refine wl_val (at_load Try.underlying3 rfl rfl q20) rfl (wl_val (at_eql rfl rfl) rfl (wl_val (at_move rfl) rfl (bif_ h (fun hb h => ?_) (fun hb h => ?_))))
   ·refine wl_set (t := 17) (v := .bool true) (congrArg Value.bool hb) ?_; clear hb
    exact wl_on (t := 17) rfl (by decide) rfl (wl_val (at_move rfl) rfl (wl_on (t := 17) rfl (by decide) rfl (wl_val (at_gtr rfl rfl) rfl (wl_val (at_pick_t rfl rfl) rfl (wl_val (at_assign rfl) rfl (wl_nil (wk_prune [(0, .pointer a0), (1, .int .u8 a1), (11, .bool (decide ((11 : Int) < a1)))] ⟨rfl, rfl, rfl, trivial⟩ (fun f1 => hJ3 ((decide ((11 : Int) < a1))) _ f1 h so))))))))
   ·refine wl_set (t := 17) (v := .bool false) (congrArg Value.bool hb) ?_; clear hb
    exact wl_off (t := 17) rfl (by decide) rfl (wl_off (t := 17) rfl (by decide) rfl (wl_val (at_pick_f rfl rfl) rfl (wl_val (at_assign rfl) rfl (wl_nil (wk_prune [(0, .pointer a0), (1, .int .u8 a1), (11, .bool false)] ⟨rfl, rfl, rfl, trivial⟩ (fun f1 => hJ3 (false) _ f1 h so))))))
def runs_Builder_Take.enc : Int → Value := fun r => .int .i64 r
def runs_Builder_Take.s (a0 : Option Addr) (a1_0 : Int) (a1_1 : Int) (a1_2 : Int) (H0 : Hp) (Q : Int → Hp → Prop) : Prop :=
 Gn [] H0 (fun (b1 : Nat) (H2 : Hp) => runs_Builder_Wants.s a0 a1_0 H2 (fun x3 H4 => Pv [b1] H2 H4 ∧ (if (x3.2 != 0) = true then (Q x3.2 H4) else (Join (fun (s7 : Bool) (H8 : Hp) => if s7 = true then (Q 60 H8) else (Join (fun (s10 : Unit) (H11 : Hp) => Q 0 H11) (fun (J9 : Unit → Hp → Prop) => Join (fun (s13 : Bool) (H14 : Hp) => if s13 = true then (someA a0 (fun p15 => st H14 (p15.add 65) (.int .i64 64) (fun H17 => J9 () H17))) else (Join (fun (s19 : Bool) (H20 : Hp) => if s19 = true then (someA a0 (fun p21 => ldI .i64 H20 (p21.add 65) (fun x23 => st H20 (p21.add 65) (.int .i64 (IntKind.wrap .i64 (x23 + 16))) (fun H25 => J9 () H25)))) else (magnitude_Value.s a1_2 a1_1 H20 (fun x26 H27 => Pv [b1] H20 H27 ∧ (someA a0 (fun p30 => ldF H27 (p30.add 66) (fun x32 => (∃ p35 : Option Addr, x32 = .func (.func 67) #[.pointer p35] #[] ∧ (runs_Builder_first.s p35 (IntKind.wrap .i64 (shrI .u8 a1_0 4)) x26.1 H27 (fun x37 H38 => Pv [b1] H27 H38 ∧ (Q x37 H38)))) ∨ (∃ p40 : Option Addr, x32 = .func (.func 76) #[.pointer p40] #[] ∧ (runs_Builder_other.s p40 (IntKind.wrap .i64 (shrI .u8 a1_0 4)) x26.1 H27 (fun x42 H43 => Pv [b1] H27 H43 ∧ (Q x42 H43)))))))))) (fun (J18 : Bool → Hp → Prop) => someA a0 (fun p45 => ldI .i64 H14 (p45.add 65) (fun x47 => if decide ((0 : Int) < x47) = true then (J18 ((a1_0 == 240)) H14) else (J18 (false) H14)))))) (fun (J12 : Bool → Hp → Prop) => someA a0 (fun p49 => ldI .i64 H8 (p49.add 65) (fun x51 => if decide ((0 : Int) < x51) = true then (J12 ((a1_0 == 0)) H8) else (J12 (false) H8))))))) (fun (J6 : Bool → Hp → Prop) => if (a1_1 != x3.1) = true then (J6 (true) H4) else (0 ≤ x3.1 ∧ (J6 ((decide ((shlI .i64 1 x3.1) ≤ (IntKind.wrap .i64 a1_2)))) H4)))))))
theorem runs_Builder_Take.calls (a0 : Option Addr) (a1_0 : Int) (a1_1 : Int) (a1_2 : Int) (w0 : World) (Q : Int → Hp → Prop) (h : runs_Builder_Take.s a0 a1_0 a1_1 a1_2 w0.heap Q) :
  Ca Try.prog 50 #[.pointer a0, .agg (c66 a1_0 a1_1 a1_2).toArray] w0 (Rt runs_Builder_Take.enc Q w0) := by
 refine ca_start (c := _) Try.func50 rfl Try.ntmps50 rfl ?_
 have so : Sm w0 w0 := Sm.refl w0
 unfold runs_Builder_Take.s at h
 refine wc_prune [(0, .pointer a0), (1, .agg (c66 a1_0 a1_1 a1_2).toArray)] ⟨rfl, rfl, trivial⟩ (fun f1 => ?_)
 refine wc_seq (wc_region ?_)
 refine wl_newT (T := 66) (cs := (c66 a1_0 a1_1 a1_2)) (ef_box rfl rfl) rfl so ?_; intro b1 w2 hb_b1 t_b1 k_b1 so
 have g_b1 := Nat.le_of_eq hb_b1.symm
 have hc := k_b1.ch (F := [])
 refine wl_val (at_assign rfl) rfl (wl_nil (wk_prune [(0, .pointer a0), (3, .pointer (some (⟨b1, 0, none⟩ : Addr)))] ⟨rfl, rfl, trivial⟩ fun f1 => wk_then (wc_seq (wc_region (wl_val (at_move rfl) rfl (wl_val (at_fieldAddr Try.underlying66 rfl rfl sz5 (by decide) rfl) rfl ?_))))))
 refine wl_val (at_load (v := .int .u8 a1_0) Try.underlying5 rfl rfl ((t_b1.cell 0).trans (by first | rfl | simp [List.getElem?_append, ints_len, bools_len]))) rfl ?_
 replace h := h b1 _ hc g_b1 t_b1.lt; clear hc
 refine wl_callF (runs_Builder_Wants.calls _ _ _ _ h) enter48 rfl trivial so ?_; intro x3 w4 h so
 obtain ⟨q5, h⟩ := h
 replace t_b1 := pv_bk q5 t_b1 (by simp)
 refine wl_val (at_move rfl) rfl (wl_val (at_extract rfl rfl) rfl (wl_val (at_extract rfl rfl) rfl (wl_val (at_assign rfl) rfl (wl_val (at_assign rfl) rfl (wl_nil (wk_prune [(0, .pointer a0), (3, .pointer (some (⟨b1, 0, none⟩ : Addr))), (5, .int .i8 x3.1), (6, .int .i64 x3.2)] ⟨rfl, rfl, rfl, rfl, trivial⟩ fun f1 => wk_then (wc_seq (wc_seq (wc_region (wl_val (at_move rfl) rfl (wl_val (at_neq rfl rfl) rfl (wl_nil (wk_prune [(0, .pointer a0), (3, .pointer (some (⟨b1, 0, none⟩ : Addr))), (5, .int .i8 x3.1), (6, .int .i64 x3.2), (17, .bool (x3.2 != 0))] ⟨rfl, rfl, rfl, rfl, rfl, trivial⟩ fun f1 => wk_then (wc_cond rfl h (fun h => ?_) (fun h => ?_)))))))))))))))
 ·exact wc_seq (wc_region (wl_val (at_move rfl) rfl (wl_val (at_assign rfl) rfl (wl_nil (wk_prune [(4, .int .i64 x3.2)] ⟨rfl, trivial⟩ fun f1 => wk_then (wc_ret (wk_thenR (wk_ret1 (x := x3.2) rfl (by decide) rfl so h))))))))
 ·refine wc_skip (wk_prune [(0, .pointer a0), (3, .pointer (some (⟨b1, 0, none⟩ : Addr))), (5, .int .i8 x3.1)] ⟨rfl, rfl, rfl, trivial⟩ fun f1 => wk_then (wc_seq (wc_seq (wc_joinG (w0 := w0) (fun (H : Hp) => Bk H b1 66 (c66 a1_0 a1_1 a1_2) ∧ True) (fun (s7 : Bool) => [(0, .pointer a0), (3, .pointer (some (⟨b1, 0, none⟩ : Addr))), (30, .bool s7)]) (fun (s7 : Bool) => []) h ?_ ?_))))
  ·rintro s7 w8 f1 h ⟨t_b1, _⟩ so; refine wk_then ?_
   refine wc_cond rfl h (fun h => ?_) (fun h => ?_)
   ·exact wc_seq (wc_region (wl_val (at_assign rfl) rfl (wl_nil (wk_prune [(4, .int .i64 60)] ⟨rfl, trivial⟩ fun f1 => wk_then (wc_ret (wk_thenR (wk_ret1 (x := 60) rfl (by decide) rfl so h)))))))
   ·refine wc_skip (wk_prune [(0, .pointer a0), (3, .pointer (some (⟨b1, 0, none⟩ : Addr)))] ⟨rfl, rfl, trivial⟩ fun f1 => wk_then (wc_seq (wc_join (w0 := w0) (fun (s10 : Unit) => []) h ?_ ?_)))
    ·rintro s10 w11 f1 h so; refine wk_then ?_
     exact wc_seq (wc_region (wl_val (at_assign rfl) rfl (wl_nil (wk_prune [(4, .int .i64 0)] ⟨rfl, trivial⟩ fun f1 => wk_then (wc_ret (wk_ret1 (x := 0) rfl (by decide) rfl so h))))))
    ·intro J9 h hJ9
     refine wc_block (wc_seq (wc_joinG (w0 := w0) (fun (H : Hp) => Bk H b1 66 (c66 a1_0 a1_1 a1_2) ∧ True) (fun (s13 : Bool) => [(0, .pointer a0), (3, .pointer (some (⟨b1, 0, none⟩ : Addr))), (49, .bool s13)]) (fun (s13 : Bool) => []) h ?_ ?_))
     ·rintro s13 w14 f1 h ⟨t_b1, _⟩ so; refine wk_then ?_
      refine wc_cond rfl h (fun h => ?_) (fun h => ?_)
      ·refine wc_region (wl_val (at_move rfl) rfl ?_)
       obtain ⟨p15, q16, h⟩ := h
       refine wl_val (at_nilCheck (congrArg Value.pointer q16)) rfl (wl_val (at_fieldAddr Try.underlying151 rfl rfl sz3 (by decide) rfl) rfl ?_)
       refine wl_st (v := .int .i64 64) h rfl so (fun q1 q2 => ef_store (sz := sz3) rfl rfl rfl q1 q2) ?_; intro w17 h so
       exact wl_nil (wk_blkN (wk_prune [] trivial (fun f1 => hJ9 () _ f1 h so)))
      ·refine wc_seq (wc_joinG (w0 := w0) (fun (H : Hp) => Bk H b1 66 (c66 a1_0 a1_1 a1_2) ∧ True) (fun (s19 : Bool) => [(0, .pointer a0), (3, .pointer (some (⟨b1, 0, none⟩ : Addr))), (63, .bool s19)]) (fun (s19 : Bool) => []) h ?_ ?_)
       ·rintro s19 w20 f1 h ⟨t_b1, _⟩ so; refine wk_then ?_
        refine wc_cond rfl h (fun h => ?_) (fun h => ?_)
        ·refine wc_region (wl_val (at_move rfl) rfl ?_)
         obtain ⟨p21, q22, h⟩ := h
         refine wl_val (at_nilCheck (congrArg Value.pointer q22)) rfl (wl_val (at_fieldAddr Try.underlying151 rfl rfl sz3 (by decide) rfl) rfl ?_)
         obtain ⟨x23, q24, h⟩ := h
         refine wl_val (at_load Try.underlying3 rfl rfl q24) rfl (wl_val (at_add rfl rfl) rfl (wl_val (at_nilCheck (congrArg Value.pointer q22)) rfl (wl_val (at_fieldAddr Try.underlying151 rfl rfl sz3 (by decide) rfl) rfl ?_)))
         refine wl_st (v := .int .i64 (IntKind.wrap .i64 (x23 + 16))) h rfl so (fun q1 q2 => ef_store (sz := sz3) rfl rfl rfl q1 q2) ?_; intro w25 h so
         exact wl_nil (wk_blkN (wk_prune [] trivial (fun f1 => hJ9 () _ f1 h so)))
        ·refine wc_seq (wc_region (wl_val (at_fieldAddr Try.underlying66 rfl rfl sz64 (by decide) rfl) rfl ?_))
         refine wl_val (at_load (v := .int .u16 a1_2) Try.underlying64 rfl rfl ((t_b1.cell 2).trans (by first | rfl | simp [List.getElem?_append, ints_len, bools_len]))) rfl ?_
         refine wl_val (at_fieldAddr Try.underlying66 rfl rfl sz46 (by decide) rfl) rfl ?_
         refine wl_val (at_load (v := .int .i8 a1_1) Try.underlying46 rfl rfl ((t_b1.cell 1).trans (by first | rfl | simp [List.getElem?_append, ints_len, bools_len]))) rfl ?_
         refine wl_callF (magnitude_Value.calls _ _ _ _ h) enter69 rfl trivial so ?_; intro x26 w27 h so
         obtain ⟨q28, h⟩ := h
         replace t_b1 := pv_bk q28 t_b1 (by simp)
         refine wl_val (at_move rfl) rfl (wl_val (at_extract rfl rfl) rfl (wl_val (at_extract rfl rfl) rfl (wl_val (at_assign rfl) rfl (wl_val (at_assign rfl) rfl (wl_nil (wk_prune [(0, .pointer a0), (3, .pointer (some (⟨b1, 0, none⟩ : Addr))), (7, .int .i64 x26.1)] ⟨rfl, rfl, rfl, trivial⟩ fun f1 => wk_then (wc_seq ?_)))))))
         refine wc_wo [0, 1, 3, 7, 0, 16, 48, 112, 0, 511, 1023] mixed (by kernel_rfl) so ?_; intro w29 hw so; rw [← hw] at h t_b1; clear hw
         refine wo_pure (m' := 1) 0 rfl (by kernel_rfl) rfl rfl (fun H => at_move rfl) ?_
         obtain ⟨p30, q31, h⟩ := h
         refine wo_pure (m' := 3) 1 rfl (by kernel_rfl) rfl rfl (fun H => at_nilCheck (congrArg Value.pointer q31)) (wo_pure (m' := 7) 2 rfl (by kernel_rfl) rfl rfl (fun H => at_fieldAddr Try.underlying151 rfl rfl sz149 (by decide) rfl) (wo_pure (m' := 23) 4 rfl (by kernel_rfl) rfl rfl (fun H => at_fieldAddr Try.underlying66 rfl rfl sz5 (by decide) rfl) (wo_pure (m' := 279) 8 rfl (by kernel_rfl) rfl rfl (fun H => at_move rfl) ?_)))
         obtain ⟨x32, q33, h⟩ := h
         refine wo_load (m' := 287) 3 (fun H => cellAt H (p30.add 66) = some (x32)) rfl (by kernel_rfl) rfl rfl (fun H q33 => at_load Try.underlying149 rfl rfl q33) q33 ?_
         have q34 : cellAt w29.heap (⟨b1, 0, none⟩ : Addr) = some (.int .u8 a1_0) := (t_b1.cell 0).trans (by first | rfl | simp [List.getElem?_append, ints_len, bools_len])
         refine wo_load (m' := 319) 5 (fun H => cellAt H (⟨b1, 0, none⟩ : Addr) = some (.int .u8 a1_0)) rfl (by kernel_rfl) rfl rfl (fun H q34 => at_load (v := .int .u8 a1_0) Try.underlying5 rfl rfl (q34)) q34 (wo_pure (m' := 383) 6 rfl (by kernel_rfl) rfl rfl (fun H => at_shr rfl rfl (by decide)) (wo_pure (m' := 511) 7 rfl (by kernel_rfl) rfl rfl (fun H => at_conv Try.underlying5 Try.underlying3 rfl) (wo_take (m' := 1023) 9 [true, true] rfl (by kernel_rfl) rfl (by kernel_rfl) ?_)))
         rcases h with ⟨p35, q36, h⟩ | ⟨p40, q41, h⟩
         ·refine wl_callV (fs := [.pointer p35]) (cs := []) (runs_Builder_first.calls _ _ _ _ _ h) enter67 q36 rfl so ?_; intro x37 w38 h so
          obtain ⟨q39, h⟩ := h
          replace t_b1 := pv_bk q39 t_b1 (by simp)
          refine wl_nil (wk_tq trivial ?_)
          exact wo_pure (m' := 2047) 10 rfl (by kernel_rfl) rfl rfl (fun H => at_assign rfl) (wo_done (by kernel_rfl) (wk_prune [(4, .int .i64 x37)] ⟨rfl, trivial⟩ fun f1 => wk_then (wc_ret (wk_blkR (wk_thenR (wk_ret1 (x := x37) rfl (by decide) rfl so h))))))
         ·refine wl_callV (fs := [.pointer p40]) (cs := []) (runs_Builder_other.calls _ _ _ _ _ h) enter76 q41 rfl so ?_; intro x42 w43 h so
          obtain ⟨q44, h⟩ := h
          replace t_b1 := pv_bk q44 t_b1 (by simp)
          refine wl_nil (wk_tq trivial ?_)
          exact wo_pure (m' := 2047) 10 rfl (by kernel_rfl) rfl rfl (fun H => at_assign rfl) (wo_done (by kernel_rfl) (wk_prune [(4, .int .i64 x42)] ⟨rfl, trivial⟩ fun f1 => wk_then (wc_ret (wk_blkR (wk_thenR (wk_ret1 (x := x42) rfl (by decide) rfl so h))))))
       ·intro J18 h hJ18
        refine wc_region (wl_val (at_move rfl) rfl ?_)
        obtain ⟨p45, q46, h⟩ := h
        refine wl_val (at_nilCheck (congrArg Value.pointer q46)) rfl (wl_val (at_fieldAddr Try.underlying151 rfl rfl sz3 (by decide) rfl) rfl ?_)
        obtain ⟨x47, q48, h⟩ := h
        refine wl_val (at_load Try.underlying3 rfl rfl q48) rfl (wl_val (at_gtr rfl rfl) rfl (wl_val (at_move rfl) rfl (bif_ h (fun hb h => ?_) (fun hb h => ?_))))
        ·refine wl_set (t := 69) (v := .bool true) (congrArg Value.bool hb) ?_; clear hb
         refine wl_on (t := 69) rfl (by decide) rfl (wl_val (at_fieldAddr Try.underlying66 rfl rfl sz5 (by decide) rfl) rfl (wl_on (t := 69) rfl (by decide) rfl ?_))
         refine wl_val (at_load (v := .int .u8 a1_0) Try.underlying5 rfl rfl ((t_b1.cell 0).trans (by first | rfl | simp [List.getElem?_append, ints_len, bools_len]))) rfl ?_
         exact wl_on (t := 69) rfl (by decide) rfl (wl_val (at_eql rfl rfl) rfl (wl_val (at_pick_t rfl rfl) rfl (wl_val (at_assign rfl) rfl (wl_nil (wk_prune [(0, .pointer a0), (3, .pointer (some (⟨b1, 0, none⟩ : Addr))), (63, .bool (a1_0 == 240))] ⟨rfl, rfl, rfl, trivial⟩ (fun f1 => hJ18 ((a1_0 == 240)) _ f1 h ⟨t_b1, trivial⟩ so))))))
        ·refine wl_set (t := 69) (v := .bool false) (congrArg Value.bool hb) ?_; clear hb
         exact wl_off (t := 69) rfl (by decide) rfl (wl_off (t := 69) rfl (by decide) rfl (wl_off (t := 69) rfl (by decide) rfl (wl_val (at_pick_f rfl rfl) rfl (wl_val (at_assign rfl) rfl (wl_nil (wk_prune [(0, .pointer a0), (3, .pointer (some (⟨b1, 0, none⟩ : Addr))), (63, .bool false)] ⟨rfl, rfl, rfl, trivial⟩ (fun f1 => hJ18 (false) _ f1 h ⟨t_b1, trivial⟩ so)))))))
     ·intro J12 h hJ12
      refine wc_region (wl_val (at_move rfl) rfl ?_)
      obtain ⟨p49, q50, h⟩ := h
      refine wl_val (at_nilCheck (congrArg Value.pointer q50)) rfl (wl_val (at_fieldAddr Try.underlying151 rfl rfl sz3 (by decide) rfl) rfl ?_)
      obtain ⟨x51, q52, h⟩ := h
      refine wl_val (at_load Try.underlying3 rfl rfl q52) rfl (wl_val (at_gtr rfl rfl) rfl (wl_val (at_move rfl) rfl (bif_ h (fun hb h => ?_) (fun hb h => ?_))))
      ·refine wl_set (t := 55) (v := .bool true) (congrArg Value.bool hb) ?_; clear hb
       refine wl_on (t := 55) rfl (by decide) rfl (wl_val (at_fieldAddr Try.underlying66 rfl rfl sz5 (by decide) rfl) rfl (wl_on (t := 55) rfl (by decide) rfl ?_))
       refine wl_val (at_load (v := .int .u8 a1_0) Try.underlying5 rfl rfl ((t_b1.cell 0).trans (by first | rfl | simp [List.getElem?_append, ints_len, bools_len]))) rfl ?_
       exact wl_on (t := 55) rfl (by decide) rfl (wl_val (at_eql rfl rfl) rfl (wl_val (at_pick_t rfl rfl) rfl (wl_val (at_assign rfl) rfl (wl_nil (wk_prune [(0, .pointer a0), (3, .pointer (some (⟨b1, 0, none⟩ : Addr))), (49, .bool (a1_0 == 0))] ⟨rfl, rfl, rfl, trivial⟩ (fun f1 => hJ12 ((a1_0 == 0)) _ f1 h ⟨t_b1, trivial⟩ so))))))
      ·refine wl_set (t := 55) (v := .bool false) (congrArg Value.bool hb) ?_; clear hb
       exact wl_off (t := 55) rfl (by decide) rfl (wl_off (t := 55) rfl (by decide) rfl (wl_off (t := 55) rfl (by decide) rfl (wl_val (at_pick_f rfl rfl) rfl (wl_val (at_assign rfl) rfl (wl_nil (wk_prune [(0, .pointer a0), (3, .pointer (some (⟨b1, 0, none⟩ : Addr))), (49, .bool false)] ⟨rfl, rfl, rfl, trivial⟩ (fun f1 => hJ12 (false) _ f1 h ⟨t_b1, trivial⟩ so)))))))
  ·intro J6 h hJ6
   refine wc_wo [0, 1, 0, 7, 15, 31, 63, 127, 31, 287, 1023, 2047] mixed (by kernel_rfl) so ?_; intro w53 hw so; rw [← hw] at h t_b1; clear hw
   refine wo_pure (m' := 1) 0 rfl (by kernel_rfl) rfl rfl (fun H => at_fieldAddr Try.underlying66 rfl rfl sz46 (by decide) rfl) (wo_pure (m' := 5) 2 rfl (by kernel_rfl) rfl rfl (fun H => at_move rfl) ?_)
   have q54 : cellAt w53.heap (⟨b1, 1, none⟩ : Addr) = some (.int .i8 a1_1) := (t_b1.cell 1).trans (by first | rfl | simp [List.getElem?_append, ints_len, bools_len])
   refine wo_load (m' := 7) 1 (fun H => cellAt H (⟨b1, 1, none⟩ : Addr) = some (.int .i8 a1_1)) rfl (by kernel_rfl) rfl rfl (fun H q54 => at_load (v := .int .i8 a1_1) Try.underlying46 rfl rfl (q54)) q54 (wo_pure (m' := 15) 3 rfl (by kernel_rfl) rfl rfl (fun H => at_neq rfl rfl) (wo_pure (m' := 31) 4 rfl (by kernel_rfl) rfl rfl (fun H => at_move rfl) (bif_ h (fun hb h => ?_) (fun hb h => ?_))))
   ·refine wo_set (t := 23) (v := .bool true) (congrArg Value.bool hb) ?_; clear hb
    exact wo_off (m' := 63) 5 rfl (by kernel_rfl) rfl (t := 23) rfl (by decide) rfl (wo_off (m' := 127) 6 rfl (by kernel_rfl) rfl (t := 23) rfl (by decide) rfl (wo_off (m' := 255) 7 rfl (by kernel_rfl) rfl (t := 23) rfl (by decide) rfl (wo_off (m' := 511) 8 rfl (by kernel_rfl) rfl (t := 23) rfl (by decide) rfl (wo_off (m' := 1023) 9 rfl (by kernel_rfl) rfl (t := 23) rfl (by decide) rfl (wo_off (m' := 2047) 10 rfl (by kernel_rfl) rfl (t := 23) rfl (by decide) rfl (wo_pure (m' := 4095) 11 rfl (by kernel_rfl) rfl rfl (fun H => at_pick_t rfl rfl) (wo_done (by kernel_rfl) (wk_prune [(0, .pointer a0), (3, .pointer (some (⟨b1, 0, none⟩ : Addr))), (30, .bool true)] ⟨rfl, rfl, rfl, trivial⟩ (fun f1 => hJ6 (true) _ f1 h ⟨t_b1, trivial⟩ so)))))))))
   ·refine wo_set (t := 23) (v := .bool false) (congrArg Value.bool hb) ?_; clear hb
    refine wo_pureG (m' := 63) 5 rfl (by kernel_rfl) rfl (t := 23) rfl (by decide) rfl (fun H => at_fieldAddr Try.underlying66 rfl rfl sz64 (by decide) rfl) (wo_pureG (m' := 319) 8 rfl (by kernel_rfl) rfl (t := 23) rfl (by decide) rfl (fun H => at_move rfl) ?_)
    obtain ⟨q55, h⟩ := h
    refine wo_pureG (m' := 831) 9 rfl (by kernel_rfl) rfl (t := 23) rfl (by decide) rfl (fun H => at_shl rfl rfl q55) ?_
    have q56 : cellAt w53.heap (⟨b1, 2, none⟩ : Addr) = some (.int .u16 a1_2) := (t_b1.cell 2).trans (by first | rfl | simp [List.getElem?_append, ints_len, bools_len])
    exact wo_loadG (m' := 895) 6 (fun H => cellAt H (⟨b1, 2, none⟩ : Addr) = some (.int .u16 a1_2)) rfl (by kernel_rfl) rfl (t := 23) rfl (by decide) rfl (fun H q56 => at_load (v := .int .u16 a1_2) Try.underlying64 rfl rfl (q56)) q56 (wo_pureG (m' := 1023) 7 rfl (by kernel_rfl) rfl (t := 23) rfl (by decide) rfl (fun H => at_conv Try.underlying64 Try.underlying3 rfl) (wo_pureG (m' := 2047) 10 rfl (by kernel_rfl) rfl (t := 23) rfl (by decide) rfl (fun H => at_geq rfl rfl) (wo_pure (m' := 4095) 11 rfl (by kernel_rfl) rfl rfl (fun H => at_pick_f rfl rfl) (wo_done (by kernel_rfl) (wk_prune [(0, .pointer a0), (3, .pointer (some (⟨b1, 0, none⟩ : Addr))), (30, .bool (decide ((shlI .i64 1 x3.1) ≤ (IntKind.wrap .i64 a1_2))))] ⟨rfl, rfl, rfl, trivial⟩ (fun f1 => hJ6 ((decide ((shlI .i64 1 x3.1) ≤ (IntKind.wrap .i64 a1_2)))) _ f1 h ⟨t_b1, trivial⟩ so))))))
def runs_Builder_Block.enc : (Ints 64) → Value := fun r => .agg (c57 r).toArray
def runs_Builder_Block.s (a0 : Option Addr) (H0 : Hp) (Q : (Ints 64) → Hp → Prop) : Prop :=
 Gn [] H0 (fun (b1 : Nat) (H2 : Hp) => someA a0 (fun p3 => ∃ x5 : Ints 64, ldA H2 (p3.add 0) (c57 x5) ∧ (Gr [b1] H2 (fun (H7 : Hp) => Q x5 H7))))
theorem runs_Builder_Block.calls (a0 : Option Addr) (w0 : World) (Q : (Ints 64) → Hp → Prop) (h : runs_Builder_Block.s a0 w0.heap Q) :
  Ca Try.prog 51 #[.pointer a0] w0 (Rt runs_Builder_Block.enc Q w0) := by
 refine ca_start (c := _) Try.func51 rfl Try.ntmps51 rfl ?_
 have so : Sm w0 w0 := Sm.refl w0
 unfold runs_Builder_Block.s at h
 refine wc_prune [(0, .pointer a0)] ⟨rfl, trivial⟩ (fun f1 => ?_)
 refine wc_seq (wc_region ?_)
 refine wl_newT (T := 57) (cs := (c57 (zInts 64))) (ef_alloc zero57 rfl) rfl so ?_; intro b1 w2 hb_b1 t_b1 k_b1 so
 have g_b1 := Nat.le_of_eq hb_b1.symm
 have hc := k_b1.ch (F := [])
 refine wl_nil (wk_prune [(0, .pointer a0), (2, .pointer (some (⟨b1, 0, none⟩ : Addr)))] ⟨rfl, rfl, trivial⟩ fun f1 => wk_then (wc_seq (wc_region (wl_val (at_move rfl) rfl ?_))))
 replace h := h b1 _ hc g_b1 t_b1.lt; clear hc
 obtain ⟨p3, q4, h⟩ := h
 refine wl_val (at_nilCheck (congrArg Value.pointer q4)) rfl (wl_val (at_fieldAddr Try.underlying151 rfl rfl sz57 (by decide) rfl) rfl ?_)
 obtain ⟨x5, q6, h⟩ := h
 refine wl_val (at_loadA (cs := (c57 x5)) Try.underlying57 rfl (by rw [len57]; exact sz57) rfl q6) rfl ?_
 refine wl_stWT (vs := (c57 x5)) t_b1 (by first | (rw [len57, len57]) | (rw [len57]) | rfl) rfl so (fun q => ef_storeA (p := (⟨b1, 0, none⟩ : Addr)) (cs := (c57 x5)) (by rw [len57]; exact sz57) rfl rfl (one57 _) q) ?_; intro w7 t_b1 s_w7 so
 have hc := s_w7.ch
 refine wl_nil (wk_prune [(2, .pointer (some (⟨b1, 0, none⟩ : Addr)))] ⟨rfl, trivial⟩ fun f1 => wk_then (wc_ret ?_))
 replace h := h _ hc; clear hc
 exact wk_retR1 (x := x5) rfl ⟨by decide, _, rfl, loadVar_agg (cs := (c57 x5)) Try.underlying57 rfl (by rw [len57]; exact sz57) (ldA_full t_b1)⟩ rfl so h
end Go.Proofs.Ytmnoecpnoofdjaa.G
