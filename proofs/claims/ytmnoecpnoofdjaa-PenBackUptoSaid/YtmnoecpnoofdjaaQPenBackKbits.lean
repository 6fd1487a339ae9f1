/- Of this text what the row needs. -/
import Derived.Test.YtmnoecpnoofdjaaQPenBackKshelf
import Derived.Test.YtmnoecpnoofdjaaQPenBackKstrings
namespace Go.Proofs.Ytmnoecpnoofdjaa.G
open Go.RowKit
set_option linter.unusedVariables false
set_option maxRecDepth 20000
set_option maxHeartbeats 4000000
set_option linter.unusedSimpArgs false
def bits_New.enc : (Option Addr) → Value := fun r => .pointer r
def bits_New.s (H0 : Hp) (Q : (Option Addr) → Hp → Prop) : Prop :=
 Gn [] H0 (fun (b1 : Nat) (H2 : Hp) => Bk H2 b1 106 (c106 ⟨none, 0, 0⟩ 0 0) → (Q (some (⟨b1, 0, none⟩ : Addr)) H2))
theorem bits_New.calls (w0 : World) (Q : (Option Addr) → Hp → Prop) (h : bits_New.s w0.heap Q) :
  Ca Try.prog 15 #[] w0 (Rt bits_New.enc Q w0) := by
 refine ca_start (c := _) Try.func15 rfl Try.ntmps15 rfl ?_
 have so : Sm w0 w0 := Sm.refl w0
 unfold bits_New.s at h
 refine wc_prune [] trivial (fun f1 => ?_)
 refine wc_seq (wc_region (wl_val (at_assign rfl) rfl (wl_nil (wk_prune [] trivial fun f1 => wk_then (wc_seq (wc_region ?_))))))
 refine wl_val (at_build (cs := (c106 ⟨none, 0, 0⟩ 0 0)) (ps := []) rfl (fun w => by simp [Instr.build, Instr.fill, go_sem, Try.underlying106, z106] <;> rfl)) rfl ?_
 refine wl_newT (T := 106) (cs := (c106 ⟨none, 0, 0⟩ 0 0)) (ef_box rfl rfl) rfl so ?_; intro b1 w2 hb_b1 t_b1 k_b1 so
 have g_b1 := Nat.le_of_eq hb_b1.symm
 have hc := k_b1.ch (F := [])
 refine wl_val (at_assign rfl) rfl (wl_nil (wk_prune [(0, .pointer (some (⟨b1, 0, none⟩ : Addr)))] ⟨rfl, trivial⟩ fun f1 => wk_then (wc_ret ?_)))
 replace h := h b1 _ hc g_b1 t_b1.lt; clear hc
 replace h := h t_b1
 exact wk_ret1 (x := (some (⟨b1, 0, none⟩ : Addr))) rfl (by decide) rfl so h
def bits_Sink_Put.enc : Bool → Value := fun r => .bool r
def bits_Sink_Put.s (a0 : Option Addr) (a1 : Int) (a2 : Int) (H0 : Hp) (Q : Bool → Hp → Prop) : Prop :=
 Join (fun (s2 : Bool) (H3 : Hp) => if s2 = true then (Q false H3) else (someA a0 (fun p5 => 0 ≤ a2 ∧ (ldI .u32 H3 (p5.add 1) (fun x8 => 0 ≤ a2 ∧ (st H3 (p5.add 1) (.int .u32 (Go.bits .or .u32 (shlI .u32 x8 a2) (Go.bits .and .u32 (IntKind.wrap .u32 a1) (IntKind.wrap .u32 ((shlI .u32 1 a2) - 1))))) (fun H11 => ldI .i64 H11 (p5.add 2) (fun x12 => st H11 (p5.add 2) (.int .i64 (IntKind.wrap .i64 (x12 + a2))) (fun H14 => ∃ k15, Fix (fun (rec20 : Unit → Hp → Prop) (s17 : Unit) (H18 : Hp) => ldI .i64 H18 (p5.add 2) (fun x21 => if decide ((8 : Int) ≤ x21) = true then (ldI .i64 H18 (p5.add 2) (fun x23 => st H18 (p5.add 2) (.int .i64 (IntKind.wrap .i64 (x23 - 8))) (fun H25 => ldL H25 (p5.add 0) (fun x27 => ldI .u32 H25 (p5.add 1) (fun x29 => ldI .i64 H25 (p5.add 2) (fun x31 => 0 ≤ x31 ∧ (nw H25 5 [.int .u8 (IntKind.wrap .u8 (shrI .u32 x29 x31))] (fun p34 H35 => cellAt H35 (p5.add 0) = some (.slice x27.a x27.n x27.c) ∧ (apS H35 x27 5 1 1 z5.cells 1 [.int .u8 (IntKind.wrap .u8 (shrI .u32 x29 x31))] (fun l40 H41 => st H41 (p5.add 0) (.slice l40.a l40.n l40.c) (fun H42 => ldI .u32 H42 (p5.add 1) (fun x44 => ldI .i64 H42 (p5.add 2) (fun x46 => 0 ≤ x46 ∧ (st H42 (p5.add 1) (.int .u32 (Go.bits .and .u32 x44 (IntKind.wrap .u32 ((shlI .u32 1 x46) - 1)))) (fun H49 => rec20 () H49))))))))))))))) else (Q true H18))) k15 () H14))))))))) (fun (J1 : Bool → Hp → Prop) => if decide (a2 < 0) = true then (J1 (true) H0) else (J1 ((decide ((16 : Int) < a2))) H0))
theorem bits_Sink_Put.calls (a0 : Option Addr) (a1 : Int) (a2 : Int) (w0 : World) (Q : Bool → Hp → Prop) (h : bits_Sink_Put.s a0 a1 a2 w0.heap Q) :
  Ca Try.prog 19 #[.pointer a0, .int .i64 a1, .int .i64 a2] w0 (Rt bits_Sink_Put.enc Q w0) := by
 refine ca_start (c := _) Try.func19 rfl Try.ntmps19 rfl ?_
 have so : Sm w0 w0 := Sm.refl w0
 unfold bits_Sink_Put.s at h
 refine wc_prune [(0, .pointer a0), (1, .int .i64 a1), (2, .int .i64 a2)] ⟨rfl, rfl, rfl, trivial⟩ (fun f1 => ?_)
 refine wc_seq (wc_region (wl_val (at_assign rfl) rfl (wl_nil (wk_prune [(0, .pointer a0), (1, .int .i64 a1), (2, .int .i64 a2)] ⟨rfl, rfl, rfl, trivial⟩ fun f1 => wk_then (wc_seq (wc_seq (wc_join (w0 := w0) (fun (s2 : Bool) => [(0, .pointer a0), (1, .int .i64 a1), (2, .int .i64 a2), (12, .bool s2)]) h ?_ ?_)))))))
 ·rintro s2 w3 f1 h so; refine wk_then ?_
  refine wc_cond rfl h (fun h => ?_) (fun h => ?_)
  ·exact wc_seq (wc_region (wl_val (at_assign rfl) rfl (wl_nil (wk_prune [(6, .bool false)] ⟨rfl, trivial⟩ fun f1 => wk_then (wc_ret (wk_thenR (wk_ret1 (x := false) rfl (by decide) rfl so h)))))))
  ·refine wc_skip (wk_prune [(0, .pointer a0), (1, .int .i64 a1), (2, .int .i64 a2)] ⟨rfl, rfl, rfl, trivial⟩ fun f1 => wk_then (wc_seq ?_))
   refine wc_wo [0, 0, 2, 6, 14, 0, 62, 0, 128, 0, 512, 1536, 3968, 8190, 16383, 32767, 65535] mixed (by kernel_rfl) so ?_; intro w4 hw so; rw [← hw] at h; clear hw
   refine wo_pure (m' := 1) 0 rfl (by kernel_rfl) rfl rfl (fun H => at_move rfl) (wo_pure (m' := 3) 1 rfl (by kernel_rfl) rfl rfl (fun H => at_move rfl) ?_)
   obtain ⟨p5, q6, h⟩ := h
   refine wo_pure (m' := 7) 2 rfl (by kernel_rfl) rfl rfl (fun H => at_nilCheck (congrArg Value.pointer q6)) (wo_pure (m' := 15) 3 rfl (by kernel_rfl) rfl rfl (fun H => at_fieldAddr Try.underlying106 rfl rfl sz104 (by decide) rfl) (wo_pure (m' := 47) 5 rfl (by kernel_rfl) rfl rfl (fun H => at_move rfl) (wo_pure (m' := 175) 7 rfl (by kernel_rfl) rfl rfl (fun H => at_move rfl) (wo_pure (m' := 431) 8 rfl (by kernel_rfl) rfl rfl (fun H => at_conv Try.underlying3 Try.underlying104 rfl) (wo_pure (m' := 943) 9 rfl (by kernel_rfl) rfl rfl (fun H => at_move rfl) ?_)))))
   obtain ⟨q7, h⟩ := h
   refine wo_pure (m' := 1967) 10 rfl (by kernel_rfl) rfl rfl (fun H => at_shl rfl rfl q7) (wo_pure (m' := 4015) 11 rfl (by kernel_rfl) rfl rfl (fun H => at_sub rfl rfl) (wo_pure (m' := 8111) 12 rfl (by kernel_rfl) rfl rfl (fun H => at_and rfl rfl) ?_))
   obtain ⟨x8, q9, h⟩ := h
   refine wo_load (m' := 8127) 4 (fun H => cellAt H (p5.add 1) = some (.int .u32 x8)) rfl (by kernel_rfl) rfl rfl (fun H q9 => at_load Try.underlying104 rfl rfl q9) q9 ?_
   obtain ⟨q10, h⟩ := h
   refine wo_pure (m' := 8191) 6 rfl (by kernel_rfl) rfl rfl (fun H => at_shl rfl rfl q10) (wo_pure (m' := 16383) 13 rfl (by kernel_rfl) rfl rfl (fun H => at_or rfl rfl) (wo_pure (m' := 32767) 14 rfl (by kernel_rfl) rfl rfl (fun H => at_nilCheck (congrArg Value.pointer q6)) (wo_pure (m' := 65535) 15 rfl (by kernel_rfl) rfl rfl (fun H => at_fieldAddr Try.underlying106 rfl rfl sz104 (by decide) rfl) (wo_take (m' := 131071) 16 [true] rfl (by kernel_rfl) rfl (by kernel_rfl) ?_))))
   refine wl_st (v := .int .u32 (Go.bits .or .u32 (shlI .u32 x8 a2) (Go.bits .and .u32 (IntKind.wrap .u32 a1) (IntKind.wrap .u32 ((shlI .u32 1 a2) - 1))))) h rfl so (fun q1 q2 => ef_store (sz := sz104) rfl rfl rfl q1 q2) ?_; intro w11 h so
   refine wl_nil (wk_tq trivial ?_)
   refine wo_done (by kernel_rfl) (wk_prune [(0, .pointer a0), (2, .int .i64 a2)] ⟨rfl, rfl, trivial⟩ fun f1 => wk_then (wc_seq (wc_region (wl_val (at_move rfl) rfl (wl_val (at_nilCheck (congrArg Value.pointer q6)) rfl (wl_val (at_fieldAddr Try.underlying106 rfl rfl sz3 (by decide) rfl) rfl ?_))))))
   obtain ⟨x12, q13, h⟩ := h
   refine wl_val (at_load Try.underlying3 rfl rfl q13) rfl (wl_val (at_move rfl) rfl (wl_val (at_add rfl rfl) rfl (wl_val (at_nilCheck (congrArg Value.pointer q6)) rfl (wl_val (at_fieldAddr Try.underlying106 rfl rfl sz3 (by decide) rfl) rfl ?_))))
   refine wl_st (v := .int .i64 (IntKind.wrap .i64 (x12 + a2))) h rfl so (fun q1 q2 => ef_store (sz := sz3) rfl rfl rfl q1 q2) ?_; intro w14 h so
   refine wl_nil (wk_prune [(0, .pointer a0)] ⟨rfl, trivial⟩ fun f1 => wk_then (wc_seq (wc_block ?_)))
   obtain ⟨k15, h⟩ := h
   refine wc_loop (fun k a w => ∃ (s17 : Unit) (f1 : Nat → Value), a = ac 81 (en f1 [(0, .pointer a0)]) [] ∧ Sm w0 w ∧ Fix _ k s17 w.heap) k15 ⟨(), _, ac_again ⟨rfl, trivial⟩, so, h⟩ ?_
   rintro k16 a19 w18 ⟨s17, f1, rfl, so, h⟩
   rcases k16 with _ | k16
   ·exact h.elim
   replace h := Fix.un h; refine wc_in ?_
   refine wc_seq (wc_seq (wc_region (wl_val (at_move rfl) rfl (wl_val (at_nilCheck (congrArg Value.pointer q6)) rfl (wl_val (at_fieldAddr Try.underlying106 rfl rfl sz3 (by decide) rfl) rfl ?_)))))
   obtain ⟨x21, q22, h⟩ := h
   refine wl_val (at_load Try.underlying3 rfl rfl q22) rfl (wl_val (at_geq rfl rfl) rfl (wl_nil (wk_prune [(0, .pointer a0), (41, .bool (decide ((8 : Int) ≤ x21)))] ⟨rfl, rfl, trivial⟩ fun f1 => wk_then (wc_cond rfl h (fun h => ?_) (fun h => ?_)))))
   ·refine wc_skip (wk_prune [(0, .pointer a0)] ⟨rfl, trivial⟩ fun f1 => wk_then (wc_block (wc_seq (wc_region (wl_val (at_move rfl) rfl (wl_val (at_nilCheck (congrArg Value.pointer q6)) rfl (wl_val (at_fieldAddr Try.underlying106 rfl rfl sz3 (by decide) rfl) rfl ?_)))))))
    obtain ⟨x23, q24, h⟩ := h
    refine wl_val (at_load Try.underlying3 rfl rfl q24) rfl (wl_val (at_sub rfl rfl) rfl (wl_val (at_nilCheck (congrArg Value.pointer q6)) rfl (wl_val (at_fieldAddr Try.underlying106 rfl rfl sz3 (by decide) rfl) rfl ?_)))
    refine wl_st (v := .int .i64 (IntKind.wrap .i64 (x23 - 8))) h rfl so (fun q1 q2 => ef_store (sz := sz3) rfl rfl rfl q1 q2) ?_; intro w25 h so
    refine wl_nil (wk_prune [(0, .pointer a0)] ⟨rfl, trivial⟩ fun f1 => wk_then (wc_seq ?_))
    refine wc_wo [0, 0, 2, 6, 14, 0, 32, 96, 224, 0, 512, 1536, 3584, 8160, 16352, 32736, 65534, 131071, 262143, 524287] mixed (by kernel_rfl) so ?_; intro w26 hw so; rw [← hw] at h; clear hw
    refine wo_pure (m' := 1) 0 rfl (by kernel_rfl) rfl rfl (fun H => at_move rfl) (wo_pure (m' := 3) 1 rfl (by kernel_rfl) rfl rfl (fun H => at_move rfl) (wo_pure (m' := 7) 2 rfl (by kernel_rfl) rfl rfl (fun H => at_nilCheck (congrArg Value.pointer q6)) (wo_pure (m' := 15) 3 rfl (by kernel_rfl) rfl rfl (fun H => at_fieldAddr Try.underlying106 rfl rfl sz27 (by decide) rfl) (wo_pure (m' := 47) 5 rfl (by kernel_rfl) rfl rfl (fun H => at_move rfl) (wo_pure (m' := 111) 6 rfl (by kernel_rfl) rfl rfl (fun H => at_nilCheck (congrArg Value.pointer q6)) (wo_pure (m' := 239) 7 rfl (by kernel_rfl) rfl rfl (fun H => at_fieldAddr Try.underlying106 rfl rfl sz104 (by decide) rfl) (wo_pure (m' := 751) 9 rfl (by kernel_rfl) rfl rfl (fun H => at_move rfl) (wo_pure (m' := 1775) 10 rfl (by kernel_rfl) rfl rfl (fun H => at_nilCheck (congrArg Value.pointer q6)) (wo_pure (m' := 3823) 11 rfl (by kernel_rfl) rfl rfl (fun H => at_fieldAddr Try.underlying106 rfl rfl sz3 (by decide) rfl) ?_)))))))))
    obtain ⟨x27, q28, h⟩ := h
    refine wo_load (m' := 3839) 4 (fun H => cellAt H (p5.add 0) = some (.slice x27.a x27.n x27.c)) rfl (by kernel_rfl) rfl rfl (fun H q28 => at_load Try.underlying27 rfl rfl q28) q28 ?_
    obtain ⟨x29, q30, h⟩ := h
    refine wo_load (m' := 4095) 8 (fun H => cellAt H (p5.add 1) = some (.int .u32 x29)) rfl (by kernel_rfl) rfl rfl (fun H q30 => at_load Try.underlying104 rfl rfl q30) q30 ?_
    obtain ⟨x31, q32, h⟩ := h
    refine wo_load (m' := 8191) 12 (fun H => cellAt H (p5.add 2) = some (.int .i64 x31)) rfl (by kernel_rfl) rfl rfl (fun H q32 => at_load Try.underlying3 rfl rfl q32) q32 ?_
    obtain ⟨q33, h⟩ := h
    refine wo_pure (m' := 16383) 13 rfl (by kernel_rfl) rfl rfl (fun H => at_shr rfl rfl q33) (wo_pure (m' := 32767) 14 rfl (by kernel_rfl) rfl rfl (fun H => at_conv Try.underlying104 Try.underlying5 rfl) (wo_take (m' := 65535) 15 [true, true, false] rfl (by kernel_rfl) rfl (by kernel_rfl) ?_))
    obtain ⟨i37, i37a, i37b, i37c, i37d⟩ := info5
    refine wl_newS (ef_buildSlice (cs := [.int .u8 (IntKind.wrap .u8 (shrI .u32 x29 x31))]) (ps := [(0, .int .u8 (IntKind.wrap .u8 (shrI .u32 x29 x31)))]) Try.underlying27 i37a i37b rfl (by rw [i37c]; decide) (by rw [i37c]; exact fill_full (vs := [.int .u8 (IntKind.wrap .u8 (shrI .u32 x29 x31))]) rfl (by simp [Value.cells]) (by simp [Value.cells]) rfl (by simp))) rfl so (ones_cons rfl ones_nil) h ?_; intro p34 w35 h r36 so
    refine wl_nil ?_
    obtain ⟨q38, h⟩ := h
    refine wk_tq ⟨q38, trivial⟩ ?_
    refine wo_take (m' := 131071) 16 [true] rfl (by kernel_rfl) rfl (by kernel_rfl) ?_
    obtain ⟨i39, i39a, i39b, i39c, i39d⟩ := info5
    refine wl_ap (fx_append (s := x27) (t := ⟨(some p34), 1, 1⟩) (m := 1) (xs := [.int .u8 (IntKind.wrap .u8 (shrI .u32 x29 x31))]) Try.underlying27 Try.underlying27 i39a i39b i39c i39d rfl rfl rfl (by first | rfl | simp) r36 h) rfl so ?_; intro l40 w41 h so
    refine wl_nil (wk_tq trivial ?_)
    refine wo_pure (m' := 262143) 17 rfl (by kernel_rfl) rfl rfl (fun H => at_nilCheck (congrArg Value.pointer q6)) (wo_pure (m' := 524287) 18 rfl (by kernel_rfl) rfl rfl (fun H => at_fieldAddr Try.underlying106 rfl rfl sz27 (by decide) rfl) (wo_take (m' := 1048575) 19 [] rfl (by kernel_rfl) rfl (by kernel_rfl) ?_))
    refine wl_st (v := .slice l40.a l40.n l40.c) h rfl so (fun q1 q2 => ef_store (sz := sz27) rfl rfl rfl q1 q2) ?_; intro w42 h so
    refine wl_nil (wk_tq trivial ?_)
    refine wo_done (by kernel_rfl) (wk_prune [(0, .pointer a0)] ⟨rfl, trivial⟩ fun f1 => wk_then ?_)
    refine wc_wo [0, 1, 3, 7, 0, 16, 48, 112, 240, 496, 1023, 2047, 4095, 8191] mixed (by kernel_rfl) so ?_; intro w43 hw so; rw [← hw] at h; clear hw
    refine wo_pure (m' := 1) 0 rfl (by kernel_rfl) rfl rfl (fun H => at_move rfl) (wo_pure (m' := 3) 1 rfl (by kernel_rfl) rfl rfl (fun H => at_nilCheck (congrArg Value.pointer q6)) (wo_pure (m' := 7) 2 rfl (by kernel_rfl) rfl rfl (fun H => at_fieldAddr Try.underlying106 rfl rfl sz104 (by decide) rfl) (wo_pure (m' := 23) 4 rfl (by kernel_rfl) rfl rfl (fun H => at_move rfl) (wo_pure (m' := 55) 5 rfl (by kernel_rfl) rfl rfl (fun H => at_nilCheck (congrArg Value.pointer q6)) (wo_pure (m' := 119) 6 rfl (by kernel_rfl) rfl rfl (fun H => at_fieldAddr Try.underlying106 rfl rfl sz3 (by decide) rfl) ?_)))))
    obtain ⟨x44, q45, h⟩ := h
    refine wo_load (m' := 127) 3 (fun H => cellAt H (p5.add 1) = some (.int .u32 x44)) rfl (by kernel_rfl) rfl rfl (fun H q45 => at_load Try.underlying104 rfl rfl q45) q45 ?_
    obtain ⟨x46, q47, h⟩ := h
    refine wo_load (m' := 255) 7 (fun H => cellAt H (p5.add 2) = some (.int .i64 x46)) rfl (by kernel_rfl) rfl rfl (fun H q47 => at_load Try.underlying3 rfl rfl q47) q47 ?_
    obtain ⟨q48, h⟩ := h
    refine wo_pure (m' := 511) 8 rfl (by kernel_rfl) rfl rfl (fun H => at_shl rfl rfl q48) (wo_pure (m' := 1023) 9 rfl (by kernel_rfl) rfl rfl (fun H => at_sub rfl rfl) (wo_pure (m' := 2047) 10 rfl (by kernel_rfl) rfl rfl (fun H => at_and rfl rfl) (wo_pure (m' := 4095) 11 rfl (by kernel_rfl) rfl rfl (fun H => at_nilCheck (congrArg Value.pointer q6)) (wo_pure (m' := 8191) 12 rfl (by kernel_rfl) rfl rfl (fun H => at_fieldAddr Try.underlying106 rfl rfl sz104 (by decide) rfl) (wo_take (m' := 16383) 13 [true, true] rfl (by kernel_rfl) rfl (by kernel_rfl) ?_)))))
    refine wl_st (v := .int .u32 (Go.bits .and .u32 x44 (IntKind.wrap .u32 ((shlI .u32 1 x46) - 1)))) h rfl so (fun q1 q2 => ef_store (sz := sz104) rfl rfl rfl q1 q2) ?_; intro w49 h so
    refine wl_nil (wk_tq trivial ?_)
    exact wo_done (by kernel_rfl) (wk_blkN (wk_again ⟨(), _, ac_again ⟨rfl, trivial⟩, so, h⟩))
   ·exact wc_exit (wk_thenE (wk_thenE (wk_blkE (wk_prune [] trivial fun f1 => wk_then (wc_seq (wc_region (wl_val (at_assign rfl) rfl (wl_nil (wk_prune [(6, .bool true)] ⟨rfl, trivial⟩ fun f1 => wk_then (wc_ret (wk_ret1 (x := true) rfl (by decide) rfl so h)))))))))))
 ·intro J1 h hJ1
  refine wc_region (wl_val (at_move rfl) rfl (wl_val (at_lss rfl rfl) rfl (wl_val (at_move rfl) rfl (bif_ h (fun hb h => ?_) (fun hb h => ?_)))))
  ·refine wl_set (t := 9) (v := .bool true) (congrArg Value.bool hb) ?_; clear hb
   exact wl_off (t := 9) rfl (by decide) rfl (wl_off (t := 9) rfl (by decide) rfl (wl_val (at_pick_t rfl rfl) rfl (wl_nil (wk_prune [(0, .pointer a0), (1, .int .i64 a1), (2, .int .i64 a2), (12, .bool true)] ⟨rfl, rfl, rfl, rfl, trivial⟩ (fun f1 => hJ1 (true) _ f1 h so)))))
  ·refine wl_set (t := 9) (v := .bool false) (congrArg Value.bool hb) ?_; clear hb
   exact wl_on (t := 9) rfl (by decide) rfl (wl_val (at_move rfl) rfl (wl_on (t := 9) rfl (by decide) rfl (wl_val (at_gtr rfl rfl) rfl (wl_val (at_pick_f rfl rfl) rfl (wl_nil (wk_prune [(0, .pointer a0), (1, .int .i64 a1), (2, .int .i64 a2), (12, .bool (decide ((16 : Int) < a2)))] ⟨rfl, rfl, rfl, rfl, trivial⟩ (fun f1 => hJ1 ((decide ((16 : Int) < a2))) _ f1 h so)))))))
def bits_Len64.enc : Int → Value := fun r => .int .i64 r
def bits_Len64.s (a0 : Int) (H0 : Hp) (Q : Int → Hp → Prop) : Prop :=
 Join (fun (s2 : Int × Int) (H3 : Hp) => Join (fun (s5 : Int × Int) (H6 : Hp) => Join (fun (s8 : Int × Int) (H9 : Hp) => 0 ≤ (IntKind.wrap .u8 s8.1) ∧ (IntKind.wrap .u8 s8.1) < (strb4f36e89.size : Int) ∧ (Lt ((IntKind.wrap .i64 (s8.2 + (IntKind.wrap .i64 (bt strb4f36e89 (IntKind.wrap .u8 s8.1))))) : Int) (fun x12 => Q x12 H9))) (fun (J7 : (Int × Int) → Hp → Prop) => if decide ((256 : Int) ≤ s5.1) = true then (J7 ((shrI .u64 s5.1 8), (IntKind.wrap .i64 (s5.2 + 8))) H6) else (J7 (s5.1, s5.2) H6))) (fun (J4 : (Int × Int) → Hp → Prop) => if decide ((65536 : Int) ≤ s2.1) = true then (J4 ((shrI .u64 s2.1 16), (IntKind.wrap .i64 (s2.2 + 16))) H3) else (J4 (s2.1, s2.2) H3))) (fun (J1 : (Int × Int) → Hp → Prop) => if decide ((4294967296 : Int) ≤ a0) = true then (J1 ((shrI .u64 a0 32), 32) H0) else (J1 (a0, 0) H0))
theorem bits_Len64.calls (a0 : Int) (w0 : World) (Q : Int → Hp → Prop) (h : bits_Len64.s a0 w0.heap Q) :
  Ca Try.prog 72 #[.int .u64 a0] w0 (Rt bits_Len64.enc Q w0) := by
 refine ca_start (c := _) Try.func72 rfl Try.ntmps72 rfl ?_
 have so : Sm w0 w0 := Sm.refl w0
 unfold bits_Len64.s at h
 refine wc_prune [(0, .int .u64 a0)] ⟨rfl, trivial⟩ (fun f1 => ?_)
 refine wc_seq (wc_region (wl_val (at_assign rfl) rfl (wl_nil (wk_prune [(0, .int .u64 a0), (2, .int .i64 0)] ⟨rfl, rfl, trivial⟩ fun f1 => wk_then (wc_seq (wc_join (w0 := w0) (fun (s2 : Int × Int) => [(0, .int .u64 s2.1), (2, .int .i64 s2.2)]) h ?_ ?_))))))
 ·rintro s2 w3 f1 h so; refine wk_then ?_
  refine wc_seq (wc_join (w0 := w0) (fun (s5 : Int × Int) => [(0, .int .u64 s5.1), (2, .int .i64 s5.2)]) h ?_ ?_)
  ·rintro s5 w6 f1 h so; refine wk_then ?_
   refine wc_seq (wc_join (w0 := w0) (fun (s8 : Int × Int) => [(0, .int .u64 s8.1), (2, .int .i64 s8.2)]) h ?_ ?_)
   ·rintro s8 w9 f1 h so; refine wk_then ?_
    refine wc_seq (wc_region (wl_val (at_move rfl) rfl (wl_val (at_move rfl) rfl (wl_val (at_conv Try.underlying154 Try.underlying5 rfl) rfl ?_))))
    obtain ⟨q10, q11, h⟩ := h
    refine wl_val (at_ixS Try.underlying9 rfl rfl q10 q11) rfl (wl_val (at_conv Try.underlying5 Try.underlying3 rfl) rfl (wl_val (at_add rfl rfl) rfl (wl_val (at_assign rfl) rfl ?_)))
    obtain ⟨x12, e13⟩ : ∃ x : Int, x = (IntKind.wrap .i64 (s8.2 + (IntKind.wrap .i64 (bt strb4f36e89 (IntKind.wrap .u8 s8.1))))) := ⟨_, rfl⟩; replace h := h x12 e13
    exact wl_set (t := 2) (v := .int .i64 x12) (congrArg (Value.int .i64) e13.symm) (wl_nil (wk_prune [(2, .int .i64 x12)] ⟨rfl, trivial⟩ fun f1 => wk_then (wc_ret (wk_ret1 (x := x12) rfl (by decide) rfl so h))))
   ·intro J7 h hJ7
    refine wc_seq (wc_region (wl_val (at_move rfl) rfl (wl_val (at_geq rfl rfl) rfl (wl_nil (wk_prune [(0, .int .u64 s5.1), (2, .int .i64 s5.2), (14, .bool (decide ((256 : Int) ≤ s5.1)))] ⟨rfl, rfl, rfl, trivial⟩ fun f1 => wk_then (wc_cond rfl h (fun h => ?_) (fun h => ?_)))))))
    ·exact wc_seq (wc_region (wl_val (at_move rfl) rfl (wl_val (at_shr rfl rfl (by decide)) rfl (wl_val (at_assign rfl) rfl (wl_nil (wk_prune [(0, .int .u64 (shrI .u64 s5.1 8)), (2, .int .i64 s5.2)] ⟨rfl, rfl, trivial⟩ fun f1 => wk_then (wc_region (wl_val (at_move rfl) rfl (wl_val (at_add rfl rfl) rfl (wl_val (at_assign rfl) rfl (wl_nil (wk_prune [(0, .int .u64 (shrI .u64 s5.1 8)), (2, .int .i64 (IntKind.wrap .i64 (s5.2 + 8)))] ⟨rfl, rfl, trivial⟩ (fun f1 => hJ7 ((shrI .u64 s5.1 8), (IntKind.wrap .i64 (s5.2 + 8))) _ f1 h so)))))))))))))
    ·exact wc_skip (wk_prune [(0, .int .u64 s5.1), (2, .int .i64 s5.2)] ⟨rfl, rfl, trivial⟩ (fun f1 => hJ7 (s5.1, s5.2) _ f1 h so))
  ·intro J4 h hJ4
   refine wc_seq (wc_region (wl_val (at_move rfl) rfl (wl_val (at_geq rfl rfl) rfl (wl_nil (wk_prune [(0, .int .u64 s2.1), (2, .int .i64 s2.2), (8, .bool (decide ((65536 : Int) ≤ s2.1)))] ⟨rfl, rfl, rfl, trivial⟩ fun f1 => wk_then (wc_cond rfl h (fun h => ?_) (fun h => ?_)))))))
   ·exact wc_seq (wc_region (wl_val (at_move rfl) rfl (wl_val (at_shr rfl rfl (by decide)) rfl (wl_val (at_assign rfl) rfl (wl_nil (wk_prune [(0, .int .u64 (shrI .u64 s2.1 16)), (2, .int .i64 s2.2)] ⟨rfl, rfl, trivial⟩ fun f1 => wk_then (wc_region (wl_val (at_move rfl) rfl (wl_val (at_add rfl rfl) rfl (wl_val (at_assign rfl) rfl (wl_nil (wk_prune [(0, .int .u64 (shrI .u64 s2.1 16)), (2, .int .i64 (IntKind.wrap .i64 (s2.2 + 16)))] ⟨rfl, rfl, trivial⟩ (fun f1 => hJ4 ((shrI .u64 s2.1 16), (IntKind.wrap .i64 (s2.2 + 16))) _ f1 h so)))))))))))))
   ·exact wc_skip (wk_prune [(0, .int .u64 s2.1), (2, .int .i64 s2.2)] ⟨rfl, rfl, trivial⟩ (fun f1 => hJ4 (s2.1, s2.2) _ f1 h so))
 ·intro J1 h hJ1
  refine wc_seq (wc_region (wl_val (at_move rfl) rfl (wl_val (at_geq rfl rfl) rfl (wl_nil (wk_prune [(0, .int .u64 a0), (2, .int .i64 0), (4, .bool (decide ((4294967296 : Int) ≤ a0)))] ⟨rfl, rfl, rfl, trivial⟩ fun f1 => wk_then (wc_cond rfl h (fun h => ?_) (fun h => ?_)))))))
  ·exact wc_seq (wc_region (wl_val (at_move rfl) rfl (wl_val (at_shr rfl rfl (by decide)) rfl (wl_val (at_assign rfl) rfl (wl_nil (wk_prune [(0, .int .u64 (shrI .u64 a0 32))] ⟨rfl, trivial⟩ fun f1 => wk_then (wc_region (wl_val (at_assign rfl) rfl (wl_nil (wk_prune [(0, .int .u64 (shrI .u64 a0 32)), (2, .int .i64 32)] ⟨rfl, rfl, trivial⟩ (fun f1 => hJ1 ((shrI .u64 a0 32), 32) _ f1 h so)))))))))))
  ·exact wc_skip (wk_prune [(0, .int .u64 a0), (2, .int .i64 0)] ⟨rfl, rfl, trivial⟩ (fun f1 => hJ1 (a0, 0) _ f1 h so))
def bits_Sink_Pad.enc : Unit → Value := fun _ => .tuple #[]
def bits_Sink_Pad.s (a0 : Option Addr) (H0 : Hp) (Q : Unit → Hp → Prop) : Prop :=
 someA a0 (fun p1 => ldI .i64 H0 (p1.add 2) (fun x3 => if decide ((0 : Int) < x3) = true then (ldI .i64 H0 (p1.add 2) (fun x5 => bits_Sink_Put.s a0 (-1) (IntKind.wrap .i64 ((8 : Int) - x5)) H0 (fun x7 H8 => Q () H8))) else (Q () H0)))
theorem bits_Sink_Pad.calls (a0 : Option Addr) (w0 : World) (Q : Unit → Hp → Prop) (h : bits_Sink_Pad.s a0 w0.heap Q) :
  Ca Try.prog 20 #[.pointer a0] w0 (Rt bits_Sink_Pad.enc Q w0) := by
 refine ca_start (c := _) Try.func20 rfl Try.ntmps20 rfl ?_
 have so : Sm w0 w0 := Sm.refl w0
 unfold bits_Sink_Pad.s at h
 refine wc_prune [(0, .pointer a0)] ⟨rfl, trivial⟩ (fun f1 => ?_)
 refine wc_seq (wc_region (wl_val (at_move rfl) rfl ?_))
 obtain ⟨p1, q2, h⟩ := h
 refine wl_val (at_nilCheck (congrArg Value.pointer q2)) rfl (wl_val (at_fieldAddr Try.underlying106 rfl rfl sz3 (by decide) rfl) rfl ?_)
 obtain ⟨x3, q4, h⟩ := h
 refine wl_val (at_load Try.underlying3 rfl rfl q4) rfl (wl_val (at_gtr rfl rfl) rfl (wl_nil (wk_prune [(0, .pointer a0), (6, .bool (decide ((0 : Int) < x3)))] ⟨rfl, rfl, trivial⟩ fun f1 => wk_then (wc_cond rfl h (fun h => ?_) (fun h => ?_)))))
 ·refine wc_region (wl_val (at_move rfl) rfl (wl_val (at_move rfl) rfl (wl_val (at_nilCheck (congrArg Value.pointer q2)) rfl (wl_val (at_fieldAddr Try.underlying106 rfl rfl sz3 (by decide) rfl) rfl ?_))))
  obtain ⟨x5, q6, h⟩ := h
  refine wl_val (at_load Try.underlying3 rfl rfl q6) rfl (wl_val (at_sub rfl rfl) rfl ?_)
  refine wl_callF (bits_Sink_Put.calls _ _ _ _ _ h) enter19 rfl trivial so ?_; intro x7 w8 h so
  exact wl_nil (wk_ret0n (x := ()) rfl rfl so h)
 ·exact wc_skip (wk_ret0n (x := ()) rfl rfl so h)
def bits_Sink_Text.enc : ByteArray → Value := fun r => .string r
def bits_Sink_Text.s (a0 : Option Addr) (H0 : Hp) (Q : ByteArray → Hp → Prop) : Prop :=
 Gn [] H0 (fun (b1 : Nat) (H2 : Hp) => someA a0 (fun p3 => ldL H2 (p3.add 0) (fun x5 => Bk H2 b1 117 (c117 none ⟨none, 0, 0⟩) → (∃ k7, Fix (fun (rec12 : Int → Hp → Prop) (s9 : Int) (H10 : Hp) => if decide (s9 < (x5.n : Int)) = true then (Join (fun (s14 : Unit) (H15 : Hp) => rec12 ((IntKind.wrap .i64 (s9 + 1))) H15) (fun (J13 : Unit → Hp → Prop) => 0 ≤ s9 ∧ s9 < (x5.n : Int) ∧ someA x5.a (fun p18 => ldI .u8 H10 (p18.add (Int.toNat s9 * 1)) (fun x20 => strings_Builder_WriteByte.s (some (⟨b1, 0, none⟩ : Addr)) x20 H10 (fun x22 H23 => if (x20 == 255) = true then (strings_Builder_WriteByte.s (some (⟨b1, 0, none⟩ : Addr)) 0 H23 (fun x24 H25 => J13 () H25)) else (J13 () H23)))))) else (strings_Builder_String.s (some (⟨b1, 0, none⟩ : Addr)) H10 (fun x26 H27 => Q x26 H27))) k7 (0) H2))))
theorem bits_Sink_Text.calls (a0 : Option Addr) (w0 : World) (Q : ByteArray → Hp → Prop) (h : bits_Sink_Text.s a0 w0.heap Q) :
  Ca Try.prog 21 #[.pointer a0] w0 (Rt bits_Sink_Text.enc Q w0) := by
 refine ca_start (c := _) Try.func21 rfl Try.ntmps21 rfl ?_
 have so : Sm w0 w0 := Sm.refl w0
 unfold bits_Sink_Text.s at h
 refine wc_prune [(0, .pointer a0)] ⟨rfl, trivial⟩ (fun f1 => ?_)
 refine wc_seq (wc_region (wl_val (at_assign rfl) rfl (wl_nil (wk_prune [(0, .pointer a0)] ⟨rfl, trivial⟩ fun f1 => wk_then (wc_seq (wc_region ?_))))))
 refine wl_newT (T := 117) (cs := (c117 none ⟨none, 0, 0⟩)) (ef_alloc zero117 rfl) rfl so ?_; intro b1 w2 hb_b1 t_b1 k_b1 so
 have g_b1 := Nat.le_of_eq hb_b1.symm
 have hc := k_b1.ch (F := [])
 refine wl_nil (wk_prune [(0, .pointer a0), (3, .pointer (some (⟨b1, 0, none⟩ : Addr)))] ⟨rfl, rfl, trivial⟩ fun f1 => wk_then (wc_seq (wc_seq (wc_region (wl_val (at_move rfl) rfl ?_)))))
 replace h := h b1 _ hc g_b1 t_b1.lt; clear hc
 obtain ⟨p3, q4, h⟩ := h
 refine wl_val (at_nilCheck (congrArg Value.pointer q4)) rfl (wl_val (at_fieldAddr Try.underlying106 rfl rfl sz27 (by decide) rfl) rfl ?_)
 obtain ⟨x5, q6, h⟩ := h
 refine wl_val (at_load Try.underlying27 rfl rfl q6) rfl (wl_val (at_lenL Try.underlying27 rfl) rfl (wl_val (at_move rfl) rfl (wl_nil (wk_prune [(3, .pointer (some (⟨b1, 0, none⟩ : Addr))), (9, .slice x5.a x5.n x5.c), (10, .int .i64 (x5.n : Int)), (11, .int .i64 0)] ⟨rfl, rfl, rfl, rfl, trivial⟩ fun f1 => wk_then (wc_block ?_)))))
 replace h := h t_b1
 obtain ⟨k7, h⟩ := h
 refine wc_loop (fun k a w => ∃ (s9 : Int) (f1 : Nat → Value), a = ac 22 (en f1 [(3, .pointer (some (⟨b1, 0, none⟩ : Addr))), (9, .slice x5.a x5.n x5.c), (10, .int .i64 (x5.n : Int)), (11, .int .i64 s9)]) [] ∧ Sm w0 w ∧ Fix _ k s9 w.heap) k7 ⟨(0), _, ac_again ⟨rfl, rfl, rfl, rfl, trivial⟩, so, h⟩ ?_
 rintro k8 a11 w10 ⟨s9, f1, rfl, so, h⟩
 rcases k8 with _ | k8
 ·exact h.elim
 replace h := Fix.un h; refine wc_in ?_
 refine wc_seq (wc_region (wl_val (at_lss rfl rfl) rfl (wl_nil (wk_prune [(3, .pointer (some (⟨b1, 0, none⟩ : Addr))), (9, .slice x5.a x5.n x5.c), (10, .int .i64 (x5.n : Int)), (11, .int .i64 s9), (12, .bool (decide (s9 < (x5.n : Int))))] ⟨rfl, rfl, rfl, rfl, rfl, trivial⟩ fun f1 => wk_then (wc_seq (wc_cond rfl h (fun h => ?_) (fun h => ?_)))))))
 ·refine wc_skip (wk_prune [(3, .pointer (some (⟨b1, 0, none⟩ : Addr))), (9, .slice x5.a x5.n x5.c), (10, .int .i64 (x5.n : Int)), (11, .int .i64 s9)] ⟨rfl, rfl, rfl, rfl, trivial⟩ fun f1 => wk_then (wc_seq (wc_join (w0 := w0) (fun (s14 : Unit) => [(3, .pointer (some (⟨b1, 0, none⟩ : Addr))), (9, .slice x5.a x5.n x5.c), (10, .int .i64 (x5.n : Int)), (11, .int .i64 s9)]) h ?_ ?_)))
  ·rintro s14 w15 f1 h so; refine wk_then ?_
   exact wc_region (wl_val (at_add rfl rfl) rfl (wl_val (at_move rfl) rfl (wl_nil (wk_again ⟨((IntKind.wrap .i64 (s9 + 1))), _, ac_again ⟨rfl, rfl, rfl, rfl, trivial⟩, so, h⟩))))
  ·intro J13 h hJ13
   refine wc_block (wc_seq (wc_region ?_))
   obtain ⟨q16, q17, p18, q19, h⟩ := h
   refine wl_val (at_ixAddrL Try.underlying27 sz5 (sl_some q19) rfl q16 q17) rfl ?_
   obtain ⟨x20, q21, h⟩ := h
   refine wl_val (at_load Try.underlying5 rfl rfl q21) rfl (wl_val (at_assign rfl) rfl (wl_nil (wk_prune [(3, .pointer (some (⟨b1, 0, none⟩ : Addr))), (5, .int .u8 x20), (9, .slice x5.a x5.n x5.c), (10, .int .i64 (x5.n : Int)), (11, .int .i64 s9)] ⟨rfl, rfl, rfl, rfl, rfl, trivial⟩ fun f1 => wk_then (wc_seq (wc_region (wl_val (at_move rfl) rfl ?_))))))
   refine wl_callF (strings_Builder_WriteByte.calls _ _ _ _ h) enter37 rfl trivial so ?_; intro x22 w23 h so
   refine wl_nil (wk_prune [(3, .pointer (some (⟨b1, 0, none⟩ : Addr))), (5, .int .u8 x20), (9, .slice x5.a x5.n x5.c), (10, .int .i64 (x5.n : Int)), (11, .int .i64 s9)] ⟨rfl, rfl, rfl, rfl, rfl, trivial⟩ fun f1 => wk_then (wc_seq (wc_region (wl_val (at_move rfl) rfl (wl_val (at_eql rfl rfl) rfl (wl_nil (wk_prune [(3, .pointer (some (⟨b1, 0, none⟩ : Addr))), (9, .slice x5.a x5.n x5.c), (10, .int .i64 (x5.n : Int)), (11, .int .i64 s9), (18, .bool (x20 == 255))] ⟨rfl, rfl, rfl, rfl, rfl, trivial⟩ fun f1 => wk_then (wc_cond rfl h (fun h => ?_) (fun h => ?_)))))))))
   ·refine wc_region ?_
    refine wl_callF (strings_Builder_WriteByte.calls _ _ _ _ h) enter37 rfl trivial so ?_; intro x24 w25 h so
    exact wl_nil (wk_blkN (wk_prune [(3, .pointer (some (⟨b1, 0, none⟩ : Addr))), (9, .slice x5.a x5.n x5.c), (10, .int .i64 (x5.n : Int)), (11, .int .i64 s9)] ⟨rfl, rfl, rfl, rfl, trivial⟩ (fun f1 => hJ13 () _ f1 h so)))
   ·exact wc_skip (wk_blkN (wk_prune [(3, .pointer (some (⟨b1, 0, none⟩ : Addr))), (9, .slice x5.a x5.n x5.c), (10, .int .i64 (x5.n : Int)), (11, .int .i64 s9)] ⟨rfl, rfl, rfl, rfl, trivial⟩ (fun f1 => hJ13 () _ f1 h so)))
 ·refine wc_exit (wk_thenE (wk_thenE (wk_blkE (wk_prune [(3, .pointer (some (⟨b1, 0, none⟩ : Addr)))] ⟨rfl, trivial⟩ fun f1 => wk_then (wc_seq (wc_region ?_))))))
  refine wl_callF (strings_Builder_String.calls _ _ _ h) enter38 rfl trivial so ?_; intro x26 w27 h so
  exact wl_val (at_assign rfl) rfl (wl_nil (wk_prune [(2, .string x26)] ⟨rfl, trivial⟩ fun f1 => wk_then (wc_ret (wk_ret1 (x := x26) rfl (by decide) rfl so h))))
def bits_Open.enc : (Option Addr) → Value := fun r => .pointer r
def bits_Open.s (a0 : ByteArray) (a1 : Int) (a2 : Int) (H0 : Hp) (Q : (Option Addr) → Hp → Prop) : Prop :=
 Lt ((if (a0.size : Int) < (if a1 < 0 then 0 else a1) then (a0.size : Int) else (if a1 < 0 then 0 else a1)) : Int) (fun x1 => Lt ((if (if (a0.size : Int) < a2 then (a0.size : Int) else a2) < x1 then x1 else (if (a0.size : Int) < a2 then (a0.size : Int) else a2)) : Int) (fun x3 => Gn [] H0 (fun (b5 : Nat) (H6 : Hp) => Bk H6 b5 125 (c125 a0 x1 7 x3 0 0) → (Join (fun (s8 : Unit) (H9 : Hp) => Q (some (⟨b5, 0, none⟩ : Addr)) H9) (fun (J7 : Unit → Hp → Prop) => ∃ k10, Fix (fun (rec15 : Int → Hp → Prop) (s12 : Int) (H13 : Hp) => if decide (s12 < x3) = true then (Join (fun (s17 : Int) (H18 : Hp) => ldI .i64 H18 (⟨b5, 4, none⟩ : Addr) (fun x19 => st H18 (⟨b5, 4, none⟩ : Addr) (.int .i64 (IntKind.wrap .i64 (x19 + 8))) (fun H21 => rec15 ((IntKind.wrap .i64 (s17 + 1))) H21))) (fun (J16 : Int → Hp → Prop) => 0 ≤ s12 ∧ s12 < (a0.size : Int) ∧ (if ((bt a0 s12) == 255) = true then (Join (fun (s25 : Bool) (H26 : Hp) => if s25 = true then (st H26 (⟨b5, 3, none⟩ : Addr) (.int .i64 s12) (fun H27 => J7 () H27)) else (J16 ((IntKind.wrap .i64 (s12 + 1))) H26)) (fun (J24 : Bool → Hp → Prop) => if decide (x3 ≤ (IntKind.wrap .i64 (s12 + 1))) = true then (J24 (true) H13) else (0 ≤ (IntKind.wrap .i64 (s12 + 1)) ∧ (IntKind.wrap .i64 (s12 + 1)) < (a0.size : Int) ∧ (J24 (((bt a0 (IntKind.wrap .i64 (s12 + 1))) != 0)) H13)))) else (J16 (s12) H13)))) else (J7 () H13)) k10 (x1) H6)))))
theorem bits_Open.calls (a0 : ByteArray) (a1 : Int) (a2 : Int) (w0 : World) (Q : (Option Addr) → Hp → Prop) (h : bits_Open.s a0 a1 a2 w0.heap Q) :
  Ca Try.prog 26 #[.string a0, .int .i64 a1, .int .i64 a2] w0 (Rt bits_Open.enc Q w0) := by
 refine ca_start (c := _) Try.func26 rfl Try.ntmps26 rfl ?_
 have so : Sm w0 w0 := Sm.refl w0
 unfold bits_Open.s at h
 refine wc_prune [(0, .string a0), (1, .int .i64 a1), (2, .int .i64 a2)] ⟨rfl, rfl, rfl, trivial⟩ (fun f1 => ?_)
 refine wc_seq (wc_region (wl_val (at_assign rfl) rfl (wl_nil (wk_prune [(0, .string a0), (1, .int .i64 a1), (2, .int .i64 a2)] ⟨rfl, rfl, rfl, trivial⟩ fun f1 => wk_then (wc_seq (wc_region (wl_val (at_move rfl) rfl (wl_val (at_max rfl rfl) rfl (wl_val (at_move rfl) rfl (wl_val (at_lenS Try.underlying9 rfl) rfl (wl_val (at_min rfl rfl) rfl (wl_val (at_assign rfl) rfl ?_))))))))))))
 obtain ⟨x1, e2⟩ : ∃ x : Int, x = (if (a0.size : Int) < (if a1 < 0 then 0 else a1) then (a0.size : Int) else (if a1 < 0 then 0 else a1)) := ⟨_, rfl⟩; replace h := h x1 e2
 refine wl_set (t := 1) (v := .int .i64 x1) (congrArg (Value.int .i64) e2.symm) (wl_nil (wk_prune [(0, .string a0), (1, .int .i64 x1), (2, .int .i64 a2)] ⟨rfl, rfl, rfl, trivial⟩ fun f1 => wk_then (wc_seq (wc_region (wl_val (at_move rfl) rfl (wl_val (at_move rfl) rfl (wl_val (at_lenS Try.underlying9 rfl) rfl (wl_val (at_min rfl rfl) rfl (wl_val (at_move rfl) rfl (wl_val (at_max rfl rfl) rfl (wl_val (at_assign rfl) rfl ?_)))))))))))
 obtain ⟨x3, e4⟩ : ∃ x : Int, x = (if (if (a0.size : Int) < a2 then (a0.size : Int) else a2) < x1 then x1 else (if (a0.size : Int) < a2 then (a0.size : Int) else a2)) := ⟨_, rfl⟩; replace h := h x3 e4
 refine wl_set (t := 2) (v := .int .i64 x3) (congrArg (Value.int .i64) e4.symm) (wl_nil (wk_prune [(0, .string a0), (1, .int .i64 x1), (2, .int .i64 x3)] ⟨rfl, rfl, rfl, trivial⟩ fun f1 => wk_then (wc_seq (wc_region (wl_val (at_move rfl) rfl (wl_val (at_move rfl) rfl (wl_val (at_move rfl) rfl ?_)))))))
 refine wl_val (at_build (cs := (c125 a0 x1 7 x3 0 0)) (ps := [(0, .string a0), (1, .int .i64 x1), (2, .int .u8 7), (3, .int .i64 x3)]) rfl (fun w => by simp [Instr.build, Instr.fill, go_sem, Try.underlying125, z125] <;> rfl)) rfl ?_
 refine wl_newT (T := 125) (cs := (c125 a0 x1 7 x3 0 0)) (ef_box rfl rfl) rfl so ?_; intro b5 w6 hb_b5 t_b5 k_b5 so
 have g_b5 := Nat.le_of_eq hb_b5.symm
 have hc := k_b5.ch (F := [])
 refine wl_val (at_assign rfl) rfl (wl_nil (wk_prune [(0, .string a0), (1, .int .i64 x1), (2, .int .i64 x3), (7, .pointer (some (⟨b5, 0, none⟩ : Addr)))] ⟨rfl, rfl, rfl, rfl, trivial⟩ fun f1 => wk_then ?_))
 replace h := h b5 _ hc g_b5 t_b5.lt; clear hc
 replace h := h t_b5
 refine wc_seq (wc_join (w0 := w0) (fun (s8 : Unit) => [(7, .pointer (some (⟨b5, 0, none⟩ : Addr)))]) h ?_ ?_)
 ·rintro s8 w9 f1 h so; refine wk_then ?_
  exact wc_seq (wc_region (wl_val (at_move rfl) rfl (wl_val (at_assign rfl) rfl (wl_nil (wk_prune [(6, .pointer (some (⟨b5, 0, none⟩ : Addr)))] ⟨rfl, trivial⟩ fun f1 => wk_then (wc_ret (wk_ret1 (x := (some (⟨b5, 0, none⟩ : Addr))) rfl (by decide) rfl so h)))))))
 ·intro J7 h hJ7
  refine wc_seq (wc_region (wl_val (at_move rfl) rfl (wl_val (at_assign rfl) rfl (wl_nil (wk_prune [(0, .string a0), (2, .int .i64 x3), (7, .pointer (some (⟨b5, 0, none⟩ : Addr))), (8, .int .i64 x1)] ⟨rfl, rfl, rfl, rfl, trivial⟩ fun f1 => wk_then (wc_block ?_))))))
  obtain ⟨k10, h⟩ := h
  refine wc_loop (fun k a w => ∃ (s12 : Int) (f1 : Nat → Value), a = ac 60 (en f1 [(0, .string a0), (2, .int .i64 x3), (7, .pointer (some (⟨b5, 0, none⟩ : Addr))), (8, .int .i64 s12)]) [] ∧ Sm w0 w ∧ Fix _ k s12 w.heap) k10 ⟨(x1), _, ac_again ⟨rfl, rfl, rfl, rfl, trivial⟩, so, h⟩ ?_
  rintro k11 a14 w13 ⟨s12, f1, rfl, so, h⟩
  rcases k11 with _ | k11
  ·exact h.elim
  replace h := Fix.un h; refine wc_in ?_
  refine wc_seq (wc_seq (wc_region (wl_val (at_move rfl) rfl (wl_val (at_move rfl) rfl (wl_val (at_lss rfl rfl) rfl (wl_nil (wk_prune [(0, .string a0), (2, .int .i64 x3), (7, .pointer (some (⟨b5, 0, none⟩ : Addr))), (8, .int .i64 s12), (28, .bool (decide (s12 < x3)))] ⟨rfl, rfl, rfl, rfl, rfl, trivial⟩ fun f1 => wk_then (wc_cond rfl h (fun h => ?_) (fun h => ?_)))))))))
  ·refine wc_skip (wk_prune [(0, .string a0), (2, .int .i64 x3), (7, .pointer (some (⟨b5, 0, none⟩ : Addr))), (8, .int .i64 s12)] ⟨rfl, rfl, rfl, rfl, trivial⟩ fun f1 => wk_then (wc_seq (wc_block (wc_seq (wc_join (w0 := w0) (fun (s17 : Int) => [(0, .string a0), (2, .int .i64 x3), (7, .pointer (some (⟨b5, 0, none⟩ : Addr))), (8, .int .i64 s17)]) h ?_ ?_)))))
   ·rintro s17 w18 f1 h so; refine wk_then ?_
    refine wc_region (wl_val (at_move rfl) rfl (wl_val (at_nilCheck rfl) rfl (wl_val (at_fieldAddr Try.underlying125 rfl rfl sz3 (by decide) rfl) rfl ?_)))
    obtain ⟨x19, q20, h⟩ := h
    refine wl_val (at_load Try.underlying3 rfl rfl q20) rfl (wl_val (at_add rfl rfl) rfl (wl_val (at_nilCheck rfl) rfl (wl_val (at_fieldAddr Try.underlying125 rfl rfl sz3 (by decide) rfl) rfl ?_)))
    refine wl_st (v := .int .i64 (IntKind.wrap .i64 (x19 + 8))) h rfl so (fun q1 q2 => ef_store (sz := sz3) rfl rfl rfl q1 q2) ?_; intro w21 h so
    exact wl_nil (wk_blkN (wk_prune [(0, .string a0), (2, .int .i64 x3), (7, .pointer (some (⟨b5, 0, none⟩ : Addr))), (8, .int .i64 s17)] ⟨rfl, rfl, rfl, rfl, trivial⟩ fun f1 => wk_then (wc_region (wl_val (at_move rfl) rfl (wl_val (at_add rfl rfl) rfl (wl_val (at_assign rfl) rfl (wl_nil (wk_again ⟨((IntKind.wrap .i64 (s17 + 1))), _, ac_again ⟨rfl, rfl, rfl, rfl, trivial⟩, so, h⟩))))))))
   ·intro J16 h hJ16
    refine wc_seq (wc_region (wl_val (at_move rfl) rfl (wl_val (at_move rfl) rfl ?_)))
    obtain ⟨q22, q23, h⟩ := h
    refine wl_val (at_ixS Try.underlying9 rfl rfl q22 q23) rfl (wl_val (at_eql rfl rfl) rfl (wl_nil (wk_prune [(0, .string a0), (2, .int .i64 x3), (7, .pointer (some (⟨b5, 0, none⟩ : Addr))), (8, .int .i64 s12), (34, .bool ((bt a0 s12) == 255))] ⟨rfl, rfl, rfl, rfl, rfl, trivial⟩ fun f1 => wk_then (wc_cond rfl h (fun h => ?_) (fun h => ?_)))))
    ·refine wc_seq (wc_seq (wc_join (w0 := w0) (fun (s25 : Bool) => [(0, .string a0), (2, .int .i64 x3), (7, .pointer (some (⟨b5, 0, none⟩ : Addr))), (8, .int .i64 s12), (45, .bool s25)]) h ?_ ?_))
     ·rintro s25 w26 f1 h so; refine wk_then ?_
      refine wc_cond rfl h (fun h => ?_) (fun h => ?_)
      ·refine wc_seq (wc_region (wl_val (at_move rfl) rfl (wl_val (at_move rfl) rfl (wl_val (at_nilCheck rfl) rfl (wl_val (at_fieldAddr Try.underlying125 rfl rfl sz3 (by decide) rfl) rfl ?_)))))
       refine wl_st (v := .int .i64 s12) h rfl so (fun q1 q2 => ef_store (sz := sz3) rfl rfl rfl q1 q2) ?_; intro w27 h so
       refine wl_nil (wk_prune [(7, .pointer (some (⟨b5, 0, none⟩ : Addr)))] ⟨rfl, trivial⟩ fun f1 => wk_then (wc_exit (wk_thenE (wk_thenE ?_))))
       refine wk_blkO (by decide) ?_
       exact wk_thenE (wk_thenE (wk_blkE (wk_prune [(7, .pointer (some (⟨b5, 0, none⟩ : Addr)))] ⟨rfl, trivial⟩ (fun f1 => hJ7 () _ f1 h so))))
      ·exact wc_skip (wk_prune [(0, .string a0), (2, .int .i64 x3), (7, .pointer (some (⟨b5, 0, none⟩ : Addr))), (8, .int .i64 s12)] ⟨rfl, rfl, rfl, rfl, trivial⟩ fun f1 => wk_then (wc_region (wl_val (at_move rfl) rfl (wl_val (at_add rfl rfl) rfl (wl_val (at_assign rfl) rfl (wl_nil (wk_prune [(0, .string a0), (2, .int .i64 x3), (7, .pointer (some (⟨b5, 0, none⟩ : Addr))), (8, .int .i64 (IntKind.wrap .i64 (s12 + 1)))] ⟨rfl, rfl, rfl, rfl, trivial⟩ (fun f1 => hJ16 ((IntKind.wrap .i64 (s12 + 1))) _ f1 h so))))))))
     ·intro J24 h hJ24
      refine wc_region (wl_val (at_move rfl) rfl (wl_val (at_add rfl rfl) rfl (wl_val (at_move rfl) rfl (wl_val (at_geq rfl rfl) rfl (wl_val (at_move rfl) rfl (bif_ h (fun hb h => ?_) (fun hb h => ?_)))))))
      ·refine wl_set (t := 39) (v := .bool true) (congrArg Value.bool hb) ?_; clear hb
       exact wl_off (t := 39) rfl (by decide) rfl (wl_off (t := 39) rfl (by decide) rfl (wl_off (t := 39) rfl (by decide) rfl (wl_off (t := 39) rfl (by decide) rfl (wl_off (t := 39) rfl (by decide) rfl (wl_val (at_pick_t rfl rfl) rfl (wl_nil (wk_prune [(0, .string a0), (2, .int .i64 x3), (7, .pointer (some (⟨b5, 0, none⟩ : Addr))), (8, .int .i64 s12), (45, .bool true)] ⟨rfl, rfl, rfl, rfl, rfl, trivial⟩ (fun f1 => hJ24 (true) _ f1 h so))))))))
      ·refine wl_set (t := 39) (v := .bool false) (congrArg Value.bool hb) ?_; clear hb
       refine wl_on (t := 39) rfl (by decide) rfl (wl_val (at_move rfl) rfl (wl_on (t := 39) rfl (by decide) rfl (wl_val (at_move rfl) rfl (wl_on (t := 39) rfl (by decide) rfl (wl_val (at_add rfl rfl) rfl (wl_on (t := 39) rfl (by decide) rfl ?_))))))
       obtain ⟨q28, q29, h⟩ := h
       exact wl_val (at_ixS Try.underlying9 rfl rfl q28 q29) rfl (wl_on (t := 39) rfl (by decide) rfl (wl_val (at_neq rfl rfl) rfl (wl_val (at_pick_f rfl rfl) rfl (wl_nil (wk_prune [(0, .string a0), (2, .int .i64 x3), (7, .pointer (some (⟨b5, 0, none⟩ : Addr))), (8, .int .i64 s12), (45, .bool ((bt a0 (IntKind.wrap .i64 (s12 + 1))) != 0))] ⟨rfl, rfl, rfl, rfl, rfl, trivial⟩ (fun f1 => hJ24 (((bt a0 (IntKind.wrap .i64 (s12 + 1))) != 0)) _ f1 h so))))))
    ·exact wc_skip (wk_prune [(0, .string a0), (2, .int .i64 x3), (7, .pointer (some (⟨b5, 0, none⟩ : Addr))), (8, .int .i64 s12)] ⟨rfl, rfl, rfl, rfl, trivial⟩ (fun f1 => hJ16 (s12) _ f1 h so))
  ·exact wc_exit (wk_thenE (wk_thenE (wk_blkE (wk_prune [(7, .pointer (some (⟨b5, 0, none⟩ : Addr)))] ⟨rfl, trivial⟩ (fun f1 => hJ7 () _ f1 h so)))))
def bits_Source_Used.enc : Int → Value := fun r => .int .i64 r
def bits_Source_Used.s (a0 : Option Addr) (H0 : Hp) (Q : Int → Hp → Prop) : Prop :=
 someA a0 (fun p1 => ldI .i64 H0 (p1.add 5) (fun x3 => Q x3 H0))
theorem bits_Source_Used.calls (a0 : Option Addr) (w0 : World) (Q : Int → Hp → Prop) (h : bits_Source_Used.s a0 w0.heap Q) :
  Ca Try.prog 46 #[.pointer a0] w0 (Rt bits_Source_Used.enc Q w0) := by
 refine ca_start (c := _) Try.func46 rfl Try.ntmps46 rfl ?_
 have so : Sm w0 w0 := Sm.refl w0
 unfold bits_Source_Used.s at h
 refine wc_prune [(0, .pointer a0)] ⟨rfl, trivial⟩ (fun f1 => ?_)
 refine wc_seq (wc_region (wl_val (at_assign rfl) rfl (wl_nil (wk_prune [(0, .pointer a0)] ⟨rfl, trivial⟩ fun f1 => wk_then (wc_seq (wc_region (wl_val (at_move rfl) rfl ?_)))))))
 obtain ⟨p1, q2, h⟩ := h
 refine wl_val (at_nilCheck (congrArg Value.pointer q2)) rfl (wl_val (at_fieldAddr Try.underlying125 rfl rfl sz3 (by decide) rfl) rfl ?_)
 obtain ⟨x3, q4, h⟩ := h
 exact wl_val (at_load Try.underlying3 rfl rfl q4) rfl (wl_val (at_assign rfl) rfl (wl_nil (wk_prune [(2, .int .i64 x3)] ⟨rfl, trivial⟩ fun f1 => wk_then (wc_ret (wk_ret1 (x := x3) rfl (by decide) rfl so h)))))
def bits_Source_step.enc : Int → Value := fun r => .int .i64 r
def bits_Source_step.s (a0 : Option Addr) (H0 : Hp) (Q : Int → Hp → Prop) : Prop :=
 someA a0 (fun p1 => ldI .i64 H0 (p1.add 4) (fun x3 => if (x3 == 0) = true then (Q 1 H0) else (ldS H0 (p1.add 0) (fun x5 => ldI .i64 H0 (p1.add 1) (fun x7 => 0 ≤ x7 ∧ x7 < (x5.size : Int) ∧ (ldI .u8 H0 (p1.add 2) (fun x12 => 0 ≤ x12 ∧ (Lt ((IntKind.wrap .i64 (Go.bits .and .u8 (shrI .u8 (bt x5 x7) x12) 1)) : Int) (fun x15 => ldI .i64 H0 (p1.add 4) (fun x17 => st H0 (p1.add 4) (.int .i64 (IntKind.wrap .i64 (x17 - 1))) (fun H19 => ldI .i64 H19 (p1.add 5) (fun x20 => st H19 (p1.add 5) (.int .i64 (IntKind.wrap .i64 (x20 + 1))) (fun H22 => ldI .u8 H22 (p1.add 2) (fun x23 => if decide ((0 : Int) < x23) = true then (ldI .u8 H22 (p1.add 2) (fun x25 => st H22 (p1.add 2) (.int .u8 (IntKind.wrap .u8 (x25 - 1))) (fun H27 => Q x15 H27))) else (st H22 (p1.add 2) (.int .u8 7) (fun H28 => ldI .i64 H28 (p1.add 1) (fun x29 => st H28 (p1.add 1) (.int .i64 (IntKind.wrap .i64 (x29 + 1))) (fun H31 => Join (fun (s33 : Unit) (H34 : Hp) => Q x15 H34) (fun (J32 : Unit → Hp → Prop) => if ((bt x5 x7) == 255) = true then (ldI .i64 H31 (p1.add 1) (fun x35 => st H31 (p1.add 1) (.int .i64 (IntKind.wrap .i64 (x35 + 1))) (fun H37 => J32 () H37))) else (J32 () H31))))))))))))))))))))
theorem bits_Source_step.calls (a0 : Option Addr) (w0 : World) (Q : Int → Hp → Prop) (h : bits_Source_step.s a0 w0.heap Q) :
  Ca Try.prog 53 #[.pointer a0] w0 (Rt bits_Source_step.enc Q w0) := by
 refine ca_start (c := _) Try.func53 rfl Try.ntmps53 rfl ?_
 have so : Sm w0 w0 := Sm.refl w0
 unfold bits_Source_step.s at h
 refine wc_prune [(0, .pointer a0)] ⟨rfl, trivial⟩ (fun f1 => ?_)
 refine wc_seq (wc_region (wl_val (at_assign rfl) rfl (wl_nil (wk_prune [(0, .pointer a0)] ⟨rfl, trivial⟩ fun f1 => wk_then (wc_seq (wc_seq (wc_region (wl_val (at_move rfl) rfl ?_))))))))
 obtain ⟨p1, q2, h⟩ := h
 refine wl_val (at_nilCheck (congrArg Value.pointer q2)) rfl (wl_val (at_fieldAddr Try.underlying125 rfl rfl sz3 (by decide) rfl) rfl ?_)
 obtain ⟨x3, q4, h⟩ := h
 refine wl_val (at_load Try.underlying3 rfl rfl q4) rfl (wl_val (at_eql rfl rfl) rfl (wl_nil (wk_prune [(0, .pointer a0), (9, .bool (x3 == 0))] ⟨rfl, rfl, trivial⟩ fun f1 => wk_then (wc_cond rfl h (fun h => ?_) (fun h => ?_)))))
 ·exact wc_seq (wc_region (wl_val (at_assign rfl) rfl (wl_nil (wk_prune [(2, .int .i64 1)] ⟨rfl, trivial⟩ fun f1 => wk_then (wc_ret (wk_thenR (wk_ret1 (x := 1) rfl (by decide) rfl so h)))))))
 ·refine wc_skip (wk_prune [(0, .pointer a0)] ⟨rfl, trivial⟩ fun f1 => wk_then (wc_seq (wc_draw mixed (by kernel_rfl) so (wq_val (at_move rfl) rfl (wq_val (at_nilCheck (congrArg Value.pointer q2)) rfl (wq_val (at_fieldAddr Try.underlying125 rfl rfl sz9 (by decide) rfl) rfl ?_))))))
  obtain ⟨x5, q6, h⟩ := h
  refine wq_val (at_load Try.underlying9 rfl rfl q6) rfl (wq_val (at_move rfl) rfl (wq_val (at_nilCheck (congrArg Value.pointer q2)) rfl (wq_val (at_fieldAddr Try.underlying125 rfl rfl sz3 (by decide) rfl) rfl ?_)))
  obtain ⟨x7, q8, h⟩ := h
  refine wq_val (at_load Try.underlying3 rfl rfl q8) rfl ?_
  obtain ⟨q9, q10, h⟩ := h
  refine wq_val (at_ixS Try.underlying9 rfl rfl q9 q10) rfl (wq_val (at_assign rfl) rfl ?_)
  refine wq_nil ?_; intro w11 hw so; rw [← hw] at h; clear hw
  refine wk_prune [(0, .pointer a0), (3, .int .u8 (bt x5 x7))] ⟨rfl, rfl, trivial⟩ fun f1 => wk_then (wc_seq (wc_region (wl_val (at_move rfl) rfl (wl_val (at_move rfl) rfl (wl_val (at_nilCheck (congrArg Value.pointer q2)) rfl (wl_val (at_fieldAddr Try.underlying125 rfl rfl sz5 (by decide) rfl) rfl ?_))))))
  obtain ⟨x12, q13, h⟩ := h
  refine wl_val (at_load Try.underlying5 rfl rfl q13) rfl ?_
  obtain ⟨q14, h⟩ := h
  refine wl_val (at_shr rfl rfl q14) rfl (wl_val (at_and rfl rfl) rfl (wl_val (at_conv Try.underlying5 Try.underlying3 rfl) rfl (wl_val (at_assign rfl) rfl ?_)))
  obtain ⟨x15, e16⟩ : ∃ x : Int, x = (IntKind.wrap .i64 (Go.bits .and .u8 (shrI .u8 (bt x5 x7) x12) 1)) := ⟨_, rfl⟩; replace h := h x15 e16
  refine wl_set (t := 4) (v := .int .i64 x15) (congrArg (Value.int .i64) e16.symm) (wl_nil (wk_prune [(0, .pointer a0), (3, .int .u8 (bt x5 x7)), (4, .int .i64 x15)] ⟨rfl, rfl, rfl, trivial⟩ fun f1 => wk_then (wc_seq (wc_region (wl_val (at_move rfl) rfl (wl_val (at_nilCheck (congrArg Value.pointer q2)) rfl (wl_val (at_fieldAddr Try.underlying125 rfl rfl sz3 (by decide) rfl) rfl ?_)))))))
  obtain ⟨x17, q18, h⟩ := h
  refine wl_val (at_load Try.underlying3 rfl rfl q18) rfl (wl_val (at_sub rfl rfl) rfl (wl_val (at_nilCheck (congrArg Value.pointer q2)) rfl (wl_val (at_fieldAddr Try.underlying125 rfl rfl sz3 (by decide) rfl) rfl ?_)))
  refine wl_st (v := .int .i64 (IntKind.wrap .i64 (x17 - 1))) h rfl so (fun q1 q2 => ef_store (sz := sz3) rfl rfl rfl q1 q2) ?_; intro w19 h so
  refine wl_nil (wk_prune [(0, .pointer a0), (3, .int .u8 (bt x5 x7)), (4, .int .i64 x15)] ⟨rfl, rfl, rfl, trivial⟩ fun f1 => wk_then (wc_seq (wc_region (wl_val (at_move rfl) rfl (wl_val (at_nilCheck (congrArg Value.pointer q2)) rfl (wl_val (at_fieldAddr Try.underlying125 rfl rfl sz3 (by decide) rfl) rfl ?_))))))
  obtain ⟨x20, q21, h⟩ := h
  refine wl_val (at_load Try.underlying3 rfl rfl q21) rfl (wl_val (at_add rfl rfl) rfl (wl_val (at_nilCheck (congrArg Value.pointer q2)) rfl (wl_val (at_fieldAddr Try.underlying125 rfl rfl sz3 (by decide) rfl) rfl ?_)))
  refine wl_st (v := .int .i64 (IntKind.wrap .i64 (x20 + 1))) h rfl so (fun q1 q2 => ef_store (sz := sz3) rfl rfl rfl q1 q2) ?_; intro w22 h so
  refine wl_nil (wk_prune [(0, .pointer a0), (3, .int .u8 (bt x5 x7)), (4, .int .i64 x15)] ⟨rfl, rfl, rfl, trivial⟩ fun f1 => wk_then (wc_seq (wc_seq (wc_region (wl_val (at_move rfl) rfl (wl_val (at_nilCheck (congrArg Value.pointer q2)) rfl (wl_val (at_fieldAddr Try.underlying125 rfl rfl sz5 (by decide) rfl) rfl ?_)))))))
  obtain ⟨x23, q24, h⟩ := h
  refine wl_val (at_load Try.underlying5 rfl rfl q24) rfl (wl_val (at_gtr rfl rfl) rfl (wl_nil (wk_prune [(0, .pointer a0), (3, .int .u8 (bt x5 x7)), (4, .int .i64 x15), (45, .bool (decide ((0 : Int) < x23)))] ⟨rfl, rfl, rfl, rfl, trivial⟩ fun f1 => wk_then (wc_cond rfl h (fun h => ?_) (fun h => ?_)))))
  ·refine wc_seq (wc_region (wl_val (at_move rfl) rfl (wl_val (at_nilCheck (congrArg Value.pointer q2)) rfl (wl_val (at_fieldAddr Try.underlying125 rfl rfl sz5 (by decide) rfl) rfl ?_))))
   obtain ⟨x25, q26, h⟩ := h
   refine wl_val (at_load Try.underlying5 rfl rfl q26) rfl (wl_val (at_sub rfl rfl) rfl (wl_val (at_nilCheck (congrArg Value.pointer q2)) rfl (wl_val (at_fieldAddr Try.underlying125 rfl rfl sz5 (by decide) rfl) rfl ?_)))
   refine wl_st (v := .int .u8 (IntKind.wrap .u8 (x25 - 1))) h rfl so (fun q1 q2 => ef_store (sz := sz5) rfl rfl rfl q1 q2) ?_; intro w27 h so
   exact wl_nil (wk_prune [(4, .int .i64 x15)] ⟨rfl, trivial⟩ fun f1 => wk_then (wc_seq (wc_region (wl_val (at_move rfl) rfl (wl_val (at_assign rfl) rfl (wl_nil (wk_prune [(2, .int .i64 x15)] ⟨rfl, trivial⟩ fun f1 => wk_then (wc_ret (wk_thenR (wk_ret1 (x := x15) rfl (by decide) rfl so h))))))))))
  ·refine wc_skip (wk_prune [(0, .pointer a0), (3, .int .u8 (bt x5 x7)), (4, .int .i64 x15)] ⟨rfl, rfl, rfl, trivial⟩ fun f1 => wk_then (wc_seq (wc_region (wl_val (at_move rfl) rfl (wl_val (at_nilCheck (congrArg Value.pointer q2)) rfl (wl_val (at_fieldAddr Try.underlying125 rfl rfl sz5 (by decide) rfl) rfl ?_))))))
   refine wl_st (v := .int .u8 7) h rfl so (fun q1 q2 => ef_store (sz := sz5) rfl rfl rfl q1 q2) ?_; intro w28 h so
   refine wl_nil (wk_prune [(0, .pointer a0), (3, .int .u8 (bt x5 x7)), (4, .int .i64 x15)] ⟨rfl, rfl, rfl, trivial⟩ fun f1 => wk_then (wc_seq (wc_region (wl_val (at_move rfl) rfl (wl_val (at_nilCheck (congrArg Value.pointer q2)) rfl (wl_val (at_fieldAddr Try.underlying125 rfl rfl sz3 (by decide) rfl) rfl ?_))))))
   obtain ⟨x29, q30, h⟩ := h
   refine wl_val (at_load Try.underlying3 rfl rfl q30) rfl (wl_val (at_add rfl rfl) rfl (wl_val (at_nilCheck (congrArg Value.pointer q2)) rfl (wl_val (at_fieldAddr Try.underlying125 rfl rfl sz3 (by decide) rfl) rfl ?_)))
   refine wl_st (v := .int .i64 (IntKind.wrap .i64 (x29 + 1))) h rfl so (fun q1 q2 => ef_store (sz := sz3) rfl rfl rfl q1 q2) ?_; intro w31 h so
   refine wl_nil (wk_prune [(0, .pointer a0), (3, .int .u8 (bt x5 x7)), (4, .int .i64 x15)] ⟨rfl, rfl, rfl, trivial⟩ fun f1 => wk_then (wc_seq (wc_join (w0 := w0) (fun (s33 : Unit) => [(4, .int .i64 x15)]) h ?_ ?_)))
   ·rintro s33 w34 f1 h so; refine wk_then ?_
    exact wc_seq (wc_region (wl_val (at_move rfl) rfl (wl_val (at_assign rfl) rfl (wl_nil (wk_prune [(2, .int .i64 x15)] ⟨rfl, trivial⟩ fun f1 => wk_then (wc_ret (wk_ret1 (x := x15) rfl (by decide) rfl so h)))))))
   ·intro J32 h hJ32
    refine wc_seq (wc_region (wl_val (at_move rfl) rfl (wl_val (at_eql rfl rfl) rfl (wl_nil (wk_prune [(0, .pointer a0), (4, .int .i64 x15), (65, .bool ((bt x5 x7) == 255))] ⟨rfl, rfl, rfl, trivial⟩ fun f1 => wk_then (wc_cond rfl h (fun h => ?_) (fun h => ?_)))))))
    ·refine wc_region (wl_val (at_move rfl) rfl (wl_val (at_nilCheck (congrArg Value.pointer q2)) rfl (wl_val (at_fieldAddr Try.underlying125 rfl rfl sz3 (by decide) rfl) rfl ?_)))
     obtain ⟨x35, q36, h⟩ := h
     refine wl_val (at_load Try.underlying3 rfl rfl q36) rfl (wl_val (at_add rfl rfl) rfl (wl_val (at_nilCheck (congrArg Value.pointer q2)) rfl (wl_val (at_fieldAddr Try.underlying125 rfl rfl sz3 (by decide) rfl) rfl ?_)))
     refine wl_st (v := .int .i64 (IntKind.wrap .i64 (x35 + 1))) h rfl so (fun q1 q2 => ef_store (sz := sz3) rfl rfl rfl q1 q2) ?_; intro w37 h so
     exact wl_nil (wk_prune [(4, .int .i64 x15)] ⟨rfl, trivial⟩ (fun f1 => hJ32 () _ f1 h so))
    ·exact wc_skip (wk_prune [(4, .int .i64 x15)] ⟨rfl, trivial⟩ (fun f1 => hJ32 () _ f1 h so))
def bits_Source_Skip.enc : Bool → Value := fun r => .bool r
def bits_Source_Skip.s (a0 : Option Addr) (a1 : Int) (H0 : Hp) (Q : Bool → Hp → Prop) : Prop :=
 Join (fun (s2 : Bool) (H3 : Hp) => if s2 = true then (Q false H3) else (∃ k4, Fix (fun (rec9 : Int → Hp → Prop) (s6 : Int) (H7 : Hp) => if decide (s6 < a1) = true then (bits_Source_step.s a0 H7 (fun x10 H11 => rec9 ((IntKind.wrap .i64 (s6 + 1))) H11)) else (Q true H7)) k4 (0) H3)) (fun (J1 : Bool → Hp → Prop) => if decide (a1 < 0) = true then (J1 (true) H0) else (someA a0 (fun p12 => ldI .i64 H0 (p12.add 4) (fun x14 => J1 ((decide (x14 < a1))) H0))))
theorem bits_Source_Skip.calls (a0 : Option Addr) (a1 : Int) (w0 : World) (Q : Bool → Hp → Prop) (h : bits_Source_Skip.s a0 a1 w0.heap Q) :
  Ca Try.prog 30 #[.pointer a0, .int .i64 a1] w0 (Rt bits_Source_Skip.enc Q w0) := by
 refine ca_start (c := _) Try.func30 rfl Try.ntmps30 rfl ?_
 have so : Sm w0 w0 := Sm.refl w0
 unfold bits_Source_Skip.s at h
 refine wc_prune [(0, .pointer a0), (1, .int .i64 a1)] ⟨rfl, rfl, trivial⟩ (fun f1 => ?_)
 refine wc_seq (wc_region (wl_val (at_assign rfl) rfl (wl_nil (wk_prune [(0, .pointer a0), (1, .int .i64 a1)] ⟨rfl, rfl, trivial⟩ fun f1 => wk_then (wc_seq (wc_seq (wc_join (w0 := w0) (fun (s2 : Bool) => [(0, .pointer a0), (1, .int .i64 a1), (14, .bool s2)]) h ?_ ?_)))))))
 ·rintro s2 w3 f1 h so; refine wk_then ?_
  refine wc_cond rfl h (fun h => ?_) (fun h => ?_)
  ·exact wc_seq (wc_region (wl_val (at_assign rfl) rfl (wl_nil (wk_prune [(4, .bool false)] ⟨rfl, trivial⟩ fun f1 => wk_then (wc_ret (wk_thenR (wk_ret1 (x := false) rfl (by decide) rfl so h)))))))
  ·refine wc_skip (wk_prune [(0, .pointer a0), (1, .int .i64 a1)] ⟨rfl, rfl, trivial⟩ fun f1 => wk_then (wc_seq (wc_seq (wc_region (wl_val (at_move rfl) rfl (wl_val (at_move rfl) rfl (wl_nil (wk_prune [(0, .pointer a0), (15, .int .i64 a1), (16, .int .i64 0)] ⟨rfl, rfl, rfl, trivial⟩ fun f1 => wk_then (wc_block ?_)))))))))
   obtain ⟨k4, h⟩ := h
   refine wc_loop (fun k a w => ∃ (s6 : Int) (f1 : Nat → Value), a = ac 21 (en f1 [(0, .pointer a0), (15, .int .i64 a1), (16, .int .i64 s6)]) [] ∧ Sm w0 w ∧ Fix _ k s6 w.heap) k4 ⟨(0), _, ac_again ⟨rfl, rfl, rfl, trivial⟩, so, h⟩ ?_
   rintro k5 a8 w7 ⟨s6, f1, rfl, so, h⟩
   rcases k5 with _ | k5
   ·exact h.elim
   replace h := Fix.un h; refine wc_in ?_
   refine wc_seq (wc_region (wl_val (at_lss rfl rfl) rfl (wl_nil (wk_prune [(0, .pointer a0), (15, .int .i64 a1), (16, .int .i64 s6), (17, .bool (decide (s6 < a1)))] ⟨rfl, rfl, rfl, rfl, trivial⟩ fun f1 => wk_then (wc_seq (wc_cond rfl h (fun h => ?_) (fun h => ?_)))))))
   ·refine wc_skip (wk_prune [(0, .pointer a0), (15, .int .i64 a1), (16, .int .i64 s6)] ⟨rfl, rfl, rfl, trivial⟩ fun f1 => wk_then (wc_seq (wc_block (wc_region (wl_val (at_move rfl) rfl ?_)))))
    refine wl_callF (bits_Source_step.calls _ _ _ h) enter53 rfl trivial so ?_; intro x10 w11 h so
    exact wl_nil (wk_blkN (wk_prune [(0, .pointer a0), (15, .int .i64 a1), (16, .int .i64 s6)] ⟨rfl, rfl, rfl, trivial⟩ fun f1 => wk_then (wc_region (wl_val (at_add rfl rfl) rfl (wl_val (at_move rfl) rfl (wl_nil (wk_again ⟨((IntKind.wrap .i64 (s6 + 1))), _, ac_again ⟨rfl, rfl, rfl, trivial⟩, so, h⟩)))))))
   ·exact wc_exit (wk_thenE (wk_thenE (wk_blkE (wk_prune [] trivial fun f1 => wk_then (wc_seq (wc_region (wl_val (at_assign rfl) rfl (wl_nil (wk_prune [(4, .bool true)] ⟨rfl, trivial⟩ fun f1 => wk_then (wc_ret (wk_ret1 (x := true) rfl (by decide) rfl so h)))))))))))
 ·intro J1 h hJ1
  refine wc_region (wl_val (at_move rfl) rfl (wl_val (at_lss rfl rfl) rfl (wl_val (at_move rfl) rfl (bif_ h (fun hb h => ?_) (fun hb h => ?_)))))
  ·refine wl_set (t := 7) (v := .bool true) (congrArg Value.bool hb) ?_; clear hb
   exact wl_off (t := 7) rfl (by decide) rfl (wl_off (t := 7) rfl (by decide) rfl (wl_off (t := 7) rfl (by decide) rfl (wl_off (t := 7) rfl (by decide) rfl (wl_off (t := 7) rfl (by decide) rfl (wl_off (t := 7) rfl (by decide) rfl (wl_val (at_pick_t rfl rfl) rfl (wl_nil (wk_prune [(0, .pointer a0), (1, .int .i64 a1), (14, .bool true)] ⟨rfl, rfl, rfl, trivial⟩ (fun f1 => hJ1 (true) _ f1 h so)))))))))
  ·refine wl_set (t := 7) (v := .bool false) (congrArg Value.bool hb) ?_; clear hb
   refine wl_on (t := 7) rfl (by decide) rfl (wl_val (at_move rfl) rfl (wl_on (t := 7) rfl (by decide) rfl (wl_val (at_move rfl) rfl (wl_on (t := 7) rfl (by decide) rfl ?_))))
   obtain ⟨p12, q13, h⟩ := h
   refine wl_val (at_nilCheck (congrArg Value.pointer q13)) rfl (wl_on (t := 7) rfl (by decide) rfl (wl_val (at_fieldAddr Try.underlying125 rfl rfl sz3 (by decide) rfl) rfl (wl_on (t := 7) rfl (by decide) rfl ?_)))
   obtain ⟨x14, q15, h⟩ := h
   exact wl_val (at_load Try.underlying3 rfl rfl q15) rfl (wl_on (t := 7) rfl (by decide) rfl (wl_val (at_gtr rfl rfl) rfl (wl_val (at_pick_f rfl rfl) rfl (wl_nil (wk_prune [(0, .pointer a0), (1, .int .i64 a1), (14, .bool (decide (x14 < a1)))] ⟨rfl, rfl, rfl, trivial⟩ (fun f1 => hJ1 ((decide (x14 < a1))) _ f1 h so))))))
def bits_Source_Left.enc : Int → Value := fun r => .int .i64 r
def bits_Source_Left.s (a0 : Option Addr) (H0 : Hp) (Q : Int → Hp → Prop) : Prop :=
 someA a0 (fun p1 => ldI .i64 H0 (p1.add 4) (fun x3 => Q x3 H0))
theorem bits_Source_Left.calls (a0 : Option Addr) (w0 : World) (Q : Int → Hp → Prop) (h : bits_Source_Left.s a0 w0.heap Q) :
  Ca Try.prog 31 #[.pointer a0] w0 (Rt bits_Source_Left.enc Q w0) := by
 refine ca_start (c := _) Try.func31 rfl Try.ntmps31 rfl ?_
 have so : Sm w0 w0 := Sm.refl w0
 unfold bits_Source_Left.s at h
 refine wc_prune [(0, .pointer a0)] ⟨rfl, trivial⟩ (fun f1 => ?_)
 refine wc_seq (wc_region (wl_val (at_assign rfl) rfl (wl_nil (wk_prune [(0, .pointer a0)] ⟨rfl, trivial⟩ fun f1 => wk_then (wc_seq (wc_region (wl_val (at_move rfl) rfl ?_)))))))
 obtain ⟨p1, q2, h⟩ := h
 refine wl_val (at_nilCheck (congrArg Value.pointer q2)) rfl (wl_val (at_fieldAddr Try.underlying125 rfl rfl sz3 (by decide) rfl) rfl ?_)
 obtain ⟨x3, q4, h⟩ := h
 exact wl_val (at_load Try.underlying3 rfl rfl q4) rfl (wl_val (at_assign rfl) rfl (wl_nil (wk_prune [(2, .int .i64 x3)] ⟨rfl, trivial⟩ fun f1 => wk_then (wc_ret (wk_ret1 (x := x3) rfl (by decide) rfl so h)))))
def bits_Source_Peek.enc : Int × Bool → Value := fun r => .tuple #[.int .i64 r.1, .bool r.2]
def bits_Source_Peek.s (a0 : Option Addr) (a1 : Int) (H0 : Hp) (Q : (Int × Bool) → Hp → Prop) : Prop :=
 Join (fun (s2 : Bool) (H3 : Hp) => if s2 = true then (Q (0, false) H3) else (someA a0 (fun p4 => ∃ x6 : ByteArray, ∃ x7 : Int, ∃ x8 : Int, ∃ x9 : Int, ∃ x10 : Int, ∃ x11 : Int, ldA H3 p4 (c125 x6 x7 x8 x9 x10 x11) ∧ (Gn [] H3 (fun (b13 : Nat) (H15 : Hp) => Bk H15 b13 125 (c125 x6 x7 x8 x9 x10 x11) → (∃ k16, Fix (fun (rec21 : (Int × Int) → Hp → Prop) (s18 : Int × Int) (H19 : Hp) => if decide (s18.2 < a1) = true then (bits_Source_step.s (some (⟨b13, 0, none⟩ : Addr)) H19 (fun x22 H23 => rec21 ((Go.bits .or .i64 (shlI .i64 s18.1 1) x22), (IntKind.wrap .i64 (s18.2 + 1))) H23)) else (Q (s18.1, true) H19)) k16 (0, 0) H15)))))) (fun (J1 : Bool → Hp → Prop) => if decide (a1 < 0) = true then (J1 (true) H0) else (J1 ((decide ((16 : Int) < a1))) H0))
theorem bits_Source_Peek.calls (a0 : Option Addr) (a1 : Int) (w0 : World) (Q : (Int × Bool) → Hp → Prop) (h : bits_Source_Peek.s a0 a1 w0.heap Q) :
  Ca Try.prog 52 #[.pointer a0, .int .i64 a1] w0 (Rt bits_Source_Peek.enc Q w0) := by
 refine ca_start (c := _) Try.func52 rfl Try.ntmps52 rfl ?_
 have so : Sm w0 w0 := Sm.refl w0
 unfold bits_Source_Peek.s at h
 refine wc_prune [(0, .pointer a0), (1, .int .i64 a1)] ⟨rfl, rfl, trivial⟩ (fun f1 => ?_)
 refine wc_seq (wc_region (wl_val (at_assign rfl) rfl (wl_val (at_assign rfl) rfl (wl_nil (wk_prune [(0, .pointer a0), (1, .int .i64 a1)] ⟨rfl, rfl, trivial⟩ fun f1 => wk_then (wc_seq (wc_seq (wc_join (w0 := w0) (fun (s2 : Bool) => [(0, .pointer a0), (1, .int .i64 a1), (13, .bool s2)]) h ?_ ?_))))))))
 ·rintro s2 w3 f1 h so; refine wk_then ?_
  refine wc_cond rfl h (fun h => ?_) (fun h => ?_)
  ·exact wc_seq (wc_region (wl_val (at_assign rfl) rfl (wl_val (at_assign rfl) rfl (wl_nil (wk_prune [(4, .int .i64 0), (5, .bool false)] ⟨rfl, rfl, trivial⟩ fun f1 => wk_then (wc_ret (wk_thenR (wk_ret2 (x := (0, false)) rfl (by decide) (by decide) rfl so h))))))))
  ·refine wc_skip (wk_prune [(0, .pointer a0), (1, .int .i64 a1)] ⟨rfl, rfl, trivial⟩ fun f1 => wk_then (wc_seq (wc_region (wl_val (at_move rfl) rfl ?_))))
   obtain ⟨p4, q5, h⟩ := h
   refine wl_val (at_nilCheck (congrArg Value.pointer q5)) rfl ?_
   obtain ⟨x6, x7, x8, x9, x10, x11, q12, h⟩ := h
   refine wl_val (at_loadA (cs := (c125 x6 x7 x8 x9 x10 x11)) Try.underlying125 rfl (by rw [len125]; exact sz125) rfl q12) rfl ?_
   refine wl_newT (T := 125) (cs := (c125 ByteArray.empty 0 0 0 0 0)) (ef_alloc zero125 rfl) rfl so ?_; intro b13 w14 hb_b13 t_b13 k_b13 so
   have g_b13 := Nat.le_of_eq hb_b13.symm
   have hc := k_b13.ch (F := [])
   refine wl_stWT (vs := (c125 x6 x7 x8 x9 x10 x11)) t_b13 (by first | (rw [len125, len125]) | (rw [len125]) | rfl) rfl so (fun q => ef_storeA (p := (⟨b13, 0, none⟩ : Addr)) (cs := (c125 x6 x7 x8 x9 x10 x11)) (by rw [len125]; exact sz125) rfl rfl (one125 _ _ _ _ _ _) q) ?_; intro w15 t_b13 s_w15 so
   replace hc := ch_same hc s_w15 (.inr g_b13)
   refine wl_nil (wk_prune [(1, .int .i64 a1), (6, .pointer (some (⟨b13, 0, none⟩ : Addr)))] ⟨rfl, rfl, trivial⟩ fun f1 => wk_then (wc_seq (wc_region (wl_val (at_assign rfl) rfl (wl_nil (wk_prune [(1, .int .i64 a1), (6, .pointer (some (⟨b13, 0, none⟩ : Addr))), (7, .int .i64 0)] ⟨rfl, rfl, rfl, trivial⟩ fun f1 => wk_then (wc_seq (wc_seq (wc_region (wl_val (at_move rfl) rfl (wl_val (at_move rfl) rfl (wl_nil (wk_prune [(6, .pointer (some (⟨b13, 0, none⟩ : Addr))), (7, .int .i64 0), (17, .int .i64 a1), (18, .int .i64 0)] ⟨rfl, rfl, rfl, rfl, trivial⟩ fun f1 => wk_then (wc_block ?_))))))))))))))
   replace h := h b13 _ hc g_b13 t_b13.lt; clear hc
   replace h := h t_b13
   obtain ⟨k16, h⟩ := h
   refine wc_loop (fun k a w => ∃ (s18 : Int × Int) (f1 : Nat → Value), a = ac 27 (en f1 [(6, .pointer (some (⟨b13, 0, none⟩ : Addr))), (7, .int .i64 s18.1), (17, .int .i64 a1), (18, .int .i64 s18.2)]) [] ∧ Sm w0 w ∧ Fix _ k s18 w.heap) k16 ⟨(0, 0), _, ac_again ⟨rfl, rfl, rfl, rfl, trivial⟩, so, h⟩ ?_
   rintro k17 a20 w19 ⟨s18, f1, rfl, so, h⟩
   rcases k17 with _ | k17
   ·exact h.elim
   replace h := Fix.un h; refine wc_in ?_
   refine wc_seq (wc_region (wl_val (at_lss rfl rfl) rfl (wl_nil (wk_prune [(6, .pointer (some (⟨b13, 0, none⟩ : Addr))), (7, .int .i64 s18.1), (17, .int .i64 a1), (18, .int .i64 s18.2), (19, .bool (decide (s18.2 < a1)))] ⟨rfl, rfl, rfl, rfl, rfl, trivial⟩ fun f1 => wk_then (wc_seq (wc_cond rfl h (fun h => ?_) (fun h => ?_)))))))
   ·refine wc_skip (wk_prune [(6, .pointer (some (⟨b13, 0, none⟩ : Addr))), (7, .int .i64 s18.1), (17, .int .i64 a1), (18, .int .i64 s18.2)] ⟨rfl, rfl, rfl, rfl, trivial⟩ fun f1 => wk_then (wc_seq (wc_block (wc_seq (wc_region (wl_val (at_move rfl) rfl (wl_val (at_shl rfl rfl (by decide)) rfl (wl_val (at_assign rfl) rfl (wl_nil (wk_prune [(6, .pointer (some (⟨b13, 0, none⟩ : Addr))), (7, .int .i64 (shlI .i64 s18.1 1)), (17, .int .i64 a1), (18, .int .i64 s18.2)] ⟨rfl, rfl, rfl, rfl, trivial⟩ fun f1 => wk_then (wc_region (wl_val (at_move rfl) rfl ?_))))))))))))
    refine wl_callF (bits_Source_step.calls _ _ _ h) enter53 rfl trivial so ?_; intro x22 w23 h so
    exact wl_val (at_or rfl rfl) rfl (wl_val (at_assign rfl) rfl (wl_nil (wk_blkN (wk_prune [(6, .pointer (some (⟨b13, 0, none⟩ : Addr))), (7, .int .i64 (Go.bits .or .i64 (shlI .i64 s18.1 1) x22)), (17, .int .i64 a1), (18, .int .i64 s18.2)] ⟨rfl, rfl, rfl, rfl, trivial⟩ fun f1 => wk_then (wc_region (wl_val (at_add rfl rfl) rfl (wl_val (at_move rfl) rfl (wl_nil (wk_again ⟨((Go.bits .or .i64 (shlI .i64 s18.1 1) x22), (IntKind.wrap .i64 (s18.2 + 1))), _, ac_again ⟨rfl, rfl, rfl, rfl, trivial⟩, so, h⟩)))))))))
   ·exact wc_exit (wk_thenE (wk_thenE (wk_blkE (wk_prune [(7, .int .i64 s18.1)] ⟨rfl, trivial⟩ fun f1 => wk_then (wc_seq (wc_region (wl_val (at_move rfl) rfl (wl_val (at_assign rfl) rfl (wl_val (at_assign rfl) rfl (wl_nil (wk_prune [(4, .int .i64 s18.1), (5, .bool true)] ⟨rfl, rfl, trivial⟩ fun f1 => wk_then (wc_ret (wk_ret2 (x := (s18.1, true)) rfl (by decide) (by decide) rfl so h)))))))))))))
 ·intro J1 h hJ1
  refine wc_region (wl_val (at_move rfl) rfl (wl_val (at_lss rfl rfl) rfl (wl_val (at_move rfl) rfl (bif_ h (fun hb h => ?_) (fun hb h => ?_)))))
  ·refine wl_set (t := 10) (v := .bool true) (congrArg Value.bool hb) ?_; clear hb
   exact wl_off (t := 10) rfl (by decide) rfl (wl_off (t := 10) rfl (by decide) rfl (wl_val (at_pick_t rfl rfl) rfl (wl_nil (wk_prune [(0, .pointer a0), (1, .int .i64 a1), (13, .bool true)] ⟨rfl, rfl, rfl, trivial⟩ (fun f1 => hJ1 (true) _ f1 h so)))))
  ·refine wl_set (t := 10) (v := .bool false) (congrArg Value.bool hb) ?_; clear hb
   exact wl_on (t := 10) rfl (by decide) rfl (wl_val (at_move rfl) rfl (wl_on (t := 10) rfl (by decide) rfl (wl_val (at_gtr rfl rfl) rfl (wl_val (at_pick_f rfl rfl) rfl (wl_nil (wk_prune [(0, .pointer a0), (1, .int .i64 a1), (13, .bool (decide ((16 : Int) < a1)))] ⟨rfl, rfl, rfl, trivial⟩ (fun f1 => hJ1 ((decide ((16 : Int) < a1))) _ f1 h so)))))))
def bits_Source_Next.enc : Int × Bool → Value := fun r => .tuple #[.int .i64 r.1, .bool r.2]
def bits_Source_Next.s (a0 : Option Addr) (a1 : Int) (H0 : Hp) (Q : (Int × Bool) → Hp → Prop) : Prop :=
 bits_Source_Peek.s a0 a1 H0 (fun x1 H2 => Join (fun (s4 : Bool) (H5 : Hp) => if s4 = true then (Q (0, false) H5) else (Q (x1.1, true) H5)) (fun (J3 : Bool → Hp → Prop) => if (!x1.2) = true then (J3 (true) H2) else (bits_Source_Skip.s a0 a1 H2 (fun x6 H7 => J3 ((!x6)) H7))))
theorem bits_Source_Next.calls (a0 : Option Addr) (a1 : Int) (w0 : World) (Q : (Int × Bool) → Hp → Prop) (h : bits_Source_Next.s a0 a1 w0.heap Q) :
  Ca Try.prog 49 #[.pointer a0, .int .i64 a1] w0 (Rt bits_Source_Next.enc Q w0) := by
 refine ca_start (c := _) Try.func49 rfl Try.ntmps49 rfl ?_
 have so : Sm w0 w0 := Sm.refl w0
 unfold bits_Source_Next.s at h
 refine wc_prune [(0, .pointer a0), (1, .int .i64 a1)] ⟨rfl, rfl, trivial⟩ (fun f1 => ?_)
 refine wc_seq (wc_region (wl_val (at_assign rfl) rfl (wl_val (at_assign rfl) rfl (wl_nil (wk_prune [(0, .pointer a0), (1, .int .i64 a1)] ⟨rfl, rfl, trivial⟩ fun f1 => wk_then (wc_seq (wc_region (wl_val (at_move rfl) rfl (wl_val (at_move rfl) rfl ?_)))))))))
 refine wl_callF (bits_Source_Peek.calls _ _ _ _ h) enter52 rfl trivial so ?_; intro x1 w2 h so
 refine wl_val (at_move rfl) rfl (wl_val (at_extract rfl rfl) rfl (wl_val (at_extract rfl rfl) rfl (wl_val (at_assign rfl) rfl (wl_val (at_assign rfl) rfl (wl_nil (wk_prune [(0, .pointer a0), (1, .int .i64 a1), (6, .int .i64 x1.1), (7, .bool x1.2)] ⟨rfl, rfl, rfl, rfl, trivial⟩ fun f1 => wk_then (wc_seq (wc_seq (wc_join (w0 := w0) (fun (s4 : Bool) => [(6, .int .i64 x1.1), (21, .bool s4)]) h ?_ ?_)))))))))
 ·rintro s4 w5 f1 h so; refine wk_then ?_
  refine wc_cond rfl h (fun h => ?_) (fun h => ?_)
  ·exact wc_seq (wc_region (wl_val (at_assign rfl) rfl (wl_val (at_assign rfl) rfl (wl_nil (wk_prune [(4, .int .i64 0), (5, .bool false)] ⟨rfl, rfl, trivial⟩ fun f1 => wk_then (wc_ret (wk_thenR (wk_ret2 (x := (0, false)) rfl (by decide) (by decide) rfl so h))))))))
  ·exact wc_skip (wk_prune [(6, .int .i64 x1.1)] ⟨rfl, trivial⟩ fun f1 => wk_then (wc_seq (wc_region (wl_val (at_move rfl) rfl (wl_val (at_assign rfl) rfl (wl_val (at_assign rfl) rfl (wl_nil (wk_prune [(4, .int .i64 x1.1), (5, .bool true)] ⟨rfl, rfl, trivial⟩ fun f1 => wk_then (wc_ret (wk_ret2 (x := (x1.1, true)) rfl (by decide) (by decide) rfl so h))))))))))
 ·intro J3 h hJ3
  refine wc_region (wl_val (at_move rfl) rfl (wl_val (at_not rfl) rfl (wl_val (at_move rfl) rfl (bif_ h (fun hb h => ?_) (fun hb h => ?_)))))
  ·refine wl_set (t := 16) (v := .bool true) (congrArg Value.bool hb) ?_; clear hb
   exact wl_off (t := 16) rfl (by decide) rfl (wl_off (t := 16) rfl (by decide) rfl (wl_off (t := 16) rfl (by decide) rfl (wl_off (t := 16) rfl (by decide) rfl (wl_val (at_pick_t rfl rfl) rfl (wl_nil (wk_prune [(6, .int .i64 x1.1), (21, .bool true)] ⟨rfl, rfl, trivial⟩ (fun f1 => hJ3 (true) _ f1 h so)))))))
  ·refine wl_set (t := 16) (v := .bool false) (congrArg Value.bool hb) ?_; clear hb
   refine wl_on (t := 16) rfl (by decide) rfl (wl_val (at_move rfl) rfl (wl_on (t := 16) rfl (by decide) rfl (wl_val (at_move rfl) rfl (wl_on (t := 16) rfl (by decide) rfl ?_))))
   refine wl_callF (bits_Source_Skip.calls _ _ _ _ h) enter30 rfl trivial so ?_; intro x6 w7 h so
   exact wl_on (t := 16) rfl (by decide) rfl (wl_val (at_not rfl) rfl (wl_val (at_pick_f rfl rfl) rfl (wl_nil (wk_prune [(6, .int .i64 x1.1), (21, .bool (!x6))] ⟨rfl, rfl, trivial⟩ (fun f1 => hJ3 ((!x6)) _ f1 h so)))))
def bits_Source_Padded.enc : Bool → Value := fun r => .bool r
def bits_Source_Padded.s (a0 : Option Addr) (H0 : Hp) (Q : Bool → Hp → Prop) : Prop :=
 someA a0 (fun p1 => ldI .i64 H0 (p1.add 4) (fun x3 => if decide ((8 : Int) ≤ x3) = true then (Q false H0) else (ldI .i64 H0 (p1.add 4) (fun x5 => bits_Source_Peek.s a0 x5 H0 (fun x7 H8 => ldI .i64 H8 (p1.add 4) (fun x9 => 0 ≤ x9 ∧ (Q (x7.1 == (IntKind.wrap .i64 ((shlI .i64 1 x9) - 1))) H8)))))))
theorem bits_Source_Padded.calls (a0 : Option Addr) (w0 : World) (Q : Bool → Hp → Prop) (h : bits_Source_Padded.s a0 w0.heap Q) :
  Ca Try.prog 29 #[.pointer a0] w0 (Rt bits_Source_Padded.enc Q w0) := by
 refine ca_start (c := _) Try.func29 rfl Try.ntmps29 rfl ?_
 have so : Sm w0 w0 := Sm.refl w0
 unfold bits_Source_Padded.s at h
 refine wc_prune [(0, .pointer a0)] ⟨rfl, trivial⟩ (fun f1 => ?_)
 refine wc_seq (wc_region (wl_val (at_assign rfl) rfl (wl_nil (wk_prune [(0, .pointer a0)] ⟨rfl, trivial⟩ fun f1 => wk_then (wc_seq (wc_seq (wc_region (wl_val (at_move rfl) rfl ?_))))))))
 obtain ⟨p1, q2, h⟩ := h
 refine wl_val (at_nilCheck (congrArg Value.pointer q2)) rfl (wl_val (at_fieldAddr Try.underlying125 rfl rfl sz3 (by decide) rfl) rfl ?_)
 obtain ⟨x3, q4, h⟩ := h
 refine wl_val (at_load Try.underlying3 rfl rfl q4) rfl (wl_val (at_geq rfl rfl) rfl (wl_nil (wk_prune [(0, .pointer a0), (9, .bool (decide ((8 : Int) ≤ x3)))] ⟨rfl, rfl, trivial⟩ fun f1 => wk_then (wc_cond rfl h (fun h => ?_) (fun h => ?_)))))
 ·exact wc_seq (wc_region (wl_val (at_assign rfl) rfl (wl_nil (wk_prune [(2, .bool false)] ⟨rfl, trivial⟩ fun f1 => wk_then (wc_ret (wk_thenR (wk_ret1 (x := false) rfl (by decide) rfl so h)))))))
 ·refine wc_skip (wk_prune [(0, .pointer a0)] ⟨rfl, trivial⟩ fun f1 => wk_then (wc_seq (wc_region (wl_val (at_move rfl) rfl (wl_val (at_move rfl) rfl (wl_val (at_nilCheck (congrArg Value.pointer q2)) rfl (wl_val (at_fieldAddr Try.underlying125 rfl rfl sz3 (by decide) rfl) rfl ?_)))))))
  obtain ⟨x5, q6, h⟩ := h
  refine wl_val (at_load Try.underlying3 rfl rfl q6) rfl ?_
  refine wl_callF (bits_Source_Peek.calls _ _ _ _ h) enter52 rfl trivial so ?_; intro x7 w8 h so
  refine wl_val (at_move rfl) rfl (wl_val (at_extract rfl rfl) rfl (wl_val (at_extract rfl rfl) rfl (wl_val (at_assign rfl) rfl (wl_val (at_assign rfl) rfl (wl_nil (wk_prune [(0, .pointer a0), (3, .int .i64 x7.1)] ⟨rfl, rfl, trivial⟩ fun f1 => wk_then (wc_seq (wc_region (wl_val (at_move rfl) rfl (wl_val (at_move rfl) rfl (wl_val (at_nilCheck (congrArg Value.pointer q2)) rfl (wl_val (at_fieldAddr Try.underlying125 rfl rfl sz3 (by decide) rfl) rfl ?_))))))))))))
  obtain ⟨x9, q10, h⟩ := h
  refine wl_val (at_load Try.underlying3 rfl rfl q10) rfl ?_
  obtain ⟨q11, h⟩ := h
  exact wl_val (at_shl rfl rfl q11) rfl (wl_val (at_sub rfl rfl) rfl (wl_val (at_eql rfl rfl) rfl (wl_val (at_assign rfl) rfl (wl_nil (wk_prune [(2, .bool (x7.1 == (IntKind.wrap .i64 ((shlI .i64 1 x9) - 1))))] ⟨rfl, trivial⟩ fun f1 => wk_then (wc_ret (wk_ret1 (x := (x7.1 == (IntKind.wrap .i64 ((shlI .i64 1 x9) - 1)))) rfl (by decide) rfl so h)))))))
def bits_Source_At.enc : Int → Value := fun r => .int .i64 r
def bits_Source_At.s (a0 : Option Addr) (H0 : Hp) (Q : Int → Hp → Prop) : Prop :=
 someA a0 (fun p1 => ldI .i64 H0 (p1.add 1) (fun x3 => Q x3 H0))
theorem bits_Source_At.calls (a0 : Option Addr) (w0 : World) (Q : Int → Hp → Prop) (h : bits_Source_At.s a0 w0.heap Q) :
  Ca Try.prog 32 #[.pointer a0] w0 (Rt bits_Source_At.enc Q w0) := by
 refine ca_start (c := _) Try.func32 rfl Try.ntmps32 rfl ?_
 have so : Sm w0 w0 := Sm.refl w0
 unfold bits_Source_At.s at h
 refine wc_prune [(0, .pointer a0)] ⟨rfl, trivial⟩ (fun f1 => ?_)
 refine wc_seq (wc_region (wl_val (at_assign rfl) rfl (wl_nil (wk_prune [(0, .pointer a0)] ⟨rfl, trivial⟩ fun f1 => wk_then (wc_seq (wc_region (wl_val (at_move rfl) rfl ?_)))))))
 obtain ⟨p1, q2, h⟩ := h
 refine wl_val (at_nilCheck (congrArg Value.pointer q2)) rfl (wl_val (at_fieldAddr Try.underlying125 rfl rfl sz3 (by decide) rfl) rfl ?_)
 obtain ⟨x3, q4, h⟩ := h
 exact wl_val (at_load Try.underlying3 rfl rfl q4) rfl (wl_val (at_assign rfl) rfl (wl_nil (wk_prune [(2, .int .i64 x3)] ⟨rfl, trivial⟩ fun f1 => wk_then (wc_ret (wk_ret1 (x := x3) rfl (by decide) rfl so h)))))
end Go.Proofs.Ytmnoecpnoofdjaa.G
