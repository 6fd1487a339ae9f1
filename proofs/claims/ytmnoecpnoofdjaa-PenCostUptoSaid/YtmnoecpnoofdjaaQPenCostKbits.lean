/- Of this text what the row needs. -/
import Derived.Test.YtmnoecpnoofdjaaQPenCostKshelf
import Derived.Test.YtmnoecpnoofdjaaQPenCostKstrings
namespace Go.Proofs.Ytmnoecpnoofdjaa.G
open Go.RowKit
set_option linter.unusedVariables false
set_option linter.unusedSimpArgs false
def bits_New.enc : (Option Addr) → Value := fun r => .pointer r
def bits_New.s (H0 : Hp) (Q : (Option Addr) → Hp → Prop) : Prop :=
  Gn [] H0 (fun (b1 : Nat) (H2 : Hp) => Bk H2 b1 106 (c106 ⟨none, 0, 0⟩ 0 0) → (Q (some (⟨b1, 0, none⟩ : Addr)) H2))
set_option maxRecDepth 20000 in
set_option maxHeartbeats 4000000 in
theorem bits_New.calls (w0 : World) (Q : (Option Addr) → Hp → Prop) (h : bits_New.s w0.heap Q) :
    Ca Try.prog 15 #[] w0 (Rt bits_New.enc Q w0) := by
  refine ca_start (c := _) Try.func15 rfl Try.ntmps15 rfl ?_
  have so : Sm w0 w0 := Sm.refl w0
  unfold bits_New.s at h
  refine wc_prune [] trivial (fun f1 => ?_)
  refine wc_seq ?_
  refine wc_region ?_
  refine wl_val (at_assign rfl) rfl ?_
  refine wl_nil ?_
  refine wk_prune [] trivial (fun f1 => ?_)
  refine wk_then ?_
  refine wc_seq ?_
  refine wc_region ?_
  refine wl_val (at_build (cs := (c106 ⟨none, 0, 0⟩ 0 0)) (ps := []) rfl (fun w => by simp [Instr.build, Instr.fill, go_sem, Try.underlying106, z106] <;> rfl)) rfl ?_
  refine wl_newT (T := 106) (cs := (c106 ⟨none, 0, 0⟩ 0 0)) (ef_box rfl rfl) rfl so ?_; intro b1 w2 hb_b1 t_b1 k_b1 so
  have g_b1 := Nat.le_of_eq hb_b1.symm
  have hc := k_b1.ch (F := [])
  refine wl_val (at_assign rfl) rfl ?_
  refine wl_nil ?_
  refine wk_prune [(0, .pointer (some (⟨b1, 0, none⟩ : Addr)))] ⟨rfl, trivial⟩ (fun f1 => ?_)
  refine wk_then ?_
  refine wc_ret ?_
  replace h := h b1 _ hc g_b1 t_b1.lt; clear hc
  replace h := h t_b1
  exact wk_ret1 (x := (some (⟨b1, 0, none⟩ : Addr))) rfl (by decide) rfl so h
def bits_Sink_Put.enc : Bool → Value := fun r => .bool r
def bits_Sink_Put.s (a0 : Option Addr) (a1 : Int) (a2 : Int) (H0 : Hp) (Q : Bool → Hp → Prop) : Prop :=
  Join (fun (s2 : Bool) (H3 : Hp) => if s2 = true then (Q false H3) else (someA a0 (fun p5 => 0 ≤ a2 ∧ (ldI .u32 H3 (p5.add 1) (fun x8 => 0 ≤ a2 ∧ (st H3 (p5.add 1) (.int .u32 (Go.bits .or .u32 (shlI .u32 x8 a2) (Go.bits .and .u32 (IntKind.wrap .u32 a1) (IntKind.wrap .u32 ((shlI .u32 1 a2) - 1))))) (fun H11 => ldI .i64 H11 (p5.add 2) (fun x12 => st H11 (p5.add 2) (.int .i64 (IntKind.wrap .i64 (x12 + a2))) (fun H14 => ∃ k15, Fix (fun (rec20 : Unit → Hp → Prop) (s17 : Unit) (H18 : Hp) => ldI .i64 H18 (p5.add 2) (fun x21 => if decide ((8 : Int) ≤ x21) = true then (ldI .i64 H18 (p5.add 2) (fun x23 => st H18 (p5.add 2) (.int .i64 (IntKind.wrap .i64 (x23 - 8))) (fun H25 => ldL H25 (p5.add 0) (fun x27 => ldI .u32 H25 (p5.add 1) (fun x29 => ldI .i64 H25 (p5.add 2) (fun x31 => 0 ≤ x31 ∧ (nw H25 5 [.int .u8 (IntKind.wrap .u8 (shrI .u32 x29 x31))] (fun p34 H35 => cellAt H35 (p5.add 0) = some (.slice x27.a x27.n x27.c) ∧ (apS H35 x27 5 1 1 z5.cells 1 [.int .u8 (IntKind.wrap .u8 (shrI .u32 x29 x31))] (fun l40 H41 => st H41 (p5.add 0) (.slice l40.a l40.n l40.c) (fun H42 => ldI .u32 H42 (p5.add 1) (fun x44 => ldI .i64 H42 (p5.add 2) (fun x46 => 0 ≤ x46 ∧ (st H42 (p5.add 1) (.int .u32 (Go.bits .and .u32 x44 (IntKind.wrap .u32 ((shlI .u32 1 x46) - 1)))) (fun H49 => rec20 () H49))))))))))))))) else (Q true H18))) k15 () H14))))))))) (fun (J1 : Bool → Hp → Prop) => if decide (a2 < 0) = true then (J1 (true) H0) else (J1 ((decide ((16 : Int) < a2))) H0))
set_option maxRecDepth 20000 in
set_option maxHeartbeats 4000000 in
theorem bits_Sink_Put.calls (a0 : Option Addr) (a1 : Int) (a2 : Int) (w0 : World) (Q : Bool → Hp → Prop) (h : bits_Sink_Put.s a0 a1 a2 w0.heap Q) :
    Ca Try.prog 19 #[.pointer a0, .int .i64 a1, .int .i64 a2] w0 (Rt bits_Sink_Put.enc Q w0) := by
  refine ca_start (c := _) Try.func19 rfl Try.ntmps19 rfl ?_
  have so : Sm w0 w0 := Sm.refl w0
  unfold bits_Sink_Put.s at h
  refine wc_prune [(0, .pointer a0), (1, .int .i64 a1), (2, .int .i64 a2)] ⟨rfl, rfl, rfl, trivial⟩ (fun f1 => ?_)
  refine wc_seq ?_
  refine wc_region ?_
  refine wl_val (at_assign rfl) rfl ?_
  refine wl_nil ?_
  refine wk_prune [(0, .pointer a0), (1, .int .i64 a1), (2, .int .i64 a2)] ⟨rfl, rfl, rfl, trivial⟩ (fun f1 => ?_)
  refine wk_then ?_
  refine wc_seq ?_
  refine wc_seq ?_
  refine wc_join (w0 := w0) (fun (s2 : Bool) => [(0, .pointer a0), (1, .int .i64 a1), (2, .int .i64 a2), (12, .bool s2)]) h ?_ ?_
  · rintro s2 w3 f1 h so; refine wk_then ?_
    refine wc_cond rfl h (fun h => ?_) (fun h => ?_)
    · refine wc_seq ?_
      refine wc_region ?_
      refine wl_val (at_assign rfl) rfl ?_
      refine wl_nil ?_
      refine wk_prune [(6, .bool false)] ⟨rfl, trivial⟩ (fun f1 => ?_)
      refine wk_then ?_
      refine wc_ret ?_
      refine wk_thenR ?_
      exact wk_ret1 (x := false) rfl (by decide) rfl so h
    · refine wc_skip ?_
      refine wk_prune [(0, .pointer a0), (1, .int .i64 a1), (2, .int .i64 a2)] ⟨rfl, rfl, rfl, trivial⟩ (fun f1 => ?_)
      refine wk_then ?_
      refine wc_seq ?_
      refine wc_wo [0, 0, 2, 6, 14, 0, 62, 0, 128, 0, 512, 1536, 3968, 8190, 16383, 32767, 65535] mixed (by kernel_rfl) so ?_; intro w4 hw so; rw [← hw] at h; clear hw
      refine wo_pure (m' := 1) 0 rfl (by kernel_rfl) rfl rfl (fun H => at_move rfl) ?_
      refine wo_pure (m' := 3) 1 rfl (by kernel_rfl) rfl rfl (fun H => at_move rfl) ?_
      obtain ⟨p5, q6, h⟩ := h
      refine wo_pure (m' := 7) 2 rfl (by kernel_rfl) rfl rfl (fun H => at_nilCheck (congrArg Value.pointer q6)) ?_
      refine wo_pure (m' := 15) 3 rfl (by kernel_rfl) rfl rfl (fun H => at_fieldAddr Try.underlying106 rfl rfl sz104 (by decide) rfl) ?_
      refine wo_pure (m' := 47) 5 rfl (by kernel_rfl) rfl rfl (fun H => at_move rfl) ?_
      refine wo_pure (m' := 175) 7 rfl (by kernel_rfl) rfl rfl (fun H => at_move rfl) ?_
      refine wo_pure (m' := 431) 8 rfl (by kernel_rfl) rfl rfl (fun H => at_conv Try.underlying3 Try.underlying104 rfl) ?_
      refine wo_pure (m' := 943) 9 rfl (by kernel_rfl) rfl rfl (fun H => at_move rfl) ?_
      obtain ⟨q7, h⟩ := h
      refine wo_pure (m' := 1967) 10 rfl (by kernel_rfl) rfl rfl (fun H => at_shl rfl rfl q7) ?_
      refine wo_pure (m' := 4015) 11 rfl (by kernel_rfl) rfl rfl (fun H => at_sub rfl rfl) ?_
      refine wo_pure (m' := 8111) 12 rfl (by kernel_rfl) rfl rfl (fun H => at_and rfl rfl) ?_
      obtain ⟨x8, q9, h⟩ := h
      refine wo_load (m' := 8127) 4 (fun H => cellAt H (p5.add 1) = some (.int .u32 x8)) rfl (by kernel_rfl) rfl rfl (fun H q9 => at_load Try.underlying104 rfl rfl q9) q9 ?_
      obtain ⟨q10, h⟩ := h
      refine wo_pure (m' := 8191) 6 rfl (by kernel_rfl) rfl rfl (fun H => at_shl rfl rfl q10) ?_
      refine wo_pure (m' := 16383) 13 rfl (by kernel_rfl) rfl rfl (fun H => at_or rfl rfl) ?_
      refine wo_pure (m' := 32767) 14 rfl (by kernel_rfl) rfl rfl (fun H => at_nilCheck (congrArg Value.pointer q6)) ?_
      refine wo_pure (m' := 65535) 15 rfl (by kernel_rfl) rfl rfl (fun H => at_fieldAddr Try.underlying106 rfl rfl sz104 (by decide) rfl) ?_
      refine wo_take (m' := 131071) 16 [true] rfl (by kernel_rfl) rfl (by kernel_rfl) ?_
      refine wl_st (v := .int .u32 (Go.bits .or .u32 (shlI .u32 x8 a2) (Go.bits .and .u32 (IntKind.wrap .u32 a1) (IntKind.wrap .u32 ((shlI .u32 1 a2) - 1))))) h rfl so (fun q1 q2 => ef_store (sz := sz104) rfl rfl rfl q1 q2) ?_; intro w11 h so
      refine wl_nil ?_
      refine wk_tq trivial ?_
      refine wo_done (by kernel_rfl) ?_
      refine wk_prune [(0, .pointer a0), (2, .int .i64 a2)] ⟨rfl, rfl, trivial⟩ (fun f1 => ?_)
      refine wk_then ?_
      refine wc_seq ?_
      refine wc_region ?_
      refine wl_val (at_move rfl) rfl ?_
      refine wl_val (at_nilCheck (congrArg Value.pointer q6)) rfl ?_
      refine wl_val (at_fieldAddr Try.underlying106 rfl rfl sz3 (by decide) rfl) rfl ?_
      obtain ⟨x12, q13, h⟩ := h
      refine wl_val (at_load Try.underlying3 rfl rfl q13) rfl ?_
      refine wl_val (at_move rfl) rfl ?_
      refine wl_val (at_add rfl rfl) rfl ?_
      refine wl_val (at_nilCheck (congrArg Value.pointer q6)) rfl ?_
      refine wl_val (at_fieldAddr Try.underlying106 rfl rfl sz3 (by decide) rfl) rfl ?_
      refine wl_st (v := .int .i64 (IntKind.wrap .i64 (x12 + a2))) h rfl so (fun q1 q2 => ef_store (sz := sz3) rfl rfl rfl q1 q2) ?_; intro w14 h so
      refine wl_nil ?_
      refine wk_prune [(0, .pointer a0)] ⟨rfl, trivial⟩ (fun f1 => ?_)
      refine wk_then ?_
      refine wc_seq ?_
      refine wc_block ?_
      obtain ⟨k15, h⟩ := h
      refine wc_loop (fun k a w => ∃ (s17 : Unit) (f1 : Nat → Value), a = ac 81 (en f1 [(0, .pointer a0)]) [] ∧ Sm w0 w ∧ Fix _ k s17 w.heap) k15 ⟨(), _, ac_again ⟨rfl, trivial⟩, so, h⟩ ?_
      rintro k16 a19 w18 ⟨s17, f1, rfl, so, h⟩
      rcases k16 with _ | k16
      · exact h.elim
      replace h := Fix.un h; refine wc_in ?_
      refine wc_seq ?_
      refine wc_seq ?_
      refine wc_region ?_
      refine wl_val (at_move rfl) rfl ?_
      refine wl_val (at_nilCheck (congrArg Value.pointer q6)) rfl ?_
      refine wl_val (at_fieldAddr Try.underlying106 rfl rfl sz3 (by decide) rfl) rfl ?_
      obtain ⟨x21, q22, h⟩ := h
      refine wl_val (at_load Try.underlying3 rfl rfl q22) rfl ?_
      refine wl_val (at_geq rfl rfl) rfl ?_
      refine wl_nil ?_
      refine wk_prune [(0, .pointer a0), (41, .bool (decide ((8 : Int) ≤ x21)))] ⟨rfl, rfl, trivial⟩ (fun f1 => ?_)
      refine wk_then ?_
      refine wc_cond rfl h (fun h => ?_) (fun h => ?_)
      · refine wc_skip ?_
        refine wk_prune [(0, .pointer a0)] ⟨rfl, trivial⟩ (fun f1 => ?_)
        refine wk_then ?_
        refine wc_block ?_
        refine wc_seq ?_
        refine wc_region ?_
        refine wl_val (at_move rfl) rfl ?_
        refine wl_val (at_nilCheck (congrArg Value.pointer q6)) rfl ?_
        refine wl_val (at_fieldAddr Try.underlying106 rfl rfl sz3 (by decide) rfl) rfl ?_
        obtain ⟨x23, q24, h⟩ := h
        refine wl_val (at_load Try.underlying3 rfl rfl q24) rfl ?_
        refine wl_val (at_sub rfl rfl) rfl ?_
        refine wl_val (at_nilCheck (congrArg Value.pointer q6)) rfl ?_
        refine wl_val (at_fieldAddr Try.underlying106 rfl rfl sz3 (by decide) rfl) rfl ?_
        refine wl_st (v := .int .i64 (IntKind.wrap .i64 (x23 - 8))) h rfl so (fun q1 q2 => ef_store (sz := sz3) rfl rfl rfl q1 q2) ?_; intro w25 h so
        refine wl_nil ?_
        refine wk_prune [(0, .pointer a0)] ⟨rfl, trivial⟩ (fun f1 => ?_)
        refine wk_then ?_
        refine wc_seq ?_
        refine wc_wo [0, 0, 2, 6, 14, 0, 32, 96, 224, 0, 512, 1536, 3584, 8160, 16352, 32736, 65534, 131071, 262143, 524287] mixed (by kernel_rfl) so ?_; intro w26 hw so; rw [← hw] at h; clear hw
        refine wo_pure (m' := 1) 0 rfl (by kernel_rfl) rfl rfl (fun H => at_move rfl) ?_
        refine wo_pure (m' := 3) 1 rfl (by kernel_rfl) rfl rfl (fun H => at_move rfl) ?_
        refine wo_pure (m' := 7) 2 rfl (by kernel_rfl) rfl rfl (fun H => at_nilCheck (congrArg Value.pointer q6)) ?_
        refine wo_pure (m' := 15) 3 rfl (by kernel_rfl) rfl rfl (fun H => at_fieldAddr Try.underlying106 rfl rfl sz27 (by decide) rfl) ?_
        refine wo_pure (m' := 47) 5 rfl (by kernel_rfl) rfl rfl (fun H => at_move rfl) ?_
        refine wo_pure (m' := 111) 6 rfl (by kernel_rfl) rfl rfl (fun H => at_nilCheck (congrArg Value.pointer q6)) ?_
        refine wo_pure (m' := 239) 7 rfl (by kernel_rfl) rfl rfl (fun H => at_fieldAddr Try.underlying106 rfl rfl sz104 (by decide) rfl) ?_
        refine wo_pure (m' := 751) 9 rfl (by kernel_rfl) rfl rfl (fun H => at_move rfl) ?_
        refine wo_pure (m' := 1775) 10 rfl (by kernel_rfl) rfl rfl (fun H => at_nilCheck (congrArg Value.pointer q6)) ?_
        refine wo_pure (m' := 3823) 11 rfl (by kernel_rfl) rfl rfl (fun H => at_fieldAddr Try.underlying106 rfl rfl sz3 (by decide) rfl) ?_
        obtain ⟨x27, q28, h⟩ := h
        refine wo_load (m' := 3839) 4 (fun H => cellAt H (p5.add 0) = some (.slice x27.a x27.n x27.c)) rfl (by kernel_rfl) rfl rfl (fun H q28 => at_load Try.underlying27 rfl rfl q28) q28 ?_
        obtain ⟨x29, q30, h⟩ := h
        refine wo_load (m' := 4095) 8 (fun H => cellAt H (p5.add 1) = some (.int .u32 x29)) rfl (by kernel_rfl) rfl rfl (fun H q30 => at_load Try.underlying104 rfl rfl q30) q30 ?_
        obtain ⟨x31, q32, h⟩ := h
        refine wo_load (m' := 8191) 12 (fun H => cellAt H (p5.add 2) = some (.int .i64 x31)) rfl (by kernel_rfl) rfl rfl (fun H q32 => at_load Try.underlying3 rfl rfl q32) q32 ?_
        obtain ⟨q33, h⟩ := h
        refine wo_pure (m' := 16383) 13 rfl (by kernel_rfl) rfl rfl (fun H => at_shr rfl rfl q33) ?_
        refine wo_pure (m' := 32767) 14 rfl (by kernel_rfl) rfl rfl (fun H => at_conv Try.underlying104 Try.underlying5 rfl) ?_
        refine wo_take (m' := 65535) 15 [true, true, false] rfl (by kernel_rfl) rfl (by kernel_rfl) ?_
        obtain ⟨i37, i37a, i37b, i37c, i37d⟩ := info5
        refine wl_newS (ef_buildSlice (cs := [.int .u8 (IntKind.wrap .u8 (shrI .u32 x29 x31))]) (ps := [(0, .int .u8 (IntKind.wrap .u8 (shrI .u32 x29 x31)))]) Try.underlying27 i37a i37b rfl (by rw [i37c]; decide) (by rw [i37c]; exact fill_full (vs := [.int .u8 (IntKind.wrap .u8 (shrI .u32 x29 x31))]) rfl (by simp [Value.cells]) (by simp [Value.cells]) rfl (by simp))) rfl so (ones_cons rfl ones_nil) h ?_; intro p34 w35 h r36 so
        refine wl_nil ?_
        obtain ⟨q38, h⟩ := h
        refine wk_tq ⟨q38, trivial⟩ ?_
        refine wo_take (m' := 131071) 16 [true] rfl (by kernel_rfl) rfl (by kernel_rfl) ?_
        obtain ⟨i39, i39a, i39b, i39c, i39d⟩ := info5
        refine wl_ap (fx_append (s := x27) (t := ⟨(some p34), 1, 1⟩) (m := 1) (xs := [.int .u8 (IntKind.wrap .u8 (shrI .u32 x29 x31))]) Try.underlying27 Try.underlying27 i39a i39b i39c i39d rfl rfl rfl (by first | rfl | simp) r36 h) rfl so ?_; intro l40 w41 h so
        refine wl_nil ?_
        refine wk_tq trivial ?_
        refine wo_pure (m' := 262143) 17 rfl (by kernel_rfl) rfl rfl (fun H => at_nilCheck (congrArg Value.pointer q6)) ?_
        refine wo_pure (m' := 524287) 18 rfl (by kernel_rfl) rfl rfl (fun H => at_fieldAddr Try.underlying106 rfl rfl sz27 (by decide) rfl) ?_
        refine wo_take (m' := 1048575) 19 [] rfl (by kernel_rfl) rfl (by kernel_rfl) ?_
        refine wl_st (v := .slice l40.a l40.n l40.c) h rfl so (fun q1 q2 => ef_store (sz := sz27) rfl rfl rfl q1 q2) ?_; intro w42 h so
        refine wl_nil ?_
        refine wk_tq trivial ?_
        refine wo_done (by kernel_rfl) ?_
        refine wk_prune [(0, .pointer a0)] ⟨rfl, trivial⟩ (fun f1 => ?_)
        refine wk_then ?_
        refine wc_wo [0, 1, 3, 7, 0, 16, 48, 112, 240, 496, 1023, 2047, 4095, 8191] mixed (by kernel_rfl) so ?_; intro w43 hw so; rw [← hw] at h; clear hw
        refine wo_pure (m' := 1) 0 rfl (by kernel_rfl) rfl rfl (fun H => at_move rfl) ?_
        refine wo_pure (m' := 3) 1 rfl (by kernel_rfl) rfl rfl (fun H => at_nilCheck (congrArg Value.pointer q6)) ?_
        refine wo_pure (m' := 7) 2 rfl (by kernel_rfl) rfl rfl (fun H => at_fieldAddr Try.underlying106 rfl rfl sz104 (by decide) rfl) ?_
        refine wo_pure (m' := 23) 4 rfl (by kernel_rfl) rfl rfl (fun H => at_move rfl) ?_
        refine wo_pure (m' := 55) 5 rfl (by kernel_rfl) rfl rfl (fun H => at_nilCheck (congrArg Value.pointer q6)) ?_
        refine wo_pure (m' := 119) 6 rfl (by kernel_rfl) rfl rfl (fun H => at_fieldAddr Try.underlying106 rfl rfl sz3 (by decide) rfl) ?_
        obtain ⟨x44, q45, h⟩ := h
        refine wo_load (m' := 127) 3 (fun H => cellAt H (p5.add 1) = some (.int .u32 x44)) rfl (by kernel_rfl) rfl rfl (fun H q45 => at_load Try.underlying104 rfl rfl q45) q45 ?_
        obtain ⟨x46, q47, h⟩ := h
        refine wo_load (m' := 255) 7 (fun H => cellAt H (p5.add 2) = some (.int .i64 x46)) rfl (by kernel_rfl) rfl rfl (fun H q47 => at_load Try.underlying3 rfl rfl q47) q47 ?_
        obtain ⟨q48, h⟩ := h
        refine wo_pure (m' := 511) 8 rfl (by kernel_rfl) rfl rfl (fun H => at_shl rfl rfl q48) ?_
        refine wo_pure (m' := 1023) 9 rfl (by kernel_rfl) rfl rfl (fun H => at_sub rfl rfl) ?_
        refine wo_pure (m' := 2047) 10 rfl (by kernel_rfl) rfl rfl (fun H => at_and rfl rfl) ?_
        refine wo_pure (m' := 4095) 11 rfl (by kernel_rfl) rfl rfl (fun H => at_nilCheck (congrArg Value.pointer q6)) ?_
        refine wo_pure (m' := 8191) 12 rfl (by kernel_rfl) rfl rfl (fun H => at_fieldAddr Try.underlying106 rfl rfl sz104 (by decide) rfl) ?_
        refine wo_take (m' := 16383) 13 [true, true] rfl (by kernel_rfl) rfl (by kernel_rfl) ?_
        refine wl_st (v := .int .u32 (Go.bits .and .u32 x44 (IntKind.wrap .u32 ((shlI .u32 1 x46) - 1)))) h rfl so (fun q1 q2 => ef_store (sz := sz104) rfl rfl rfl q1 q2) ?_; intro w49 h so
        refine wl_nil ?_
        refine wk_tq trivial ?_
        refine wo_done (by kernel_rfl) ?_
        refine wk_blkN ?_
        exact wk_again ⟨(), _, ac_again ⟨rfl, trivial⟩, so, h⟩
      · refine wc_exit ?_
        refine wk_thenE ?_
        refine wk_thenE ?_
        refine wk_blkE ?_
        refine wk_prune [] trivial (fun f1 => ?_)
        refine wk_then ?_
        refine wc_seq ?_
        refine wc_region ?_
        refine wl_val (at_assign rfl) rfl ?_
        refine wl_nil ?_
        refine wk_prune [(6, .bool true)] ⟨rfl, trivial⟩ (fun f1 => ?_)
        refine wk_then ?_
        refine wc_ret ?_
        exact wk_ret1 (x := true) rfl (by decide) rfl so h
  · intro J1 h hJ1
    refine wc_region ?_
    refine wl_val (at_move rfl) rfl ?_
    refine wl_val (at_lss rfl rfl) rfl ?_
    refine wl_val (at_move rfl) rfl ?_
    refine bif_ h (fun hb h => ?_) (fun hb h => ?_)
    · refine wl_set (t := 9) (v := .bool true) (congrArg Value.bool hb) ?_; clear hb
      refine wl_off (t := 9) rfl (by decide) rfl ?_
      refine wl_off (t := 9) rfl (by decide) rfl ?_
      refine wl_val (at_pick_t rfl rfl) rfl ?_
      refine wl_nil ?_
      exact wk_prune [(0, .pointer a0), (1, .int .i64 a1), (2, .int .i64 a2), (12, .bool true)] ⟨rfl, rfl, rfl, rfl, trivial⟩ (fun f1 => hJ1 (true) _ f1 h so)
    · refine wl_set (t := 9) (v := .bool false) (congrArg Value.bool hb) ?_; clear hb
      refine wl_on (t := 9) rfl (by decide) rfl ?_
      refine wl_val (at_move rfl) rfl ?_
      refine wl_on (t := 9) rfl (by decide) rfl ?_
      refine wl_val (at_gtr rfl rfl) rfl ?_
      refine wl_val (at_pick_f rfl rfl) rfl ?_
      refine wl_nil ?_
      exact wk_prune [(0, .pointer a0), (1, .int .i64 a1), (2, .int .i64 a2), (12, .bool (decide ((16 : Int) < a2)))] ⟨rfl, rfl, rfl, rfl, trivial⟩ (fun f1 => hJ1 ((decide ((16 : Int) < a2))) _ f1 h so)
def bits_Len64.enc : Int → Value := fun r => .int .i64 r
def bits_Len64.s (a0 : Int) (H0 : Hp) (Q : Int → Hp → Prop) : Prop :=
  Join (fun (s2 : Int × Int) (H3 : Hp) => Join (fun (s5 : Int × Int) (H6 : Hp) => Join (fun (s8 : Int × Int) (H9 : Hp) => 0 ≤ (IntKind.wrap .u8 s8.1) ∧ (IntKind.wrap .u8 s8.1) < (strb4f36e89.size : Int) ∧ (Lt ((IntKind.wrap .i64 (s8.2 + (IntKind.wrap .i64 (bt strb4f36e89 (IntKind.wrap .u8 s8.1))))) : Int) (fun x12 => Q x12 H9))) (fun (J7 : (Int × Int) → Hp → Prop) => if decide ((256 : Int) ≤ s5.1) = true then (J7 ((shrI .u64 s5.1 8), (IntKind.wrap .i64 (s5.2 + 8))) H6) else (J7 (s5.1, s5.2) H6))) (fun (J4 : (Int × Int) → Hp → Prop) => if decide ((65536 : Int) ≤ s2.1) = true then (J4 ((shrI .u64 s2.1 16), (IntKind.wrap .i64 (s2.2 + 16))) H3) else (J4 (s2.1, s2.2) H3))) (fun (J1 : (Int × Int) → Hp → Prop) => if decide ((4294967296 : Int) ≤ a0) = true then (J1 ((shrI .u64 a0 32), 32) H0) else (J1 (a0, 0) H0))
set_option maxRecDepth 20000 in
set_option maxHeartbeats 4000000 in
theorem bits_Len64.calls (a0 : Int) (w0 : World) (Q : Int → Hp → Prop) (h : bits_Len64.s a0 w0.heap Q) :
    Ca Try.prog 72 #[.int .u64 a0] w0 (Rt bits_Len64.enc Q w0) := by
  refine ca_start (c := _) Try.func72 rfl Try.ntmps72 rfl ?_
  have so : Sm w0 w0 := Sm.refl w0
  unfold bits_Len64.s at h
  refine wc_prune [(0, .int .u64 a0)] ⟨rfl, trivial⟩ (fun f1 => ?_)
  refine wc_seq ?_
  refine wc_region ?_
  refine wl_val (at_assign rfl) rfl ?_
  refine wl_nil ?_
  refine wk_prune [(0, .int .u64 a0), (2, .int .i64 0)] ⟨rfl, rfl, trivial⟩ (fun f1 => ?_)
  refine wk_then ?_
  refine wc_seq ?_
  refine wc_join (w0 := w0) (fun (s2 : Int × Int) => [(0, .int .u64 s2.1), (2, .int .i64 s2.2)]) h ?_ ?_
  · rintro s2 w3 f1 h so; refine wk_then ?_
    refine wc_seq ?_
    refine wc_join (w0 := w0) (fun (s5 : Int × Int) => [(0, .int .u64 s5.1), (2, .int .i64 s5.2)]) h ?_ ?_
    · rintro s5 w6 f1 h so; refine wk_then ?_
      refine wc_seq ?_
      refine wc_join (w0 := w0) (fun (s8 : Int × Int) => [(0, .int .u64 s8.1), (2, .int .i64 s8.2)]) h ?_ ?_
      · rintro s8 w9 f1 h so; refine wk_then ?_
        refine wc_seq ?_
        refine wc_region ?_
        refine wl_val (at_move rfl) rfl ?_
        refine wl_val (at_move rfl) rfl ?_
        refine wl_val (at_conv Try.underlying154 Try.underlying5 rfl) rfl ?_
        obtain ⟨q10, q11, h⟩ := h
        refine wl_val (at_ixS Try.underlying9 rfl rfl q10 q11) rfl ?_
        refine wl_val (at_conv Try.underlying5 Try.underlying3 rfl) rfl ?_
        refine wl_val (at_add rfl rfl) rfl ?_
        refine wl_val (at_assign rfl) rfl ?_
        obtain ⟨x12, e13⟩ : ∃ x : Int, x = (IntKind.wrap .i64 (s8.2 + (IntKind.wrap .i64 (bt strb4f36e89 (IntKind.wrap .u8 s8.1))))) := ⟨_, rfl⟩; replace h := h x12 e13
        refine wl_set (t := 2) (v := .int .i64 x12) (congrArg (Value.int .i64) e13.symm) ?_
        refine wl_nil ?_
        refine wk_prune [(2, .int .i64 x12)] ⟨rfl, trivial⟩ (fun f1 => ?_)
        refine wk_then ?_
        refine wc_ret ?_
        exact wk_ret1 (x := x12) rfl (by decide) rfl so h
      · intro J7 h hJ7
        refine wc_seq ?_
        refine wc_region ?_
        refine wl_val (at_move rfl) rfl ?_
        refine wl_val (at_geq rfl rfl) rfl ?_
        refine wl_nil ?_
        refine wk_prune [(0, .int .u64 s5.1), (2, .int .i64 s5.2), (14, .bool (decide ((256 : Int) ≤ s5.1)))] ⟨rfl, rfl, rfl, trivial⟩ (fun f1 => ?_)
        refine wk_then ?_
        refine wc_cond rfl h (fun h => ?_) (fun h => ?_)
        · refine wc_seq ?_
          refine wc_region ?_
          refine wl_val (at_move rfl) rfl ?_
          refine wl_val (at_shr rfl rfl (by decide)) rfl ?_
          refine wl_val (at_assign rfl) rfl ?_
          refine wl_nil ?_
          refine wk_prune [(0, .int .u64 (shrI .u64 s5.1 8)), (2, .int .i64 s5.2)] ⟨rfl, rfl, trivial⟩ (fun f1 => ?_)
          refine wk_then ?_
          refine wc_region ?_
          refine wl_val (at_move rfl) rfl ?_
          refine wl_val (at_add rfl rfl) rfl ?_
          refine wl_val (at_assign rfl) rfl ?_
          refine wl_nil ?_
          exact wk_prune [(0, .int .u64 (shrI .u64 s5.1 8)), (2, .int .i64 (IntKind.wrap .i64 (s5.2 + 8)))] ⟨rfl, rfl, trivial⟩ (fun f1 => hJ7 ((shrI .u64 s5.1 8), (IntKind.wrap .i64 (s5.2 + 8))) _ f1 h so)
        · refine wc_skip ?_
          exact wk_prune [(0, .int .u64 s5.1), (2, .int .i64 s5.2)] ⟨rfl, rfl, trivial⟩ (fun f1 => hJ7 (s5.1, s5.2) _ f1 h so)
    · intro J4 h hJ4
      refine wc_seq ?_
      refine wc_region ?_
      refine wl_val (at_move rfl) rfl ?_
      refine wl_val (at_geq rfl rfl) rfl ?_
      refine wl_nil ?_
      refine wk_prune [(0, .int .u64 s2.1), (2, .int .i64 s2.2), (8, .bool (decide ((65536 : Int) ≤ s2.1)))] ⟨rfl, rfl, rfl, trivial⟩ (fun f1 => ?_)
      refine wk_then ?_
      refine wc_cond rfl h (fun h => ?_) (fun h => ?_)
      · refine wc_seq ?_
        refine wc_region ?_
        refine wl_val (at_move rfl) rfl ?_
        refine wl_val (at_shr rfl rfl (by decide)) rfl ?_
        refine wl_val (at_assign rfl) rfl ?_
        refine wl_nil ?_
        refine wk_prune [(0, .int .u64 (shrI .u64 s2.1 16)), (2, .int .i64 s2.2)] ⟨rfl, rfl, trivial⟩ (fun f1 => ?_)
        refine wk_then ?_
        refine wc_region ?_
        refine wl_val (at_move rfl) rfl ?_
        refine wl_val (at_add rfl rfl) rfl ?_
        refine wl_val (at_assign rfl) rfl ?_
        refine wl_nil ?_
        exact wk_prune [(0, .int .u64 (shrI .u64 s2.1 16)), (2, .int .i64 (IntKind.wrap .i64 (s2.2 + 16)))] ⟨rfl, rfl, trivial⟩ (fun f1 => hJ4 ((shrI .u64 s2.1 16), (IntKind.wrap .i64 (s2.2 + 16))) _ f1 h so)
      · refine wc_skip ?_
        exact wk_prune [(0, .int .u64 s2.1), (2, .int .i64 s2.2)] ⟨rfl, rfl, trivial⟩ (fun f1 => hJ4 (s2.1, s2.2) _ f1 h so)
  · intro J1 h hJ1
    refine wc_seq ?_
    refine wc_region ?_
    refine wl_val (at_move rfl) rfl ?_
    refine wl_val (at_geq rfl rfl) rfl ?_
    refine wl_nil ?_
    refine wk_prune [(0, .int .u64 a0), (2, .int .i64 0), (4, .bool (decide ((4294967296 : Int) ≤ a0)))] ⟨rfl, rfl, rfl, trivial⟩ (fun f1 => ?_)
    refine wk_then ?_
    refine wc_cond rfl h (fun h => ?_) (fun h => ?_)
    · refine wc_seq ?_
      refine wc_region ?_
      refine wl_val (at_move rfl) rfl ?_
      refine wl_val (at_shr rfl rfl (by decide)) rfl ?_
      refine wl_val (at_assign rfl) rfl ?_
      refine wl_nil ?_
      refine wk_prune [(0, .int .u64 (shrI .u64 a0 32))] ⟨rfl, trivial⟩ (fun f1 => ?_)
      refine wk_then ?_
      refine wc_region ?_
      refine wl_val (at_assign rfl) rfl ?_
      refine wl_nil ?_
      exact wk_prune [(0, .int .u64 (shrI .u64 a0 32)), (2, .int .i64 32)] ⟨rfl, rfl, trivial⟩ (fun f1 => hJ1 ((shrI .u64 a0 32), 32) _ f1 h so)
    · refine wc_skip ?_
      exact wk_prune [(0, .int .u64 a0), (2, .int .i64 0)] ⟨rfl, rfl, trivial⟩ (fun f1 => hJ1 (a0, 0) _ f1 h so)
def bits_Sink_Pad.enc : Unit → Value := fun _ => .tuple #[]
def bits_Sink_Pad.s (a0 : Option Addr) (H0 : Hp) (Q : Unit → Hp → Prop) : Prop :=
  someA a0 (fun p1 => ldI .i64 H0 (p1.add 2) (fun x3 => if decide ((0 : Int) < x3) = true then (ldI .i64 H0 (p1.add 2) (fun x5 => bits_Sink_Put.s a0 (-1) (IntKind.wrap .i64 ((8 : Int) - x5)) H0 (fun x7 H8 => Q () H8))) else (Q () H0)))
set_option maxRecDepth 20000 in
set_option maxHeartbeats 4000000 in
theorem bits_Sink_Pad.calls (a0 : Option Addr) (w0 : World) (Q : Unit → Hp → Prop) (h : bits_Sink_Pad.s a0 w0.heap Q) :
    Ca Try.prog 20 #[.pointer a0] w0 (Rt bits_Sink_Pad.enc Q w0) := by
  refine ca_start (c := _) Try.func20 rfl Try.ntmps20 rfl ?_
  have so : Sm w0 w0 := Sm.refl w0
  unfold bits_Sink_Pad.s at h
  refine wc_prune [(0, .pointer a0)] ⟨rfl, trivial⟩ (fun f1 => ?_)
  refine wc_seq ?_
  refine wc_region ?_
  refine wl_val (at_move rfl) rfl ?_
  obtain ⟨p1, q2, h⟩ := h
  refine wl_val (at_nilCheck (congrArg Value.pointer q2)) rfl ?_
  refine wl_val (at_fieldAddr Try.underlying106 rfl rfl sz3 (by decide) rfl) rfl ?_
  obtain ⟨x3, q4, h⟩ := h
  refine wl_val (at_load Try.underlying3 rfl rfl q4) rfl ?_
  refine wl_val (at_gtr rfl rfl) rfl ?_
  refine wl_nil ?_
  refine wk_prune [(0, .pointer a0), (6, .bool (decide ((0 : Int) < x3)))] ⟨rfl, rfl, trivial⟩ (fun f1 => ?_)
  refine wk_then ?_
  refine wc_cond rfl h (fun h => ?_) (fun h => ?_)
  · refine wc_region ?_
    refine wl_val (at_move rfl) rfl ?_
    refine wl_val (at_move rfl) rfl ?_
    refine wl_val (at_nilCheck (congrArg Value.pointer q2)) rfl ?_
    refine wl_val (at_fieldAddr Try.underlying106 rfl rfl sz3 (by decide) rfl) rfl ?_
    obtain ⟨x5, q6, h⟩ := h
    refine wl_val (at_load Try.underlying3 rfl rfl q6) rfl ?_
    refine wl_val (at_sub rfl rfl) rfl ?_
    refine wl_callF (bits_Sink_Put.calls _ _ _ _ _ h) enter19 rfl trivial so ?_; intro x7 w8 h so
    refine wl_nil ?_
    exact wk_ret0n (x := ()) rfl rfl so h
  · refine wc_skip ?_
    exact wk_ret0n (x := ()) rfl rfl so h
def bits_Sink_Text.enc : ByteArray → Value := fun r => .string r
def bits_Sink_Text.s (a0 : Option Addr) (H0 : Hp) (Q : ByteArray → Hp → Prop) : Prop :=
  Gn [] H0 (fun (b1 : Nat) (H2 : Hp) => someA a0 (fun p3 => ldL H2 (p3.add 0) (fun x5 => Bk H2 b1 117 (c117 none ⟨none, 0, 0⟩) → (∃ k7, Fix (fun (rec12 : Int → Hp → Prop) (s9 : Int) (H10 : Hp) => if decide (s9 < (x5.n : Int)) = true then (Join (fun (s14 : Unit) (H15 : Hp) => rec12 ((IntKind.wrap .i64 (s9 + 1))) H15) (fun (J13 : Unit → Hp → Prop) => 0 ≤ s9 ∧ s9 < (x5.n : Int) ∧ someA x5.a (fun p18 => ldI .u8 H10 (p18.add (Int.toNat s9 * 1)) (fun x20 => strings_Builder_WriteByte.s (some (⟨b1, 0, none⟩ : Addr)) x20 H10 (fun x22 H23 => if (x20 == 255) = true then (strings_Builder_WriteByte.s (some (⟨b1, 0, none⟩ : Addr)) 0 H23 (fun x24 H25 => J13 () H25)) else (J13 () H23)))))) else (strings_Builder_String.s (some (⟨b1, 0, none⟩ : Addr)) H10 (fun x26 H27 => Q x26 H27))) k7 (0) H2))))
set_option maxRecDepth 20000 in
set_option maxHeartbeats 4000000 in
theorem bits_Sink_Text.calls (a0 : Option Addr) (w0 : World) (Q : ByteArray → Hp → Prop) (h : bits_Sink_Text.s a0 w0.heap Q) :
    Ca Try.prog 21 #[.pointer a0] w0 (Rt bits_Sink_Text.enc Q w0) := by
  refine ca_start (c := _) Try.func21 rfl Try.ntmps21 rfl ?_
  have so : Sm w0 w0 := Sm.refl w0
  unfold bits_Sink_Text.s at h
  refine wc_prune [(0, .pointer a0)] ⟨rfl, trivial⟩ (fun f1 => ?_)
  refine wc_seq ?_
  refine wc_region ?_
  refine wl_val (at_assign rfl) rfl ?_
  refine wl_nil ?_
  refine wk_prune [(0, .pointer a0)] ⟨rfl, trivial⟩ (fun f1 => ?_)
  refine wk_then ?_
  refine wc_seq ?_
  refine wc_region ?_
  refine wl_newT (T := 117) (cs := (c117 none ⟨none, 0, 0⟩)) (ef_alloc zero117 rfl) rfl so ?_; intro b1 w2 hb_b1 t_b1 k_b1 so
  have g_b1 := Nat.le_of_eq hb_b1.symm
  have hc := k_b1.ch (F := [])
  refine wl_nil ?_
  refine wk_prune [(0, .pointer a0), (3, .pointer (some (⟨b1, 0, none⟩ : Addr)))] ⟨rfl, rfl, trivial⟩ (fun f1 => ?_)
  refine wk_then ?_
  refine wc_seq ?_
  refine wc_seq ?_
  refine wc_region ?_
  refine wl_val (at_move rfl) rfl ?_
  replace h := h b1 _ hc g_b1 t_b1.lt; clear hc
  obtain ⟨p3, q4, h⟩ := h
  refine wl_val (at_nilCheck (congrArg Value.pointer q4)) rfl ?_
  refine wl_val (at_fieldAddr Try.underlying106 rfl rfl sz27 (by decide) rfl) rfl ?_
  obtain ⟨x5, q6, h⟩ := h
  refine wl_val (at_load Try.underlying27 rfl rfl q6) rfl ?_
  refine wl_val (at_lenL Try.underlying27 rfl) rfl ?_
  refine wl_val (at_move rfl) rfl ?_
  refine wl_nil ?_
  refine wk_prune [(3, .pointer (some (⟨b1, 0, none⟩ : Addr))), (9, .slice x5.a x5.n x5.c), (10, .int .i64 (x5.n : Int)), (11, .int .i64 0)] ⟨rfl, rfl, rfl, rfl, trivial⟩ (fun f1 => ?_)
  refine wk_then ?_
  refine wc_block ?_
  replace h := h t_b1
  obtain ⟨k7, h⟩ := h
  refine wc_loop (fun k a w => ∃ (s9 : Int) (f1 : Nat → Value), a = ac 22 (en f1 [(3, .pointer (some (⟨b1, 0, none⟩ : Addr))), (9, .slice x5.a x5.n x5.c), (10, .int .i64 (x5.n : Int)), (11, .int .i64 s9)]) [] ∧ Sm w0 w ∧ Fix _ k s9 w.heap) k7 ⟨(0), _, ac_again ⟨rfl, rfl, rfl, rfl, trivial⟩, so, h⟩ ?_
  rintro k8 a11 w10 ⟨s9, f1, rfl, so, h⟩
  rcases k8 with _ | k8
  · exact h.elim
  replace h := Fix.un h; refine wc_in ?_
  refine wc_seq ?_
  refine wc_region ?_
  refine wl_val (at_lss rfl rfl) rfl ?_
  refine wl_nil ?_
  refine wk_prune [(3, .pointer (some (⟨b1, 0, none⟩ : Addr))), (9, .slice x5.a x5.n x5.c), (10, .int .i64 (x5.n : Int)), (11, .int .i64 s9), (12, .bool (decide (s9 < (x5.n : Int))))] ⟨rfl, rfl, rfl, rfl, rfl, trivial⟩ (fun f1 => ?_)
  refine wk_then ?_
  refine wc_seq ?_
  refine wc_cond rfl h (fun h => ?_) (fun h => ?_)
  · refine wc_skip ?_
    refine wk_prune [(3, .pointer (some (⟨b1, 0, none⟩ : Addr))), (9, .slice x5.a x5.n x5.c), (10, .int .i64 (x5.n : Int)), (11, .int .i64 s9)] ⟨rfl, rfl, rfl, rfl, trivial⟩ (fun f1 => ?_)
    refine wk_then ?_
    refine wc_seq ?_
    refine wc_join (w0 := w0) (fun (s14 : Unit) => [(3, .pointer (some (⟨b1, 0, none⟩ : Addr))), (9, .slice x5.a x5.n x5.c), (10, .int .i64 (x5.n : Int)), (11, .int .i64 s9)]) h ?_ ?_
    · rintro s14 w15 f1 h so; refine wk_then ?_
      refine wc_region ?_
      refine wl_val (at_add rfl rfl) rfl ?_
      refine wl_val (at_move rfl) rfl ?_
      refine wl_nil ?_
      exact wk_again ⟨((IntKind.wrap .i64 (s9 + 1))), _, ac_again ⟨rfl, rfl, rfl, rfl, trivial⟩, so, h⟩
    · intro J13 h hJ13
      refine wc_block ?_
      refine wc_seq ?_
      refine wc_region ?_
      obtain ⟨q16, q17, p18, q19, h⟩ := h
      refine wl_val (at_ixAddrL Try.underlying27 sz5 (sl_some q19) rfl q16 q17) rfl ?_
      obtain ⟨x20, q21, h⟩ := h
      refine wl_val (at_load Try.underlying5 rfl rfl q21) rfl ?_
      refine wl_val (at_assign rfl) rfl ?_
      refine wl_nil ?_
      refine wk_prune [(3, .pointer (some (⟨b1, 0, none⟩ : Addr))), (5, .int .u8 x20), (9, .slice x5.a x5.n x5.c), (10, .int .i64 (x5.n : Int)), (11, .int .i64 s9)] ⟨rfl, rfl, rfl, rfl, rfl, trivial⟩ (fun f1 => ?_)
      refine wk_then ?_
      refine wc_seq ?_
      refine wc_region ?_
      refine wl_val (at_move rfl) rfl ?_
      refine wl_callF (strings_Builder_WriteByte.calls _ _ _ _ h) enter37 rfl trivial so ?_; intro x22 w23 h so
      refine wl_nil ?_
      refine wk_prune [(3, .pointer (some (⟨b1, 0, none⟩ : Addr))), (5, .int .u8 x20), (9, .slice x5.a x5.n x5.c), (10, .int .i64 (x5.n : Int)), (11, .int .i64 s9)] ⟨rfl, rfl, rfl, rfl, rfl, trivial⟩ (fun f1 => ?_)
      refine wk_then ?_
      refine wc_seq ?_
      refine wc_region ?_
      refine wl_val (at_move rfl) rfl ?_
      refine wl_val (at_eql rfl rfl) rfl ?_
      refine wl_nil ?_
      refine wk_prune [(3, .pointer (some (⟨b1, 0, none⟩ : Addr))), (9, .slice x5.a x5.n x5.c), (10, .int .i64 (x5.n : Int)), (11, .int .i64 s9), (18, .bool (x20 == 255))] ⟨rfl, rfl, rfl, rfl, rfl, trivial⟩ (fun f1 => ?_)
      refine wk_then ?_
      refine wc_cond rfl h (fun h => ?_) (fun h => ?_)
      · refine wc_region ?_
        refine wl_callF (strings_Builder_WriteByte.calls _ _ _ _ h) enter37 rfl trivial so ?_; intro x24 w25 h so
        refine wl_nil ?_
        refine wk_blkN ?_
        exact wk_prune [(3, .pointer (some (⟨b1, 0, none⟩ : Addr))), (9, .slice x5.a x5.n x5.c), (10, .int .i64 (x5.n : Int)), (11, .int .i64 s9)] ⟨rfl, rfl, rfl, rfl, trivial⟩ (fun f1 => hJ13 () _ f1 h so)
      · refine wc_skip ?_
        refine wk_blkN ?_
        exact wk_prune [(3, .pointer (some (⟨b1, 0, none⟩ : Addr))), (9, .slice x5.a x5.n x5.c), (10, .int .i64 (x5.n : Int)), (11, .int .i64 s9)] ⟨rfl, rfl, rfl, rfl, trivial⟩ (fun f1 => hJ13 () _ f1 h so)
  · refine wc_exit ?_
    refine wk_thenE ?_
    refine wk_thenE ?_
    refine wk_blkE ?_
    refine wk_prune [(3, .pointer (some (⟨b1, 0, none⟩ : Addr)))] ⟨rfl, trivial⟩ (fun f1 => ?_)
    refine wk_then ?_
    refine wc_seq ?_
    refine wc_region ?_
    refine wl_callF (strings_Builder_String.calls _ _ _ h) enter38 rfl trivial so ?_; intro x26 w27 h so
    refine wl_val (at_assign rfl) rfl ?_
    refine wl_nil ?_
    refine wk_prune [(2, .string x26)] ⟨rfl, trivial⟩ (fun f1 => ?_)
    refine wk_then ?_
    refine wc_ret ?_
    exact wk_ret1 (x := x26) rfl (by decide) rfl so h
def bits_Open.enc : (Option Addr) → Value := fun r => .pointer r
def bits_Source_Used.enc : Int → Value := fun r => .int .i64 r
def bits_Source_step.enc : Int → Value := fun r => .int .i64 r
def bits_Source_Skip.enc : Bool → Value := fun r => .bool r
def bits_Source_Left.enc : Int → Value := fun r => .int .i64 r
def bits_Source_Peek.enc : Int × Bool → Value := fun r => .tuple #[.int .i64 r.1, .bool r.2]
def bits_Source_Next.enc : Int × Bool → Value := fun r => .tuple #[.int .i64 r.1, .bool r.2]
def bits_Source_Padded.enc : Bool → Value := fun r => .bool r
def bits_Source_At.enc : Int → Value := fun r => .int .i64 r
end Go.Proofs.Ytmnoecpnoofdjaa.G
