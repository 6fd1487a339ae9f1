import Derived.Test.YtbefacccdaafeaaGF
namespace Go.Proofs.Ytbefacccdaafeaa.G
open Go.RowKit
set_option linter.unusedVariables false
set_option linter.unusedSimpArgs false
/-- mosaic/mosaicref01.New -/
def mosaicref01_New.enc : (Option Addr) → Value := fun r => .pointer r
def mosaicref01_New.s (H0 : Hp) (Q : (Option Addr) → Hp → Prop) : Prop :=
  Gn [] H0 (fun (b1 : Nat) (H2 : Hp) => Bk H2 b1 89 (c89 ⟨none, 0, 0⟩) → (Q (some (⟨b1, 0, none⟩ : Addr)) H2))
set_option maxRecDepth 20000 in
set_option maxHeartbeats 4000000 in
theorem mosaicref01_New.calls (w0 : World) (Q : (Option Addr) → Hp → Prop) (h : mosaicref01_New.s w0.heap Q) :
    Ca Try.prog 21 #[] w0 (Rt mosaicref01_New.enc Q w0) := by
  refine ca_start (c := _) Try.func21 rfl Try.ntmps21 rfl ?_
  have so : Sm w0 w0 := Sm.refl w0
  unfold mosaicref01_New.s at h
  refine wc_prune [] trivial (fun f1 => ?_)
  refine wc_seq ?_
  refine wc_region ?_
  refine wl_val (at_assign rfl) rfl ?_
  refine wl_nil ?_
  refine wk_prune [] trivial (fun f1 => ?_)
  refine wk_then ?_
  refine wc_seq ?_
  refine wc_region ?_
  refine wl_val (at_build (cs := (c89 ⟨none, 0, 0⟩)) (ps := []) rfl (fun w => by simp [Instr.build, Instr.fill, go_sem, Try.underlying89, z89])) rfl ?_
  refine wl_newT (T := 89) (cs := (c89 ⟨none, 0, 0⟩)) (ef_box rfl rfl) rfl so ?_; intro b1 w2 hb_b1 t_b1 k_b1 so
  have g_b1 := Nat.le_of_eq hb_b1.symm
  have hc := k_b1.ch (F := [])
  refine wl_val (at_assign rfl) rfl ?_
  refine wl_nil ?_
  refine wk_prune [(0, .pointer (some (⟨b1, 0, none⟩ : Addr)))] ⟨rfl, trivial⟩ (fun f1 => ?_)
  refine wk_then ?_
  refine wc_ret ?_
  replace h := h b1 _ hc g_b1 t_b1.lt; clear hc
  replace h := h t_b1
  exact wk_ret1 (x := (some (⟨b1, 0, none⟩ : Addr))) rfl (by decide) rfl so h

/-- (*mosaic/mosaicref01.Sink).Put -/
def mosaicref01_Sink_Put.enc : Bool → Value := fun r => .bool r
def mosaicref01_Sink_Put.s (a0 : Option Addr) (a1 : Int) (a2 : Int) (H0 : Hp) (Q : Bool → Hp → Prop) : Prop :=
  Join (fun (s2 : Bool) (H3 : Hp) => if s2 = true then (Q false H3) else (∃ k4, Fix (fun (rec9 : Int → Hp → Prop) (s6 : Int) (H7 : Hp) => if decide ((0 : Int) ≤ s6) = true then (someA a0 (fun p11 => 0 ≤ s6 ∧ (ldL H7 (p11.add 0) (fun x14 => nw H7 4 [.bool ((Go.bits .and .i64 (shrI .i64 a1 s6) 1) == 1)] (fun p16 H17 => cellAt H17 (p11.add 0) = some (.slice x14.a x14.n x14.c) ∧ (apS H17 x14 4 1 1 z4.cells 1 [.bool ((Go.bits .and .i64 (shrI .i64 a1 s6) 1) == 1)] (fun l22 H23 => st H23 (p11.add 0) (.slice l22.a l22.n l22.c) (fun H24 => rec9 ((IntKind.wrap .i64 (s6 - 1))) H24)))))))) else (Q true H7)) k4 ((IntKind.wrap .i64 (a2 - 1))) H3)) (fun (J1 : Bool → Hp → Prop) => if decide (a2 < 0) = true then (J1 (true) H0) else (J1 ((decide ((16 : Int) < a2))) H0))
set_option maxRecDepth 20000 in
set_option maxHeartbeats 4000000 in
theorem mosaicref01_Sink_Put.calls (a0 : Option Addr) (a1 : Int) (a2 : Int) (w0 : World) (Q : Bool → Hp → Prop) (h : mosaicref01_Sink_Put.s a0 a1 a2 w0.heap Q) :
    Ca Try.prog 52 #[.pointer a0, .int .i64 a1, .int .i64 a2] w0 (Rt mosaicref01_Sink_Put.enc Q w0) := by
  refine ca_start (c := _) Try.func52 rfl Try.ntmps52 rfl ?_
  have so : Sm w0 w0 := Sm.refl w0
  unfold mosaicref01_Sink_Put.s at h
  refine wc_prune [(0, .pointer a0), (1, .int .i64 a1), (2, .int .i64 a2)] ⟨rfl, rfl, rfl, trivial⟩ (fun f1 => ?_)
  refine wc_seq ?_
  refine wc_region ?_
  refine wl_val (at_assign rfl) rfl ?_
  refine wl_nil ?_
  refine wk_prune [(0, .pointer a0), (1, .int .i64 a1), (2, .int .i64 a2)] ⟨rfl, rfl, rfl, trivial⟩ (fun f1 => ?_)
  refine wk_then ?_
  refine wc_seq ?_
  refine wc_seq ?_
  refine wc_join (w0 := w0) (fun (s2 : Bool) => [(0, .pointer a0), (1, .int .i64 a1), (2, .int .i64 a2), (13, .bool s2)]) h ?_ ?_
  · rintro s2 w3 f1 h so; refine wk_then ?_
    refine wc_cond rfl h (fun h => ?_) (fun h => ?_)
    · refine wc_seq ?_
      refine wc_region ?_
      refine wl_val (at_assign rfl) rfl ?_
      refine wl_nil ?_
      refine wk_prune [(6, .bool false)] ⟨rfl, trivial⟩ (fun f1 => ?_)
      refine wk_then ?_
      refine wc_ret ?_
      refine wk_thenR ?_
      exact wk_ret1 (x := false) rfl (by decide) rfl so h
    · refine wc_skip ?_
      refine wk_prune [(0, .pointer a0), (1, .int .i64 a1), (2, .int .i64 a2)] ⟨rfl, rfl, rfl, trivial⟩ (fun f1 => ?_)
      refine wk_then ?_
      refine wc_seq ?_
      refine wc_seq ?_
      refine wc_region ?_
      refine wl_val (at_move rfl) rfl ?_
      refine wl_val (at_sub rfl rfl) rfl ?_
      refine wl_val (at_assign rfl) rfl ?_
      refine wl_nil ?_
      refine wk_prune [(0, .pointer a0), (1, .int .i64 a1), (7, .int .i64 (IntKind.wrap .i64 (a2 - 1)))] ⟨rfl, rfl, rfl, trivial⟩ (fun f1 => ?_)
      refine wk_then ?_
      refine wc_block ?_
      obtain ⟨k4, h⟩ := h
      refine wc_loop (fun k a w => ∃ (s6 : Int) (f1 : Nat → Value), a = ac 34 (en f1 [(0, .pointer a0), (1, .int .i64 a1), (7, .int .i64 s6)]) [] ∧ Sm w0 w ∧ Fix _ k s6 w.heap) k4 ⟨((IntKind.wrap .i64 (a2 - 1))), _, ac_again ⟨rfl, rfl, rfl, trivial⟩, so, h⟩ ?_
      rintro k5 a8 w7 ⟨s6, f1, rfl, so, h⟩
      rcases k5 with _ | k5
      · exact h.elim
      replace h := Fix.un h; refine wc_in ?_
      refine wc_seq ?_
      refine wc_seq ?_
      refine wc_region ?_
      refine wl_val (at_move rfl) rfl ?_
      refine wl_val (at_geq rfl rfl) rfl ?_
      refine wl_nil ?_
      refine wk_prune [(0, .pointer a0), (1, .int .i64 a1), (7, .int .i64 s6), (17, .bool (decide ((0 : Int) ≤ s6)))] ⟨rfl, rfl, rfl, rfl, trivial⟩ (fun f1 => ?_)
      refine wk_then ?_
      refine wc_cond rfl h (fun h => ?_) (fun h => ?_)
      · refine wc_skip ?_
        refine wk_prune [(0, .pointer a0), (1, .int .i64 a1), (7, .int .i64 s6)] ⟨rfl, rfl, rfl, trivial⟩ (fun f1 => ?_)
        refine wk_then ?_
        refine wc_seq ?_
        refine wc_block ?_
        refine wc_wo [0, 0, 2, 6, 14, 0, 0, 96, 224, 480, 992, 2046, 4095, 8191, 16383] mixed (by kernel_rfl) so ?_; intro w10 hw so; rw [← hw] at h; clear hw
        refine wo_pure (m' := 1) 0 rfl (by kernel_rfl) rfl rfl (fun H => at_move rfl) ?_
        refine wo_pure (m' := 3) 1 rfl (by kernel_rfl) rfl rfl (fun H => at_move rfl) ?_
        obtain ⟨p11, q12, h⟩ := h
        refine wo_pure (m' := 7) 2 rfl (by kernel_rfl) rfl rfl (fun H => at_nilCheck (congrArg Value.pointer q12)) ?_
        refine wo_pure (m' := 15) 3 rfl (by kernel_rfl) rfl rfl (fun H => at_fieldAddr Try.underlying89 rfl rfl sz87 (by decide) rfl) ?_
        refine wo_pure (m' := 47) 5 rfl (by kernel_rfl) rfl rfl (fun H => at_move rfl) ?_
        refine wo_pure (m' := 111) 6 rfl (by kernel_rfl) rfl rfl (fun H => at_move rfl) ?_
        obtain ⟨q13, h⟩ := h
        refine wo_pure (m' := 239) 7 rfl (by kernel_rfl) rfl rfl (fun H => at_shr rfl rfl q13) ?_
        refine wo_pure (m' := 495) 8 rfl (by kernel_rfl) rfl rfl (fun H => at_and rfl rfl) ?_
        refine wo_pure (m' := 1007) 9 rfl (by kernel_rfl) rfl rfl (fun H => at_eql rfl rfl) ?_
        obtain ⟨x14, q15, h⟩ := h
        refine wo_load (m' := 1023) 4 (fun H => cellAt H (p11.add 0) = some (.slice x14.a x14.n x14.c)) rfl (by kernel_rfl) rfl rfl (fun H q15 => at_load Try.underlying87 rfl rfl q15) q15 ?_
        refine wo_take (m' := 2047) 10 [false] rfl (by kernel_rfl) rfl (by kernel_rfl) ?_
        obtain ⟨i19, i19a, i19b, i19c, i19d⟩ := info4
        refine wl_newS (ef_buildSlice (cs := [.bool ((Go.bits .and .i64 (shrI .i64 a1 s6) 1) == 1)]) (ps := [(0, .bool ((Go.bits .and .i64 (shrI .i64 a1 s6) 1) == 1))]) Try.underlying87 i19a i19b rfl (by rw [i19c]; decide) (by rw [i19c]; exact fill_full (vs := [.bool ((Go.bits .and .i64 (shrI .i64 a1 s6) 1) == 1)]) rfl (by simp [Value.cells]) (by simp [Value.cells]) rfl (by simp))) rfl so (ones_cons rfl ones_nil) h ?_; intro p16 w17 h r18 so
        refine wl_nil ?_
        obtain ⟨q20, h⟩ := h
        refine wk_tq ⟨q20, trivial⟩ ?_
        refine wo_take (m' := 4095) 11 [true] rfl (by kernel_rfl) rfl (by kernel_rfl) ?_
        obtain ⟨i21, i21a, i21b, i21c, i21d⟩ := info4
        refine wl_ap (fx_append (s := x14) (t := ⟨(some p16), 1, 1⟩) (m := 1) (xs := [.bool ((Go.bits .and .i64 (shrI .i64 a1 s6) 1) == 1)]) Try.underlying87 Try.underlying87 i21a i21b i21c i21d rfl rfl rfl (by first | rfl | simp) r18 h) rfl so ?_; intro l22 w23 h so
        refine wl_nil ?_
        refine wk_tq trivial ?_
        refine wo_pure (m' := 8191) 12 rfl (by kernel_rfl) rfl rfl (fun H => at_nilCheck (congrArg Value.pointer q12)) ?_
        refine wo_pure (m' := 16383) 13 rfl (by kernel_rfl) rfl rfl (fun H => at_fieldAddr Try.underlying89 rfl rfl sz87 (by decide) rfl) ?_
        refine wo_take (m' := 32767) 14 [] rfl (by kernel_rfl) rfl (by kernel_rfl) ?_
        refine wl_st (v := .slice l22.a l22.n l22.c) h rfl so (fun q1 q2 => ef_store (sz := sz87) rfl rfl rfl q1 q2) ?_; intro w24 h so
        refine wl_nil ?_
        refine wk_tq trivial ?_
        refine wo_done (by kernel_rfl) ?_
        refine wk_blkN ?_
        refine wk_prune [(0, .pointer a0), (1, .int .i64 a1), (7, .int .i64 s6)] ⟨rfl, rfl, rfl, trivial⟩ (fun f1 => ?_)
        refine wk_then ?_
        refine wc_region ?_
        refine wl_val (at_move rfl) rfl ?_
        refine wl_val (at_sub rfl rfl) rfl ?_
        refine wl_val (at_assign rfl) rfl ?_
        refine wl_nil ?_
        exact wk_again ⟨((IntKind.wrap .i64 (s6 - 1))), _, ac_again ⟨rfl, rfl, rfl, trivial⟩, so, h⟩
      · refine wc_exit ?_
        refine wk_thenE ?_
        refine wk_thenE ?_
        refine wk_blkE ?_
        refine wk_prune [] trivial (fun f1 => ?_)
        refine wk_then ?_
        refine wc_seq ?_
        refine wc_region ?_
        refine wl_val (at_assign rfl) rfl ?_
        refine wl_nil ?_
        refine wk_prune [(6, .bool true)] ⟨rfl, trivial⟩ (fun f1 => ?_)
        refine wk_then ?_
        refine wc_ret ?_
        exact wk_ret1 (x := true) rfl (by decide) rfl so h
  · intro J1 h hJ1
    refine wc_region ?_
    refine wl_val (at_move rfl) rfl ?_
    refine wl_val (at_lss rfl rfl) rfl ?_
    refine wl_val (at_move rfl) rfl ?_
    refine bif_ h (fun hb h => ?_) (fun hb h => ?_)
    · refine wl_set (t := 10) (v := .bool true) (congrArg Value.bool hb) ?_; clear hb
      refine wl_off (t := 10) rfl (by decide) rfl ?_
      refine wl_off (t := 10) rfl (by decide) rfl ?_
      refine wl_val (at_pick_t rfl rfl) rfl ?_
      refine wl_nil ?_
      exact wk_prune [(0, .pointer a0), (1, .int .i64 a1), (2, .int .i64 a2), (13, .bool true)] ⟨rfl, rfl, rfl, rfl, trivial⟩ (fun f1 => hJ1 (true) _ f1 h so)
    · refine wl_set (t := 10) (v := .bool false) (congrArg Value.bool hb) ?_; clear hb
      refine wl_on (t := 10) rfl (by decide) rfl ?_
      refine wl_val (at_move rfl) rfl ?_
      refine wl_on (t := 10) rfl (by decide) rfl ?_
      refine wl_val (at_gtr rfl rfl) rfl ?_
      refine wl_val (at_pick_f rfl rfl) rfl ?_
      refine wl_nil ?_
      exact wk_prune [(0, .pointer a0), (1, .int .i64 a1), (2, .int .i64 a2), (13, .bool (decide ((16 : Int) < a2)))] ⟨rfl, rfl, rfl, rfl, trivial⟩ (fun f1 => hJ1 ((decide ((16 : Int) < a2))) _ f1 h so)

/-- (*mosaic/mosaicref01.Sink).Len -/
def mosaicref01_Sink_Len.enc : Int → Value := fun r => .int .i64 r
def mosaicref01_Sink_Len.s (a0 : Option Addr) (H0 : Hp) (Q : Int → Hp → Prop) : Prop :=
  someA a0 (fun p1 => ldL H0 (p1.add 0) (fun x3 => Q (x3.n : Int) H0))
set_option maxRecDepth 20000 in
set_option maxHeartbeats 4000000 in
theorem mosaicref01_Sink_Len.calls (a0 : Option Addr) (w0 : World) (Q : Int → Hp → Prop) (h : mosaicref01_Sink_Len.s a0 w0.heap Q) :
    Ca Try.prog 25 #[.pointer a0] w0 (Rt mosaicref01_Sink_Len.enc Q w0) := by
  refine ca_start (c := _) Try.func25 rfl Try.ntmps25 rfl ?_
  have so : Sm w0 w0 := Sm.refl w0
  unfold mosaicref01_Sink_Len.s at h
  refine wc_prune [(0, .pointer a0)] ⟨rfl, trivial⟩ (fun f1 => ?_)
  refine wc_seq ?_
  refine wc_region ?_
  refine wl_val (at_assign rfl) rfl ?_
  refine wl_nil ?_
  refine wk_prune [(0, .pointer a0)] ⟨rfl, trivial⟩ (fun f1 => ?_)
  refine wk_then ?_
  refine wc_seq ?_
  refine wc_region ?_
  refine wl_val (at_move rfl) rfl ?_
  obtain ⟨p1, q2, h⟩ := h
  refine wl_val (at_nilCheck (congrArg Value.pointer q2)) rfl ?_
  refine wl_val (at_fieldAddr Try.underlying89 rfl rfl sz87 (by decide) rfl) rfl ?_
  obtain ⟨x3, q4, h⟩ := h
  refine wl_val (at_load Try.underlying87 rfl rfl q4) rfl ?_
  refine wl_val (at_lenL Try.underlying87 rfl) rfl ?_
  refine wl_val (at_assign rfl) rfl ?_
  refine wl_nil ?_
  refine wk_prune [(2, .int .i64 (x3.n : Int))] ⟨rfl, trivial⟩ (fun f1 => ?_)
  refine wk_then ?_
  refine wc_ret ?_
  exact wk_ret1 (x := (x3.n : Int)) rfl (by decide) rfl so h

/-- (*mosaic/mosaicref01.Sink).Pad -/
def mosaicref01_Sink_Pad.enc : Unit → Value := fun _ => .tuple #[]
def mosaicref01_Sink_Pad.s (a0 : Option Addr) (H0 : Hp) (Q : Unit → Hp → Prop) : Prop :=
  ∃ k1, Fix (fun (rec6 : Unit → Hp → Prop) (s3 : Unit) (H4 : Hp) => someA a0 (fun p7 => ldL H4 (p7.add 0) (fun x9 => if ((Int.tmod (x9.n : Int) 8) != 0) = true then (ldL H4 (p7.add 0) (fun x11 => nw H4 4 [.bool true] (fun p13 H14 => apS H14 x11 4 1 1 z4.cells 1 [.bool true] (fun l18 H19 => st H19 (p7.add 0) (.slice l18.a l18.n l18.c) (fun H20 => rec6 () H20))))) else (Q () H4)))) k1 () H0
set_option maxRecDepth 20000 in
set_option maxHeartbeats 4000000 in
theorem mosaicref01_Sink_Pad.calls (a0 : Option Addr) (w0 : World) (Q : Unit → Hp → Prop) (h : mosaicref01_Sink_Pad.s a0 w0.heap Q) :
    Ca Try.prog 27 #[.pointer a0] w0 (Rt mosaicref01_Sink_Pad.enc Q w0) := by
  refine ca_start (c := _) Try.func27 rfl Try.ntmps27 rfl ?_
  have so : Sm w0 w0 := Sm.refl w0
  unfold mosaicref01_Sink_Pad.s at h
  refine wc_prune [(0, .pointer a0)] ⟨rfl, trivial⟩ (fun f1 => ?_)
  refine wc_block ?_
  obtain ⟨k1, h⟩ := h
  refine wc_loop (fun k a w => ∃ (s3 : Unit) (f1 : Nat → Value), a = ac 18 (en f1 [(0, .pointer a0)]) [] ∧ Sm w0 w ∧ Fix _ k s3 w.heap) k1 ⟨(), _, ac_again ⟨rfl, trivial⟩, so, h⟩ ?_
  rintro k2 a5 w4 ⟨s3, f1, rfl, so, h⟩
  rcases k2 with _ | k2
  · exact h.elim
  replace h := Fix.un h; refine wc_in ?_
  refine wc_seq ?_
  refine wc_seq ?_
  refine wc_region ?_
  refine wl_val (at_move rfl) rfl ?_
  obtain ⟨p7, q8, h⟩ := h
  refine wl_val (at_nilCheck (congrArg Value.pointer q8)) rfl ?_
  refine wl_val (at_fieldAddr Try.underlying89 rfl rfl sz87 (by decide) rfl) rfl ?_
  obtain ⟨x9, q10, h⟩ := h
  refine wl_val (at_load Try.underlying87 rfl rfl q10) rfl ?_
  refine wl_val (at_lenL Try.underlying87 rfl) rfl ?_
  refine wl_val (at_rem rfl rfl (by decide)) rfl ?_
  refine wl_val (at_neq rfl rfl) rfl ?_
  refine wl_nil ?_
  refine wk_prune [(0, .pointer a0), (8, .bool ((Int.tmod (x9.n : Int) 8) != 0))] ⟨rfl, rfl, trivial⟩ (fun f1 => ?_)
  refine wk_then ?_
  refine wc_cond rfl h (fun h => ?_) (fun h => ?_)
  · refine wc_skip ?_
    refine wk_prune [(0, .pointer a0)] ⟨rfl, trivial⟩ (fun f1 => ?_)
    refine wk_then ?_
    refine wc_block ?_
    refine wc_region ?_
    refine wl_val (at_move rfl) rfl ?_
    refine wl_val (at_move rfl) rfl ?_
    refine wl_val (at_nilCheck (congrArg Value.pointer q8)) rfl ?_
    refine wl_val (at_fieldAddr Try.underlying89 rfl rfl sz87 (by decide) rfl) rfl ?_
    obtain ⟨x11, q12, h⟩ := h
    refine wl_val (at_load Try.underlying87 rfl rfl q12) rfl ?_
    obtain ⟨i16, i16a, i16b, i16c, i16d⟩ := info4
    refine wl_newS (ef_buildSlice (cs := [.bool true]) (ps := [(0, .bool true)]) Try.underlying87 i16a i16b rfl (by rw [i16c]; decide) (by rw [i16c]; exact fill_full (vs := [.bool true]) rfl (by simp [Value.cells]) (by simp [Value.cells]) rfl (by simp))) rfl so (ones_cons rfl ones_nil) h ?_; intro p13 w14 h r15 so
    obtain ⟨i17, i17a, i17b, i17c, i17d⟩ := info4
    refine wl_ap (fx_append (s := x11) (t := ⟨(some p13), 1, 1⟩) (m := 1) (xs := [.bool true]) Try.underlying87 Try.underlying87 i17a i17b i17c i17d rfl rfl rfl (by first | rfl | simp) r15 h) rfl so ?_; intro l18 w19 h so
    refine wl_val (at_nilCheck (congrArg Value.pointer q8)) rfl ?_
    refine wl_val (at_fieldAddr Try.underlying89 rfl rfl sz87 (by decide) rfl) rfl ?_
    refine wl_st (v := .slice l18.a l18.n l18.c) h rfl so (fun q1 q2 => ef_store (sz := sz87) rfl rfl rfl q1 q2) ?_; intro w20 h so
    refine wl_nil ?_
    refine wk_blkN ?_
    exact wk_again ⟨(), _, ac_again ⟨rfl, trivial⟩, so, h⟩
  · refine wc_exit ?_
    refine wk_thenE ?_
    refine wk_thenE ?_
    refine wk_blkE ?_
    exact wk_ret0n (x := ()) rfl rfl so h

/-- (*mosaic/mosaicref01.Sink).Text -/
def mosaicref01_Sink_Text.enc : ByteArray → Value := fun r => .string r
def mosaicref01_Sink_Text.s (a0 : Option Addr) (H0 : Hp) (Q : ByteArray → Hp → Prop) : Prop :=
  ∃ k1, Fix (fun (rec6 : (Sl × Int) → Hp → Prop) (s3 : Sl × Int) (H4 : Hp) => someA a0 (fun p7 => ldL H4 (p7.add 0) (fun x9 => if decide ((IntKind.wrap .i64 (s3.2 + 8)) ≤ (x9.n : Int)) = true then (Join (fun (s12 : Sl) (H13 : Hp) => rec6 (s12, (IntKind.wrap .i64 (s3.2 + 8))) H13) (fun (J11 : Sl → Hp → Prop) => ∃ k14, Fix (fun (rec19 : (Int × Int) → Hp → Prop) (s16 : Int × Int) (H17 : Hp) => if decide (s16.2 < 8) = true then (Join (fun (s21 : Int) (H22 : Hp) => rec19 (s21, (IntKind.wrap .i64 (s16.2 + 1))) H22) (fun (J20 : Int → Hp → Prop) => ldL H17 (p7.add 0) (fun x23 => 0 ≤ (IntKind.wrap .i64 (s3.2 + s16.2)) ∧ (IntKind.wrap .i64 (s3.2 + s16.2)) < (x23.n : Int) ∧ someA x23.a (fun p27 => ldB H17 (p27.add (Int.toNat (IntKind.wrap .i64 (s3.2 + s16.2)) * 1)) (fun x29 => if x29 = true then (Lt ((IntKind.wrap .i64 ((IntKind.wrap .i64 ((2 : Int) * s16.1)) + 1)) : Int) (fun x31 => J20 (x31) H17)) else (J20 ((IntKind.wrap .i64 ((2 : Int) * s16.1))) H17)))))) else (nw H17 5 [.int .u8 (IntKind.wrap .u8 s16.1)] (fun p33 H34 => apS H34 s3.1 5 1 1 z5.cells 1 [.int .u8 (IntKind.wrap .u8 s16.1)] (fun l38 H39 => if (s16.1 == 255) = true then (nw H39 5 [.int .u8 0] (fun p40 H41 => apS H41 l38 5 1 1 z5.cells 1 [.int .u8 0] (fun l45 H46 => J11 (l45) H46))) else (J11 (l38) H39))))) k14 (0, 0) H4)) else (∃ b47 : ByteArray, s3.1.n = b47.size ∧ rdS H4 s3.1.a (byteCells b47) ∧ (Q b47 H4))))) k1 (⟨none, 0, 0⟩, 0) H0
set_option maxRecDepth 20000 in
set_option maxHeartbeats 4000000 in
theorem mosaicref01_Sink_Text.calls (a0 : Option Addr) (w0 : World) (Q : ByteArray → Hp → Prop) (h : mosaicref01_Sink_Text.s a0 w0.heap Q) :
    Ca Try.prog 29 #[.pointer a0] w0 (Rt mosaicref01_Sink_Text.enc Q w0) := by
  refine ca_start (c := _) Try.func29 rfl Try.ntmps29 rfl ?_
  have so : Sm w0 w0 := Sm.refl w0
  unfold mosaicref01_Sink_Text.s at h
  refine wc_prune [(0, .pointer a0)] ⟨rfl, trivial⟩ (fun f1 => ?_)
  refine wc_seq ?_
  refine wc_region ?_
  refine wl_val (at_assign rfl) rfl ?_
  refine wl_nil ?_
  refine wk_prune [(0, .pointer a0)] ⟨rfl, trivial⟩ (fun f1 => ?_)
  refine wk_then ?_
  refine wc_seq ?_
  refine wc_region ?_
  refine wl_val (at_assign rfl) rfl ?_
  refine wl_nil ?_
  refine wk_prune [(0, .pointer a0), (3, .slice none 0 0)] ⟨rfl, rfl, trivial⟩ (fun f1 => ?_)
  refine wk_then ?_
  refine wc_seq ?_
  refine wc_seq ?_
  refine wc_region ?_
  refine wl_val (at_assign rfl) rfl ?_
  refine wl_nil ?_
  refine wk_prune [(0, .pointer a0), (3, .slice none 0 0), (4, .int .i64 0)] ⟨rfl, rfl, rfl, trivial⟩ (fun f1 => ?_)
  refine wk_then ?_
  refine wc_block ?_
  obtain ⟨k1, h⟩ := h
  refine wc_loop (fun k a w => ∃ (s3 : Sl × Int) (f1 : Nat → Value), a = ac 46 (en f1 [(0, .pointer a0), (3, .slice s3.1.a s3.1.n s3.1.c), (4, .int .i64 s3.2)]) [] ∧ Sm w0 w ∧ Fix _ k s3 w.heap) k1 ⟨(⟨none, 0, 0⟩, 0), _, ac_again ⟨rfl, rfl, rfl, trivial⟩, so, h⟩ ?_
  rintro k2 a5 w4 ⟨s3, f1, rfl, so, h⟩
  rcases k2 with _ | k2
  · exact h.elim
  replace h := Fix.un h; refine wc_in ?_
  refine wc_seq ?_
  refine wc_seq ?_
  refine wc_region ?_
  refine wl_val (at_move rfl) rfl ?_
  refine wl_val (at_add rfl rfl) rfl ?_
  refine wl_val (at_move rfl) rfl ?_
  obtain ⟨p7, q8, h⟩ := h
  refine wl_val (at_nilCheck (congrArg Value.pointer q8)) rfl ?_
  refine wl_val (at_fieldAddr Try.underlying89 rfl rfl sz87 (by decide) rfl) rfl ?_
  obtain ⟨x9, q10, h⟩ := h
  refine wl_val (at_load Try.underlying87 rfl rfl q10) rfl ?_
  refine wl_val (at_lenL Try.underlying87 rfl) rfl ?_
  refine wl_val (at_leq rfl rfl) rfl ?_
  refine wl_nil ?_
  refine wk_prune [(0, .pointer a0), (3, .slice s3.1.a s3.1.n s3.1.c), (4, .int .i64 s3.2), (14, .bool (decide ((IntKind.wrap .i64 (s3.2 + 8)) ≤ (x9.n : Int))))] ⟨rfl, rfl, rfl, rfl, trivial⟩ (fun f1 => ?_)
  refine wk_then ?_
  refine wc_cond rfl h (fun h => ?_) (fun h => ?_)
  · refine wc_skip ?_
    refine wk_prune [(0, .pointer a0), (3, .slice s3.1.a s3.1.n s3.1.c), (4, .int .i64 s3.2)] ⟨rfl, rfl, rfl, trivial⟩ (fun f1 => ?_)
    refine wk_then ?_
    refine wc_seq ?_
    refine wc_join (w0 := w0) (fun (s12 : Sl) => [(0, .pointer a0), (3, .slice s12.a s12.n s12.c), (4, .int .i64 s3.2)]) h ?_ ?_
    · rintro s12 w13 f1 h so; refine wk_then ?_
      refine wc_region ?_
      refine wl_val (at_move rfl) rfl ?_
      refine wl_val (at_add rfl rfl) rfl ?_
      refine wl_val (at_assign rfl) rfl ?_
      refine wl_nil ?_
      exact wk_again ⟨(s12, (IntKind.wrap .i64 (s3.2 + 8))), _, ac_again ⟨rfl, rfl, rfl, trivial⟩, so, h⟩
    · intro J11 h hJ11
      refine wc_block ?_
      refine wc_seq ?_
      refine wc_region ?_
      refine wl_val (at_assign rfl) rfl ?_
      refine wl_nil ?_
      refine wk_prune [(0, .pointer a0), (3, .slice s3.1.a s3.1.n s3.1.c), (4, .int .i64 s3.2), (5, .int .i64 0)] ⟨rfl, rfl, rfl, rfl, trivial⟩ (fun f1 => ?_)
      refine wk_then ?_
      refine wc_seq ?_
      refine wc_seq ?_
      refine wc_region ?_
      refine wl_val (at_assign rfl) rfl ?_
      refine wl_nil ?_
      refine wk_prune [(0, .pointer a0), (3, .slice s3.1.a s3.1.n s3.1.c), (4, .int .i64 s3.2), (5, .int .i64 0), (6, .int .i64 0)] ⟨rfl, rfl, rfl, rfl, rfl, trivial⟩ (fun f1 => ?_)
      refine wk_then ?_
      refine wc_block ?_
      obtain ⟨k14, h⟩ := h
      refine wc_loop (fun k a w => ∃ (s16 : Int × Int) (f1 : Nat → Value), a = ac 46 (en f1 [(0, .pointer a0), (3, .slice s3.1.a s3.1.n s3.1.c), (4, .int .i64 s3.2), (5, .int .i64 s16.1), (6, .int .i64 s16.2)]) [] ∧ Sm w0 w ∧ Fix _ k s16 w.heap) k14 ⟨(0, 0), _, ac_again ⟨rfl, rfl, rfl, rfl, rfl, trivial⟩, so, h⟩ ?_
      rintro k15 a18 w17 ⟨s16, f1, rfl, so, h⟩
      rcases k15 with _ | k15
      · exact h.elim
      replace h := Fix.un h; refine wc_in ?_
      refine wc_seq ?_
      refine wc_seq ?_
      refine wc_region ?_
      refine wl_val (at_move rfl) rfl ?_
      refine wl_val (at_lss rfl rfl) rfl ?_
      refine wl_nil ?_
      refine wk_prune [(0, .pointer a0), (3, .slice s3.1.a s3.1.n s3.1.c), (4, .int .i64 s3.2), (5, .int .i64 s16.1), (6, .int .i64 s16.2), (18, .bool (decide (s16.2 < 8)))] ⟨rfl, rfl, rfl, rfl, rfl, rfl, trivial⟩ (fun f1 => ?_)
      refine wk_then ?_
      refine wc_cond rfl h (fun h => ?_) (fun h => ?_)
      · refine wc_skip ?_
        refine wk_prune [(0, .pointer a0), (3, .slice s3.1.a s3.1.n s3.1.c), (4, .int .i64 s3.2), (5, .int .i64 s16.1), (6, .int .i64 s16.2)] ⟨rfl, rfl, rfl, rfl, rfl, trivial⟩ (fun f1 => ?_)
        refine wk_then ?_
        refine wc_seq ?_
        refine wc_join (w0 := w0) (fun (s21 : Int) => [(0, .pointer a0), (3, .slice s3.1.a s3.1.n s3.1.c), (4, .int .i64 s3.2), (5, .int .i64 s21), (6, .int .i64 s16.2)]) h ?_ ?_
        · rintro s21 w22 f1 h so; refine wk_then ?_
          refine wc_region ?_
          refine wl_val (at_move rfl) rfl ?_
          refine wl_val (at_add rfl rfl) rfl ?_
          refine wl_val (at_assign rfl) rfl ?_
          refine wl_nil ?_
          exact wk_again ⟨(s21, (IntKind.wrap .i64 (s16.2 + 1))), _, ac_again ⟨rfl, rfl, rfl, rfl, rfl, trivial⟩, so, h⟩
        · intro J20 h hJ20
          refine wc_block ?_
          refine wc_seq ?_
          refine wc_region ?_
          refine wl_val (at_move rfl) rfl ?_
          refine wl_val (at_mul rfl rfl) rfl ?_
          refine wl_val (at_assign rfl) rfl ?_
          refine wl_nil ?_
          refine wk_prune [(0, .pointer a0), (3, .slice s3.1.a s3.1.n s3.1.c), (4, .int .i64 s3.2), (5, .int .i64 (IntKind.wrap .i64 ((2 : Int) * s16.1))), (6, .int .i64 s16.2)] ⟨rfl, rfl, rfl, rfl, rfl, trivial⟩ (fun f1 => ?_)
          refine wk_then ?_
          refine wc_seq ?_
          refine wc_region ?_
          refine wl_val (at_move rfl) rfl ?_
          refine wl_val (at_nilCheck (congrArg Value.pointer q8)) rfl ?_
          refine wl_val (at_fieldAddr Try.underlying89 rfl rfl sz87 (by decide) rfl) rfl ?_
          obtain ⟨x23, q24, h⟩ := h
          refine wl_val (at_load Try.underlying87 rfl rfl q24) rfl ?_
          refine wl_val (at_move rfl) rfl ?_
          refine wl_val (at_move rfl) rfl ?_
          refine wl_val (at_add rfl rfl) rfl ?_
          obtain ⟨q25, q26, p27, q28, h⟩ := h
          refine wl_val (at_ixAddrL Try.underlying87 sz4 (sl_some q28) rfl q25 q26) rfl ?_
          obtain ⟨x29, q30, h⟩ := h
          refine wl_val (at_load Try.underlying4 rfl rfl q30) rfl ?_
          refine wl_nil ?_
          refine wk_prune [(0, .pointer a0), (3, .slice s3.1.a s3.1.n s3.1.c), (4, .int .i64 s3.2), (5, .int .i64 (IntKind.wrap .i64 ((2 : Int) * s16.1))), (6, .int .i64 s16.2), (31, .bool x29)] ⟨rfl, rfl, rfl, rfl, rfl, rfl, trivial⟩ (fun f1 => ?_)
          refine wk_then ?_
          refine wc_cond rfl h (fun h => ?_) (fun h => ?_)
          · refine wc_region ?_
            refine wl_val (at_move rfl) rfl ?_
            refine wl_val (at_add rfl rfl) rfl ?_
            refine wl_val (at_assign rfl) rfl ?_
            obtain ⟨x31, e32⟩ : ∃ x : Int, x = (IntKind.wrap .i64 ((IntKind.wrap .i64 ((2 : Int) * s16.1)) + 1)) := ⟨_, rfl⟩; replace h := h x31 e32
            refine wl_set (t := 5) (v := .int .i64 x31) (congrArg (Value.int .i64) e32.symm) ?_
            refine wl_nil ?_
            refine wk_blkN ?_
            exact wk_prune [(0, .pointer a0), (3, .slice s3.1.a s3.1.n s3.1.c), (4, .int .i64 s3.2), (5, .int .i64 x31), (6, .int .i64 s16.2)] ⟨rfl, rfl, rfl, rfl, rfl, trivial⟩ (fun f1 => hJ20 (x31) _ f1 h so)
          · refine wc_skip ?_
            refine wk_blkN ?_
            exact wk_prune [(0, .pointer a0), (3, .slice s3.1.a s3.1.n s3.1.c), (4, .int .i64 s3.2), (5, .int .i64 (IntKind.wrap .i64 ((2 : Int) * s16.1))), (6, .int .i64 s16.2)] ⟨rfl, rfl, rfl, rfl, rfl, trivial⟩ (fun f1 => hJ20 ((IntKind.wrap .i64 ((2 : Int) * s16.1))) _ f1 h so)
      · refine wc_exit ?_
        refine wk_thenE ?_
        refine wk_thenE ?_
        refine wk_blkE ?_
        refine wk_prune [(0, .pointer a0), (3, .slice s3.1.a s3.1.n s3.1.c), (4, .int .i64 s3.2), (5, .int .i64 s16.1)] ⟨rfl, rfl, rfl, rfl, trivial⟩ (fun f1 => ?_)
        refine wk_then ?_
        refine wc_seq ?_
        refine wc_region ?_
        refine wl_val (at_move rfl) rfl ?_
        refine wl_val (at_move rfl) rfl ?_
        refine wl_val (at_conv Try.underlying3 Try.underlying5 rfl) rfl ?_
        obtain ⟨i36, i36a, i36b, i36c, i36d⟩ := info5
        refine wl_newS (ef_buildSlice (cs := [.int .u8 (IntKind.wrap .u8 s16.1)]) (ps := [(0, .int .u8 (IntKind.wrap .u8 s16.1))]) Try.underlying23 i36a i36b rfl (by rw [i36c]; decide) (by rw [i36c]; exact fill_full (vs := [.int .u8 (IntKind.wrap .u8 s16.1)]) rfl (by simp [Value.cells]) (by simp [Value.cells]) rfl (by simp))) rfl so (ones_cons rfl ones_nil) h ?_; intro p33 w34 h r35 so
        obtain ⟨i37, i37a, i37b, i37c, i37d⟩ := info5
        refine wl_ap (fx_append (s := s3.1) (t := ⟨(some p33), 1, 1⟩) (m := 1) (xs := [.int .u8 (IntKind.wrap .u8 s16.1)]) Try.underlying23 Try.underlying23 i37a i37b i37c i37d rfl rfl rfl (by first | rfl | simp) r35 h) rfl so ?_; intro l38 w39 h so
        refine wl_val (at_assign rfl) rfl ?_
        refine wl_nil ?_
        refine wk_prune [(0, .pointer a0), (3, .slice l38.a l38.n l38.c), (4, .int .i64 s3.2), (5, .int .i64 s16.1)] ⟨rfl, rfl, rfl, rfl, trivial⟩ (fun f1 => ?_)
        refine wk_then ?_
        refine wc_seq ?_
        refine wc_region ?_
        refine wl_val (at_move rfl) rfl ?_
        refine wl_val (at_eql rfl rfl) rfl ?_
        refine wl_nil ?_
        refine wk_prune [(0, .pointer a0), (3, .slice l38.a l38.n l38.c), (4, .int .i64 s3.2), (40, .bool (s16.1 == 255))] ⟨rfl, rfl, rfl, rfl, trivial⟩ (fun f1 => ?_)
        refine wk_then ?_
        refine wc_cond rfl h (fun h => ?_) (fun h => ?_)
        · refine wc_region ?_
          refine wl_val (at_move rfl) rfl ?_
          obtain ⟨i43, i43a, i43b, i43c, i43d⟩ := info5
          refine wl_newS (ef_buildSlice (cs := [.int .u8 0]) (ps := [(0, .int .u8 0)]) Try.underlying23 i43a i43b rfl (by rw [i43c]; decide) (by rw [i43c]; exact fill_full (vs := [.int .u8 0]) rfl (by simp [Value.cells]) (by simp [Value.cells]) rfl (by simp))) rfl so (ones_cons rfl ones_nil) h ?_; intro p40 w41 h r42 so
          obtain ⟨i44, i44a, i44b, i44c, i44d⟩ := info5
          refine wl_ap (fx_append (s := l38) (t := ⟨(some p40), 1, 1⟩) (m := 1) (xs := [.int .u8 0]) Try.underlying23 Try.underlying23 i44a i44b i44c i44d rfl rfl rfl (by first | rfl | simp) r42 h) rfl so ?_; intro l45 w46 h so
          refine wl_val (at_assign rfl) rfl ?_
          refine wl_nil ?_
          refine wk_blkN ?_
          exact wk_prune [(0, .pointer a0), (3, .slice l45.a l45.n l45.c), (4, .int .i64 s3.2)] ⟨rfl, rfl, rfl, trivial⟩ (fun f1 => hJ11 (l45) _ f1 h so)
        · refine wc_skip ?_
          refine wk_blkN ?_
          exact wk_prune [(0, .pointer a0), (3, .slice l38.a l38.n l38.c), (4, .int .i64 s3.2)] ⟨rfl, rfl, rfl, trivial⟩ (fun f1 => hJ11 (l38) _ f1 h so)
  · refine wc_exit ?_
    refine wk_thenE ?_
    refine wk_thenE ?_
    refine wk_blkE ?_
    refine wk_prune [(3, .slice s3.1.a s3.1.n s3.1.c)] ⟨rfl, trivial⟩ (fun f1 => ?_)
    refine wk_then ?_
    refine wc_seq ?_
    refine wc_region ?_
    refine wl_val (at_move rfl) rfl ?_
    obtain ⟨b47, q48, q49, h⟩ := h
    refine wl_val (at_str (s := s3.1) Try.underlying23 Try.underlying9 Try.underlying5 rfl q48 q49) rfl ?_
    refine wl_val (at_assign rfl) rfl ?_
    refine wl_nil ?_
    refine wk_prune [(2, .string b47)] ⟨rfl, trivial⟩ (fun f1 => ?_)
    refine wk_then ?_
    refine wc_ret ?_
    exact wk_ret1 (x := b47) rfl (by decide) rfl so h

/-- mosaic/mosaicref01.Bounds -/
def mosaicref01_Bounds.enc : Int × Int → Value := fun r => .tuple #[.int .i64 r.1, .int .i64 r.2]
def mosaicref01_Bounds.s (a0 : ByteArray) (a1 : Int) (a2 : Int) (H0 : Hp) (Q : (Int × Int) → Hp → Prop) : Prop :=
  Join (fun (s2 : Int) (H3 : Hp) => Join (fun (s5 : Int) (H6 : Hp) => Join (fun (s8 : Int) (H9 : Hp) => Join (fun (s11 : Int) (H12 : Hp) => Q (s5, s11) H12) (fun (J10 : Int → Hp → Prop) => if decide (s8 < s5) = true then (J10 (s5) H9) else (J10 (s8) H9))) (fun (J7 : Int → Hp → Prop) => if decide ((a0.size : Int) < a2) = true then (J7 ((a0.size : Int)) H6) else (J7 (a2) H6))) (fun (J4 : Int → Hp → Prop) => if decide ((a0.size : Int) < s2) = true then (J4 ((a0.size : Int)) H3) else (J4 (s2) H3))) (fun (J1 : Int → Hp → Prop) => if decide (a1 < 0) = true then (J1 (0) H0) else (J1 (a1) H0))
set_option maxRecDepth 20000 in
set_option maxHeartbeats 4000000 in
theorem mosaicref01_Bounds.calls (a0 : ByteArray) (a1 : Int) (a2 : Int) (w0 : World) (Q : (Int × Int) → Hp → Prop) (h : mosaicref01_Bounds.s a0 a1 a2 w0.heap Q) :
    Ca Try.prog 58 #[.string a0, .int .i64 a1, .int .i64 a2] w0 (Rt mosaicref01_Bounds.enc Q w0) := by
  refine ca_start (c := _) Try.func58 rfl Try.ntmps58 rfl ?_
  have so : Sm w0 w0 := Sm.refl w0
  unfold mosaicref01_Bounds.s at h
  refine wc_prune [(0, .string a0), (1, .int .i64 a1), (2, .int .i64 a2)] ⟨rfl, rfl, rfl, trivial⟩ (fun f1 => ?_)
  refine wc_seq ?_
  refine wc_region ?_
  refine wl_val (at_assign rfl) rfl ?_
  refine wl_val (at_assign rfl) rfl ?_
  refine wl_nil ?_
  refine wk_prune [(0, .string a0), (1, .int .i64 a1), (2, .int .i64 a2)] ⟨rfl, rfl, rfl, trivial⟩ (fun f1 => ?_)
  refine wk_then ?_
  refine wc_seq ?_
  refine wc_join (w0 := w0) (fun (s2 : Int) => [(0, .string a0), (1, .int .i64 s2), (2, .int .i64 a2)]) h ?_ ?_
  · rintro s2 w3 f1 h so; refine wk_then ?_
    refine wc_seq ?_
    refine wc_join (w0 := w0) (fun (s5 : Int) => [(0, .string a0), (1, .int .i64 s5), (2, .int .i64 a2)]) h ?_ ?_
    · rintro s5 w6 f1 h so; refine wk_then ?_
      refine wc_seq ?_
      refine wc_join (w0 := w0) (fun (s8 : Int) => [(1, .int .i64 s5), (2, .int .i64 s8)]) h ?_ ?_
      · rintro s8 w9 f1 h so; refine wk_then ?_
        refine wc_seq ?_
        refine wc_join (w0 := w0) (fun (s11 : Int) => [(1, .int .i64 s5), (2, .int .i64 s11)]) h ?_ ?_
        · rintro s11 w12 f1 h so; refine wk_then ?_
          refine wc_seq ?_
          refine wc_region ?_
          refine wl_val (at_move rfl) rfl ?_
          refine wl_val (at_move rfl) rfl ?_
          refine wl_val (at_assign rfl) rfl ?_
          refine wl_val (at_assign rfl) rfl ?_
          refine wl_nil ?_
          refine wk_prune [(6, .int .i64 s5), (7, .int .i64 s11)] ⟨rfl, rfl, trivial⟩ (fun f1 => ?_)
          refine wk_then ?_
          refine wc_ret ?_
          exact wk_ret2 (x := (s5, s11)) rfl (by decide) (by decide) rfl so h
        · intro J10 h hJ10
          refine wc_seq ?_
          refine wc_region ?_
          refine wl_val (at_move rfl) rfl ?_
          refine wl_val (at_move rfl) rfl ?_
          refine wl_val (at_lss rfl rfl) rfl ?_
          refine wl_nil ?_
          refine wk_prune [(1, .int .i64 s5), (2, .int .i64 s8), (24, .bool (decide (s8 < s5)))] ⟨rfl, rfl, rfl, trivial⟩ (fun f1 => ?_)
          refine wk_then ?_
          refine wc_cond rfl h (fun h => ?_) (fun h => ?_)
          · refine wc_region ?_
            refine wl_val (at_move rfl) rfl ?_
            refine wl_val (at_assign rfl) rfl ?_
            refine wl_nil ?_
            exact wk_prune [(1, .int .i64 s5), (2, .int .i64 s5)] ⟨rfl, rfl, trivial⟩ (fun f1 => hJ10 (s5) _ f1 h so)
          · refine wc_skip ?_
            exact wk_prune [(1, .int .i64 s5), (2, .int .i64 s8)] ⟨rfl, rfl, trivial⟩ (fun f1 => hJ10 (s8) _ f1 h so)
      · intro J7 h hJ7
        refine wc_seq ?_
        refine wc_region ?_
        refine wl_val (at_move rfl) rfl ?_
        refine wl_val (at_move rfl) rfl ?_
        refine wl_val (at_lenS Try.underlying9 rfl) rfl ?_
        refine wl_val (at_gtr rfl rfl) rfl ?_
        refine wl_nil ?_
        refine wk_prune [(0, .string a0), (1, .int .i64 s5), (2, .int .i64 a2), (19, .bool (decide ((a0.size : Int) < a2)))] ⟨rfl, rfl, rfl, rfl, trivial⟩ (fun f1 => ?_)
        refine wk_then ?_
        refine wc_cond rfl h (fun h => ?_) (fun h => ?_)
        · refine wc_region ?_
          refine wl_val (at_move rfl) rfl ?_
          refine wl_val (at_lenS Try.underlying9 rfl) rfl ?_
          refine wl_val (at_assign rfl) rfl ?_
          refine wl_nil ?_
          exact wk_prune [(1, .int .i64 s5), (2, .int .i64 (a0.size : Int))] ⟨rfl, rfl, trivial⟩ (fun f1 => hJ7 ((a0.size : Int)) _ f1 h so)
        · refine wc_skip ?_
          exact wk_prune [(1, .int .i64 s5), (2, .int .i64 a2)] ⟨rfl, rfl, trivial⟩ (fun f1 => hJ7 (a2) _ f1 h so)
    · intro J4 h hJ4
      refine wc_seq ?_
      refine wc_region ?_
      refine wl_val (at_move rfl) rfl ?_
      refine wl_val (at_move rfl) rfl ?_
      refine wl_val (at_lenS Try.underlying9 rfl) rfl ?_
      refine wl_val (at_gtr rfl rfl) rfl ?_
      refine wl_nil ?_
      refine wk_prune [(0, .string a0), (1, .int .i64 s2), (2, .int .i64 a2), (13, .bool (decide ((a0.size : Int) < s2)))] ⟨rfl, rfl, rfl, rfl, trivial⟩ (fun f1 => ?_)
      refine wk_then ?_
      refine wc_cond rfl h (fun h => ?_) (fun h => ?_)
      · refine wc_region ?_
        refine wl_val (at_move rfl) rfl ?_
        refine wl_val (at_lenS Try.underlying9 rfl) rfl ?_
        refine wl_val (at_assign rfl) rfl ?_
        refine wl_nil ?_
        exact wk_prune [(0, .string a0), (1, .int .i64 (a0.size : Int)), (2, .int .i64 a2)] ⟨rfl, rfl, rfl, trivial⟩ (fun f1 => hJ4 ((a0.size : Int)) _ f1 h so)
      · refine wc_skip ?_
        exact wk_prune [(0, .string a0), (1, .int .i64 s2), (2, .int .i64 a2)] ⟨rfl, rfl, rfl, trivial⟩ (fun f1 => hJ4 (s2) _ f1 h so)
  · intro J1 h hJ1
    refine wc_seq ?_
    refine wc_region ?_
    refine wl_val (at_move rfl) rfl ?_
    refine wl_val (at_lss rfl rfl) rfl ?_
    refine wl_nil ?_
    refine wk_prune [(0, .string a0), (1, .int .i64 a1), (2, .int .i64 a2), (9, .bool (decide (a1 < 0)))] ⟨rfl, rfl, rfl, rfl, trivial⟩ (fun f1 => ?_)
    refine wk_then ?_
    refine wc_cond rfl h (fun h => ?_) (fun h => ?_)
    · refine wc_region ?_
      refine wl_val (at_assign rfl) rfl ?_
      refine wl_nil ?_
      exact wk_prune [(0, .string a0), (1, .int .i64 0), (2, .int .i64 a2)] ⟨rfl, rfl, rfl, trivial⟩ (fun f1 => hJ1 (0) _ f1 h so)
    · refine wc_skip ?_
      exact wk_prune [(0, .string a0), (1, .int .i64 a1), (2, .int .i64 a2)] ⟨rfl, rfl, rfl, trivial⟩ (fun f1 => hJ1 (a1) _ f1 h so)

/-- mosaic/mosaicref01.Stop -/
def mosaicref01_Stop.enc : Int × Sl → Value := fun r => .tuple #[.int .i64 r.1, .slice r.2.a r.2.n r.2.c]
def mosaicref01_Stop.s (a0 : ByteArray) (a1 : Int) (a2 : Int) (H0 : Hp) (Q : (Int × Sl) → Hp → Prop) : Prop :=
  ∃ k1, Fix (fun (rec6 : (Sl × Int) → Hp → Prop) (s3 : Sl × Int) (H4 : Hp) => if decide (s3.2 < a2) = true then (Join (fun (s8 : Bool) (H9 : Hp) => if s8 = true then (Q (s3.2, s3.1) H9) else (0 ≤ s3.2 ∧ s3.2 < (a0.size : Int) ∧ (∃ k12, Fix (fun (rec17 : (Sl × Int) → Hp → Prop) (s14 : Sl × Int) (H15 : Hp) => if decide ((0 : Int) < s14.2) = true then (s14.2 ≠ 0 ∧ (nw H15 109 (c109 ((Int.tmod (IntKind.wrap .i64 (Int.tdiv (IntKind.wrap .i64 (bt a0 s3.2)) s14.2)) 2) == 1) s3.2) (fun p19 H20 => apS H20 s14.1 109 2 16 z109.cells 1 (c109 ((Int.tmod (IntKind.wrap .i64 (Int.tdiv (IntKind.wrap .i64 (bt a0 s3.2)) s14.2)) 2) == 1) s3.2) (fun l24 H25 => rec17 (l24, (IntKind.wrap .i64 (Int.tdiv s14.2 2))) H25)))) else (if ((IntKind.wrap .i64 (bt a0 s3.2)) == 255) = true then (Lt ((IntKind.wrap .i64 ((IntKind.wrap .i64 (s3.2 + 1)) + 1)) : Int) (fun x26 => rec6 (s14.1, x26) H15)) else (rec6 (s14.1, (IntKind.wrap .i64 (s3.2 + 1))) H15))) k12 (s3.1, 128) H9))) (fun (J7 : Bool → Hp → Prop) => 0 ≤ s3.2 ∧ s3.2 < (a0.size : Int) ∧ (if ((bt a0 s3.2) == 255) = true then (if ((IntKind.wrap .i64 (s3.2 + 1)) == a2) = true then (J7 (true) H4) else (0 ≤ (IntKind.wrap .i64 (s3.2 + 1)) ∧ (IntKind.wrap .i64 (s3.2 + 1)) < (a0.size : Int) ∧ (J7 (((bt a0 (IntKind.wrap .i64 (s3.2 + 1))) != 0)) H4))) else (J7 (false) H4)))) else (Q (a2, s3.1) H4)) k1 (⟨none, 0, 0⟩, a1) H0
set_option maxRecDepth 20000 in
set_option maxHeartbeats 4000000 in
theorem mosaicref01_Stop.calls (a0 : ByteArray) (a1 : Int) (a2 : Int) (w0 : World) (Q : (Int × Sl) → Hp → Prop) (h : mosaicref01_Stop.s a0 a1 a2 w0.heap Q) :
    Ca Try.prog 59 #[.string a0, .int .i64 a1, .int .i64 a2] w0 (Rt mosaicref01_Stop.enc Q w0) := by
  refine ca_start (c := _) Try.func59 rfl Try.ntmps59 rfl ?_
  have so : Sm w0 w0 := Sm.refl w0
  unfold mosaicref01_Stop.s at h
  refine wc_prune [(0, .string a0), (1, .int .i64 a1), (2, .int .i64 a2)] ⟨rfl, rfl, rfl, trivial⟩ (fun f1 => ?_)
  refine wc_seq ?_
  refine wc_region ?_
  refine wl_val (at_assign rfl) rfl ?_
  refine wl_val (at_assign rfl) rfl ?_
  refine wl_nil ?_
  refine wk_prune [(0, .string a0), (1, .int .i64 a1), (2, .int .i64 a2)] ⟨rfl, rfl, rfl, trivial⟩ (fun f1 => ?_)
  refine wk_then ?_
  refine wc_seq ?_
  refine wc_region ?_
  refine wl_val (at_assign rfl) rfl ?_
  refine wl_nil ?_
  refine wk_prune [(0, .string a0), (1, .int .i64 a1), (2, .int .i64 a2), (8, .slice none 0 0)] ⟨rfl, rfl, rfl, rfl, trivial⟩ (fun f1 => ?_)
  refine wk_then ?_
  refine wc_seq ?_
  refine wc_region ?_
  refine wl_val (at_move rfl) rfl ?_
  refine wl_val (at_assign rfl) rfl ?_
  refine wl_nil ?_
  refine wk_prune [(0, .string a0), (2, .int .i64 a2), (8, .slice none 0 0), (9, .int .i64 a1)] ⟨rfl, rfl, rfl, rfl, trivial⟩ (fun f1 => ?_)
  refine wk_then ?_
  refine wc_seq ?_
  refine wc_block ?_
  obtain ⟨k1, h⟩ := h
  refine wc_loop (fun k a w => ∃ (s3 : Sl × Int) (f1 : Nat → Value), a = ac 61 (en f1 [(0, .string a0), (2, .int .i64 a2), (8, .slice s3.1.a s3.1.n s3.1.c), (9, .int .i64 s3.2)]) [] ∧ Sm w0 w ∧ Fix _ k s3 w.heap) k1 ⟨(⟨none, 0, 0⟩, a1), _, ac_again ⟨rfl, rfl, rfl, rfl, trivial⟩, so, h⟩ ?_
  rintro k2 a5 w4 ⟨s3, f1, rfl, so, h⟩
  rcases k2 with _ | k2
  · exact h.elim
  replace h := Fix.un h; refine wc_in ?_
  refine wc_seq ?_
  refine wc_seq ?_
  refine wc_region ?_
  refine wl_val (at_move rfl) rfl ?_
  refine wl_val (at_move rfl) rfl ?_
  refine wl_val (at_lss rfl rfl) rfl ?_
  refine wl_nil ?_
  refine wk_prune [(0, .string a0), (2, .int .i64 a2), (8, .slice s3.1.a s3.1.n s3.1.c), (9, .int .i64 s3.2), (15, .bool (decide (s3.2 < a2)))] ⟨rfl, rfl, rfl, rfl, rfl, trivial⟩ (fun f1 => ?_)
  refine wk_then ?_
  refine wc_cond rfl h (fun h => ?_) (fun h => ?_)
  · refine wc_skip ?_
    refine wk_prune [(0, .string a0), (2, .int .i64 a2), (8, .slice s3.1.a s3.1.n s3.1.c), (9, .int .i64 s3.2)] ⟨rfl, rfl, rfl, rfl, trivial⟩ (fun f1 => ?_)
    refine wk_then ?_
    refine wc_block ?_
    refine wc_seq ?_
    refine wc_seq ?_
    refine wc_join (w0 := w0) (fun (s8 : Bool) => [(0, .string a0), (2, .int .i64 a2), (8, .slice s3.1.a s3.1.n s3.1.c), (9, .int .i64 s3.2), (32, .bool s8)]) h ?_ ?_
    · rintro s8 w9 f1 h so; refine wk_then ?_
      refine wc_cond rfl h (fun h => ?_) (fun h => ?_)
      · refine wc_seq ?_
        refine wc_region ?_
        refine wl_val (at_move rfl) rfl ?_
        refine wl_val (at_move rfl) rfl ?_
        refine wl_val (at_assign rfl) rfl ?_
        refine wl_val (at_assign rfl) rfl ?_
        refine wl_nil ?_
        refine wk_prune [(6, .int .i64 s3.2), (7, .slice s3.1.a s3.1.n s3.1.c)] ⟨rfl, rfl, trivial⟩ (fun f1 => ?_)
        refine wk_then ?_
        refine wc_ret ?_
        refine wk_thenR ?_
        refine wk_blkR ?_
        refine wk_thenR ?_
        refine wk_blkR ?_
        refine wk_thenR ?_
        exact wk_ret2 (x := (s3.2, s3.1)) rfl (by decide) (by decide) rfl so h
      · refine wc_skip ?_
        refine wk_prune [(0, .string a0), (2, .int .i64 a2), (8, .slice s3.1.a s3.1.n s3.1.c), (9, .int .i64 s3.2)] ⟨rfl, rfl, rfl, rfl, trivial⟩ (fun f1 => ?_)
        refine wk_then ?_
        refine wc_seq ?_
        refine wc_region ?_
        refine wl_val (at_move rfl) rfl ?_
        refine wl_val (at_move rfl) rfl ?_
        obtain ⟨q10, q11, h⟩ := h
        refine wl_val (at_ixS Try.underlying9 rfl rfl q10 q11) rfl ?_
        refine wl_val (at_conv Try.underlying5 Try.underlying3 rfl) rfl ?_
        refine wl_val (at_assign rfl) rfl ?_
        refine wl_nil ?_
        refine wk_prune [(0, .string a0), (2, .int .i64 a2), (8, .slice s3.1.a s3.1.n s3.1.c), (9, .int .i64 s3.2), (10, .int .i64 (IntKind.wrap .i64 (bt a0 s3.2)))] ⟨rfl, rfl, rfl, rfl, rfl, trivial⟩ (fun f1 => ?_)
        refine wk_then ?_
        refine wc_seq ?_
        refine wc_seq ?_
        refine wc_region ?_
        refine wl_val (at_assign rfl) rfl ?_
        refine wl_nil ?_
        refine wk_prune [(0, .string a0), (2, .int .i64 a2), (8, .slice s3.1.a s3.1.n s3.1.c), (9, .int .i64 s3.2), (10, .int .i64 (IntKind.wrap .i64 (bt a0 s3.2))), (11, .int .i64 128)] ⟨rfl, rfl, rfl, rfl, rfl, rfl, trivial⟩ (fun f1 => ?_)
        refine wk_then ?_
        refine wc_block ?_
        obtain ⟨k12, h⟩ := h
        refine wc_loop (fun k a w => ∃ (s14 : Sl × Int) (f1 : Nat → Value), a = ac 61 (en f1 [(0, .string a0), (2, .int .i64 a2), (8, .slice s14.1.a s14.1.n s14.1.c), (9, .int .i64 s3.2), (10, .int .i64 (IntKind.wrap .i64 (bt a0 s3.2))), (11, .int .i64 s14.2)]) [] ∧ Sm w0 w ∧ Fix _ k s14 w.heap) k12 ⟨(s3.1, 128), _, ac_again ⟨rfl, rfl, rfl, rfl, rfl, rfl, trivial⟩, so, h⟩ ?_
        rintro k13 a16 w15 ⟨s14, f1, rfl, so, h⟩
        rcases k13 with _ | k13
        · exact h.elim
        replace h := Fix.un h; refine wc_in ?_
        refine wc_seq ?_
        refine wc_seq ?_
        refine wc_region ?_
        refine wl_val (at_move rfl) rfl ?_
        refine wl_val (at_gtr rfl rfl) rfl ?_
        refine wl_nil ?_
        refine wk_prune [(0, .string a0), (2, .int .i64 a2), (8, .slice s14.1.a s14.1.n s14.1.c), (9, .int .i64 s3.2), (10, .int .i64 (IntKind.wrap .i64 (bt a0 s3.2))), (11, .int .i64 s14.2), (40, .bool (decide ((0 : Int) < s14.2)))] ⟨rfl, rfl, rfl, rfl, rfl, rfl, rfl, trivial⟩ (fun f1 => ?_)
        refine wk_then ?_
        refine wc_cond rfl h (fun h => ?_) (fun h => ?_)
        · refine wc_skip ?_
          refine wk_prune [(0, .string a0), (2, .int .i64 a2), (8, .slice s14.1.a s14.1.n s14.1.c), (9, .int .i64 s3.2), (10, .int .i64 (IntKind.wrap .i64 (bt a0 s3.2))), (11, .int .i64 s14.2)] ⟨rfl, rfl, rfl, rfl, rfl, rfl, trivial⟩ (fun f1 => ?_)
          refine wk_then ?_
          refine wc_seq ?_
          refine wc_block ?_
          refine wc_region ?_
          refine wl_val (at_move rfl) rfl ?_
          refine wl_val (at_move rfl) rfl ?_
          refine wl_val (at_move rfl) rfl ?_
          obtain ⟨q18, h⟩ := h
          refine wl_val (at_quo rfl rfl q18) rfl ?_
          refine wl_val (at_rem rfl rfl (by decide)) rfl ?_
          refine wl_val (at_eql rfl rfl) rfl ?_
          refine wl_val (at_move rfl) rfl ?_
          refine wl_val (at_build (cs := (c109 ((Int.tmod (IntKind.wrap .i64 (Int.tdiv (IntKind.wrap .i64 (bt a0 s3.2)) s14.2)) 2) == 1) s3.2)) (ps := [(0, .bool ((Int.tmod (IntKind.wrap .i64 (Int.tdiv (IntKind.wrap .i64 (bt a0 s3.2)) s14.2)) 2) == 1)), (1, .int .i64 s3.2)]) rfl (fun w => by simp [Instr.build, Instr.fill, go_sem, Try.underlying109, z109])) rfl ?_
          obtain ⟨i22, i22a, i22b, i22c, i22d⟩ := info109
          refine wl_newS (ef_buildSlice (cs := (c109 ((Int.tmod (IntKind.wrap .i64 (Int.tdiv (IntKind.wrap .i64 (bt a0 s3.2)) s14.2)) 2) == 1) s3.2)) (ps := [(0, .agg (c109 ((Int.tmod (IntKind.wrap .i64 (Int.tdiv (IntKind.wrap .i64 (bt a0 s3.2)) s14.2)) 2) == 1) s3.2).toArray)]) Try.underlying103 i22a i22b rfl (by rw [i22c]; decide) (by rw [i22c]; exact fill_full (vs := [.agg (c109 ((Int.tmod (IntKind.wrap .i64 (Int.tdiv (IntKind.wrap .i64 (bt a0 s3.2)) s14.2)) 2) == 1) s3.2).toArray]) rfl (by simp [Value.cells]) (by simp [Value.cells, len109]) rfl (by simp))) rfl so (one109 _ _) h ?_; intro p19 w20 h r21 so
          obtain ⟨i23, i23a, i23b, i23c, i23d⟩ := info109
          refine wl_ap (fx_append (s := s14.1) (t := ⟨(some p19), 1, 1⟩) (m := 1) (xs := (c109 ((Int.tmod (IntKind.wrap .i64 (Int.tdiv (IntKind.wrap .i64 (bt a0 s3.2)) s14.2)) 2) == 1) s3.2)) Try.underlying103 Try.underlying103 i23a i23b i23c i23d rfl rfl rfl (by first | rfl | simp [len109]) r21 h) rfl so ?_; intro l24 w25 h so
          refine wl_val (at_assign rfl) rfl ?_
          refine wl_nil ?_
          refine wk_blkN ?_
          refine wk_prune [(0, .string a0), (2, .int .i64 a2), (8, .slice l24.a l24.n l24.c), (9, .int .i64 s3.2), (10, .int .i64 (IntKind.wrap .i64 (bt a0 s3.2))), (11, .int .i64 s14.2)] ⟨rfl, rfl, rfl, rfl, rfl, rfl, trivial⟩ (fun f1 => ?_)
          refine wk_then ?_
          refine wc_region ?_
          refine wl_val (at_move rfl) rfl ?_
          refine wl_val (at_quo rfl rfl (by decide)) rfl ?_
          refine wl_val (at_assign rfl) rfl ?_
          refine wl_nil ?_
          exact wk_again ⟨(l24, (IntKind.wrap .i64 (Int.tdiv s14.2 2))), _, ac_again ⟨rfl, rfl, rfl, rfl, rfl, rfl, trivial⟩, so, h⟩
        · refine wc_exit ?_
          refine wk_thenE ?_
          refine wk_thenE ?_
          refine wk_blkE ?_
          refine wk_prune [(0, .string a0), (2, .int .i64 a2), (8, .slice s14.1.a s14.1.n s14.1.c), (9, .int .i64 s3.2), (10, .int .i64 (IntKind.wrap .i64 (bt a0 s3.2)))] ⟨rfl, rfl, rfl, rfl, rfl, trivial⟩ (fun f1 => ?_)
          refine wk_then ?_
          refine wc_seq ?_
          refine wc_region ?_
          refine wl_val (at_move rfl) rfl ?_
          refine wl_val (at_add rfl rfl) rfl ?_
          refine wl_val (at_assign rfl) rfl ?_
          refine wl_nil ?_
          refine wk_prune [(0, .string a0), (2, .int .i64 a2), (8, .slice s14.1.a s14.1.n s14.1.c), (9, .int .i64 (IntKind.wrap .i64 (s3.2 + 1))), (10, .int .i64 (IntKind.wrap .i64 (bt a0 s3.2)))] ⟨rfl, rfl, rfl, rfl, rfl, trivial⟩ (fun f1 => ?_)
          refine wk_then ?_
          refine wc_seq ?_
          refine wc_region ?_
          refine wl_val (at_move rfl) rfl ?_
          refine wl_val (at_eql rfl rfl) rfl ?_
          refine wl_nil ?_
          refine wk_prune [(0, .string a0), (2, .int .i64 a2), (8, .slice s14.1.a s14.1.n s14.1.c), (9, .int .i64 (IntKind.wrap .i64 (s3.2 + 1))), (56, .bool ((IntKind.wrap .i64 (bt a0 s3.2)) == 255))] ⟨rfl, rfl, rfl, rfl, rfl, trivial⟩ (fun f1 => ?_)
          refine wk_then ?_
          refine wc_cond rfl h (fun h => ?_) (fun h => ?_)
          · refine wc_region ?_
            refine wl_val (at_move rfl) rfl ?_
            refine wl_val (at_add rfl rfl) rfl ?_
            refine wl_val (at_assign rfl) rfl ?_
            obtain ⟨x26, e27⟩ : ∃ x : Int, x = (IntKind.wrap .i64 ((IntKind.wrap .i64 (s3.2 + 1)) + 1)) := ⟨_, rfl⟩; replace h := h x26 e27
            refine wl_set (t := 9) (v := .int .i64 x26) (congrArg (Value.int .i64) e27.symm) ?_
            refine wl_nil ?_
            refine wk_blkN ?_
            exact wk_again ⟨(s14.1, x26), _, ac_again ⟨rfl, rfl, rfl, rfl, trivial⟩, so, h⟩
          · refine wc_skip ?_
            refine wk_blkN ?_
            exact wk_again ⟨(s14.1, (IntKind.wrap .i64 (s3.2 + 1))), _, ac_again ⟨rfl, rfl, rfl, rfl, trivial⟩, so, h⟩
    · intro J7 h hJ7
      refine wc_region ?_
      refine wl_val (at_move rfl) rfl ?_
      refine wl_val (at_move rfl) rfl ?_
      obtain ⟨q28, q29, h⟩ := h
      refine wl_val (at_ixS Try.underlying9 rfl rfl q28 q29) rfl ?_
      refine wl_val (at_eql rfl rfl) rfl ?_
      refine wl_val (at_move rfl) rfl ?_
      refine bif_ h (fun hb h => ?_) (fun hb h => ?_)
      · refine wl_set (t := 20) (v := .bool true) (congrArg Value.bool hb) ?_; clear hb
        refine wl_on (t := 20) rfl (by decide) rfl ?_
        refine wl_val (at_move rfl) rfl ?_
        refine wl_on (t := 20) rfl (by decide) rfl ?_
        refine wl_val (at_add rfl rfl) rfl ?_
        refine wl_on (t := 20) rfl (by decide) rfl ?_
        refine wl_val (at_move rfl) rfl ?_
        refine wl_on (t := 20) rfl (by decide) rfl ?_
        refine wl_val (at_eql rfl rfl) rfl ?_
        refine wl_on (t := 20) rfl (by decide) rfl ?_
        refine wl_val (at_move rfl) rfl ?_
        refine bif_ h (fun hb h => ?_) (fun hb h => ?_)
        · refine wl_set (t := 25) (v := .bool true) (congrArg Value.bool hb) ?_; clear hb
          refine wl_off (t := 25) rfl (by decide) rfl ?_
          refine wl_off (t := 25) rfl (by decide) rfl ?_
          refine wl_off (t := 25) rfl (by decide) rfl ?_
          refine wl_off (t := 25) rfl (by decide) rfl ?_
          refine wl_off (t := 25) rfl (by decide) rfl ?_
          refine wl_on (t := 20) rfl (by decide) rfl ?_
          refine wl_val (at_pick_t rfl rfl) rfl ?_
          refine wl_val (at_pick_t rfl rfl) rfl ?_
          refine wl_nil ?_
          exact wk_prune [(0, .string a0), (2, .int .i64 a2), (8, .slice s3.1.a s3.1.n s3.1.c), (9, .int .i64 s3.2), (32, .bool true)] ⟨rfl, rfl, rfl, rfl, rfl, trivial⟩ (fun f1 => hJ7 (true) _ f1 h so)
        · refine wl_set (t := 25) (v := .bool false) (congrArg Value.bool hb) ?_; clear hb
          refine wl_on (t := 25) rfl (by decide) rfl ?_
          refine wl_val (at_move rfl) rfl ?_
          refine wl_on (t := 25) rfl (by decide) rfl ?_
          refine wl_val (at_move rfl) rfl ?_
          refine wl_on (t := 25) rfl (by decide) rfl ?_
          refine wl_val (at_add rfl rfl) rfl ?_
          refine wl_on (t := 25) rfl (by decide) rfl ?_
          obtain ⟨q30, q31, h⟩ := h
          refine wl_val (at_ixS Try.underlying9 rfl rfl q30 q31) rfl ?_
          refine wl_on (t := 25) rfl (by decide) rfl ?_
          refine wl_val (at_neq rfl rfl) rfl ?_
          refine wl_on (t := 20) rfl (by decide) rfl ?_
          refine wl_val (at_pick_f rfl rfl) rfl ?_
          refine wl_val (at_pick_t rfl rfl) rfl ?_
          refine wl_nil ?_
          exact wk_prune [(0, .string a0), (2, .int .i64 a2), (8, .slice s3.1.a s3.1.n s3.1.c), (9, .int .i64 s3.2), (32, .bool ((bt a0 (IntKind.wrap .i64 (s3.2 + 1))) != 0))] ⟨rfl, rfl, rfl, rfl, rfl, trivial⟩ (fun f1 => hJ7 (((bt a0 (IntKind.wrap .i64 (s3.2 + 1))) != 0)) _ f1 h so)
      · refine wl_set (t := 20) (v := .bool false) (congrArg Value.bool hb) ?_; clear hb
        refine wl_off (t := 20) rfl (by decide) rfl ?_
        refine wl_off (t := 20) rfl (by decide) rfl ?_
        refine wl_off (t := 20) rfl (by decide) rfl ?_
        refine wl_off (t := 20) rfl (by decide) rfl ?_
        refine wl_off (t := 20) rfl (by decide) rfl ?_
        refine wl_off' (t := 25) rfl (by decide) rfl ?_
        refine wl_off' (t := 25) rfl (by decide) rfl ?_
        refine wl_off' (t := 25) rfl (by decide) rfl ?_
        refine wl_off' (t := 25) rfl (by decide) rfl ?_
        refine wl_off' (t := 25) rfl (by decide) rfl ?_
        refine wl_off (t := 20) rfl (by decide) rfl ?_
        refine wl_val (at_pick_f rfl rfl) rfl ?_
        refine wl_nil ?_
        exact wk_prune [(0, .string a0), (2, .int .i64 a2), (8, .slice s3.1.a s3.1.n s3.1.c), (9, .int .i64 s3.2), (32, .bool false)] ⟨rfl, rfl, rfl, rfl, rfl, trivial⟩ (fun f1 => hJ7 (false) _ f1 h so)
  · refine wc_exit ?_
    refine wk_thenE ?_
    refine wk_thenE ?_
    refine wk_blkE ?_
    refine wk_prune [(2, .int .i64 a2), (8, .slice s3.1.a s3.1.n s3.1.c)] ⟨rfl, rfl, trivial⟩ (fun f1 => ?_)
    refine wk_then ?_
    refine wc_seq ?_
    refine wc_region ?_
    refine wl_val (at_move rfl) rfl ?_
    refine wl_val (at_move rfl) rfl ?_
    refine wl_val (at_assign rfl) rfl ?_
    refine wl_val (at_assign rfl) rfl ?_
    refine wl_nil ?_
    refine wk_prune [(6, .int .i64 a2), (7, .slice s3.1.a s3.1.n s3.1.c)] ⟨rfl, rfl, trivial⟩ (fun f1 => ?_)
    refine wk_then ?_
    refine wc_ret ?_
    exact wk_ret2 (x := (a2, s3.1)) rfl (by decide) (by decide) rfl so h

/-- mosaic/mosaicref01.Open -/
def mosaicref01_Open.enc : (Option Addr) → Value := fun r => .pointer r
def mosaicref01_Open.s (a0 : ByteArray) (a1 : Int) (a2 : Int) (H0 : Hp) (Q : (Option Addr) → Hp → Prop) : Prop :=
  mosaicref01_Bounds.s a0 a1 a2 H0 (fun x1 H2 => mosaicref01_Stop.s a0 x1.1 x1.2 H2 (fun x3 H4 => Gn [] H4 (fun (b5 : Nat) (H6 : Hp) => Bk H6 b5 107 (c107 x3.2 x3.1 0) → (Q (some (⟨b5, 0, none⟩ : Addr)) H6))))
set_option maxRecDepth 20000 in
set_option maxHeartbeats 4000000 in
theorem mosaicref01_Open.calls (a0 : ByteArray) (a1 : Int) (a2 : Int) (w0 : World) (Q : (Option Addr) → Hp → Prop) (h : mosaicref01_Open.s a0 a1 a2 w0.heap Q) :
    Ca Try.prog 32 #[.string a0, .int .i64 a1, .int .i64 a2] w0 (Rt mosaicref01_Open.enc Q w0) := by
  refine ca_start (c := _) Try.func32 rfl Try.ntmps32 rfl ?_
  have so : Sm w0 w0 := Sm.refl w0
  unfold mosaicref01_Open.s at h
  refine wc_prune [(0, .string a0), (1, .int .i64 a1), (2, .int .i64 a2)] ⟨rfl, rfl, rfl, trivial⟩ (fun f1 => ?_)
  refine wc_seq ?_
  refine wc_region ?_
  refine wl_val (at_assign rfl) rfl ?_
  refine wl_nil ?_
  refine wk_prune [(0, .string a0), (1, .int .i64 a1), (2, .int .i64 a2)] ⟨rfl, rfl, rfl, trivial⟩ (fun f1 => ?_)
  refine wk_then ?_
  refine wc_seq ?_
  refine wc_region ?_
  refine wl_val (at_move rfl) rfl ?_
  refine wl_val (at_move rfl) rfl ?_
  refine wl_val (at_move rfl) rfl ?_
  refine wl_callF (mosaicref01_Bounds.calls _ _ _ _ _ h) enter58 rfl trivial so ?_; intro x1 w2 h so
  refine wl_val (at_move rfl) rfl ?_
  refine wl_val (at_extract rfl rfl) rfl ?_
  refine wl_val (at_extract rfl rfl) rfl ?_
  refine wl_val (at_assign rfl) rfl ?_
  refine wl_val (at_assign rfl) rfl ?_
  refine wl_nil ?_
  refine wk_prune [(0, .string a0), (7, .int .i64 x1.1), (8, .int .i64 x1.2)] ⟨rfl, rfl, rfl, trivial⟩ (fun f1 => ?_)
  refine wk_then ?_
  refine wc_seq ?_
  refine wc_region ?_
  refine wl_val (at_move rfl) rfl ?_
  refine wl_val (at_move rfl) rfl ?_
  refine wl_val (at_move rfl) rfl ?_
  refine wl_callF (mosaicref01_Stop.calls _ _ _ _ _ h) enter59 rfl trivial so ?_; intro x3 w4 h so
  refine wl_val (at_move rfl) rfl ?_
  refine wl_val (at_extract rfl rfl) rfl ?_
  refine wl_val (at_extract rfl rfl) rfl ?_
  refine wl_val (at_assign rfl) rfl ?_
  refine wl_val (at_assign rfl) rfl ?_
  refine wl_nil ?_
  refine wk_prune [(9, .int .i64 x3.1), (10, .slice x3.2.a x3.2.n x3.2.c)] ⟨rfl, rfl, trivial⟩ (fun f1 => ?_)
  refine wk_then ?_
  refine wc_seq ?_
  refine wc_region ?_
  refine wl_val (at_move rfl) rfl ?_
  refine wl_val (at_move rfl) rfl ?_
  refine wl_val (at_build (cs := (c107 x3.2 x3.1 0)) (ps := [(0, .slice x3.2.a x3.2.n x3.2.c), (1, .int .i64 x3.1)]) rfl (fun w => by simp [Instr.build, Instr.fill, go_sem, Try.underlying107, z107])) rfl ?_
  refine wl_newT (T := 107) (cs := (c107 x3.2 x3.1 0)) (ef_box rfl rfl) rfl so ?_; intro b5 w6 hb_b5 t_b5 k_b5 so
  have g_b5 := Nat.le_of_eq hb_b5.symm
  have hc := k_b5.ch (F := [])
  refine wl_val (at_assign rfl) rfl ?_
  refine wl_nil ?_
  refine wk_prune [(6, .pointer (some (⟨b5, 0, none⟩ : Addr)))] ⟨rfl, trivial⟩ (fun f1 => ?_)
  refine wk_then ?_
  refine wc_ret ?_
  replace h := h b5 _ hc g_b5 t_b5.lt; clear hc
  replace h := h t_b5
  exact wk_ret1 (x := (some (⟨b5, 0, none⟩ : Addr))) rfl (by decide) rfl so h

/-- (*mosaic/mosaicref01.Source).Skip -/
def mosaicref01_Source_Skip.enc : Bool → Value := fun r => .bool r
def mosaicref01_Source_Skip.s (a0 : Option Addr) (a1 : Int) (H0 : Hp) (Q : Bool → Hp → Prop) : Prop :=
  Join (fun (s2 : Bool) (H3 : Hp) => if s2 = true then (Q false H3) else (someA a0 (fun p4 => ldL H3 (p4.add 0) (fun x6 => 0 ≤ a1 ∧ a1 ≤ (x6.n : Int) ∧ (st H3 (p4.add 0) (.slice ((slS x6 2 a1 (x6.n : Int)).a) ((slS x6 2 a1 (x6.n : Int)).n) ((slS x6 2 a1 (x6.n : Int)).c)) (fun H10 => ldI .i64 H10 (p4.add 2) (fun x11 => st H10 (p4.add 2) (.int .i64 (IntKind.wrap .i64 (x11 + a1))) (fun H13 => Q true H13)))))))) (fun (J1 : Bool → Hp → Prop) => if decide (a1 < 0) = true then (J1 (true) H0) else (someA a0 (fun p14 => ldL H0 (p14.add 0) (fun x16 => J1 ((decide ((x16.n : Int) < a1))) H0))))
set_option maxRecDepth 20000 in
set_option maxHeartbeats 4000000 in
theorem mosaicref01_Source_Skip.calls (a0 : Option Addr) (a1 : Int) (w0 : World) (Q : Bool → Hp → Prop) (h : mosaicref01_Source_Skip.s a0 a1 w0.heap Q) :
    Ca Try.prog 34 #[.pointer a0, .int .i64 a1] w0 (Rt mosaicref01_Source_Skip.enc Q w0) := by
  refine ca_start (c := _) Try.func34 rfl Try.ntmps34 rfl ?_
  have so : Sm w0 w0 := Sm.refl w0
  unfold mosaicref01_Source_Skip.s at h
  refine wc_prune [(0, .pointer a0), (1, .int .i64 a1)] ⟨rfl, rfl, trivial⟩ (fun f1 => ?_)
  refine wc_seq ?_
  refine wc_region ?_
  refine wl_val (at_assign rfl) rfl ?_
  refine wl_nil ?_
  refine wk_prune [(0, .pointer a0), (1, .int .i64 a1)] ⟨rfl, rfl, trivial⟩ (fun f1 => ?_)
  refine wk_then ?_
  refine wc_seq ?_
  refine wc_seq ?_
  refine wc_join (w0 := w0) (fun (s2 : Bool) => [(0, .pointer a0), (1, .int .i64 a1), (15, .bool s2)]) h ?_ ?_
  · rintro s2 w3 f1 h so; refine wk_then ?_
    refine wc_cond rfl h (fun h => ?_) (fun h => ?_)
    · refine wc_seq ?_
      refine wc_region ?_
      refine wl_val (at_assign rfl) rfl ?_
      refine wl_nil ?_
      refine wk_prune [(4, .bool false)] ⟨rfl, trivial⟩ (fun f1 => ?_)
      refine wk_then ?_
      refine wc_ret ?_
      refine wk_thenR ?_
      exact wk_ret1 (x := false) rfl (by decide) rfl so h
    · refine wc_skip ?_
      refine wk_prune [(0, .pointer a0), (1, .int .i64 a1)] ⟨rfl, rfl, trivial⟩ (fun f1 => ?_)
      refine wk_then ?_
      refine wc_seq ?_
      refine wc_region ?_
      refine wl_val (at_move rfl) rfl ?_
      refine wl_val (at_move rfl) rfl ?_
      obtain ⟨p4, q5, h⟩ := h
      refine wl_val (at_nilCheck (congrArg Value.pointer q5)) rfl ?_
      refine wl_val (at_fieldAddr Try.underlying107 rfl rfl sz103 (by decide) rfl) rfl ?_
      obtain ⟨x6, q7, h⟩ := h
      refine wl_val (at_load Try.underlying103 rfl rfl q7) rfl ?_
      refine wl_val (at_move rfl) rfl ?_
      obtain ⟨q8, q9, h⟩ := h
      refine wl_val (at_subLl (s := x6) Try.underlying103 sz109 rfl rfl q8 q9) rfl ?_
      refine wl_val (at_nilCheck (congrArg Value.pointer q5)) rfl ?_
      refine wl_val (at_fieldAddr Try.underlying107 rfl rfl sz103 (by decide) rfl) rfl ?_
      refine wl_st (v := .slice ((slS x6 2 a1 (x6.n : Int)).a) ((slS x6 2 a1 (x6.n : Int)).n) ((slS x6 2 a1 (x6.n : Int)).c)) h rfl so (fun q1 q2 => ef_store (sz := sz103) rfl rfl rfl q1 q2) ?_; intro w10 h so
      refine wl_nil ?_
      refine wk_prune [(0, .pointer a0), (1, .int .i64 a1)] ⟨rfl, rfl, trivial⟩ (fun f1 => ?_)
      refine wk_then ?_
      refine wc_seq ?_
      refine wc_region ?_
      refine wl_val (at_move rfl) rfl ?_
      refine wl_val (at_move rfl) rfl ?_
      refine wl_val (at_nilCheck (congrArg Value.pointer q5)) rfl ?_
      refine wl_val (at_fieldAddr Try.underlying107 rfl rfl sz3 (by decide) rfl) rfl ?_
      obtain ⟨x11, q12, h⟩ := h
      refine wl_val (at_load Try.underlying3 rfl rfl q12) rfl ?_
      refine wl_val (at_move rfl) rfl ?_
      refine wl_val (at_add rfl rfl) rfl ?_
      refine wl_val (at_nilCheck (congrArg Value.pointer q5)) rfl ?_
      refine wl_val (at_fieldAddr Try.underlying107 rfl rfl sz3 (by decide) rfl) rfl ?_
      refine wl_st (v := .int .i64 (IntKind.wrap .i64 (x11 + a1))) h rfl so (fun q1 q2 => ef_store (sz := sz3) rfl rfl rfl q1 q2) ?_; intro w13 h so
      refine wl_nil ?_
      refine wk_prune [] trivial (fun f1 => ?_)
      refine wk_then ?_
      refine wc_seq ?_
      refine wc_region ?_
      refine wl_val (at_assign rfl) rfl ?_
      refine wl_nil ?_
      refine wk_prune [(4, .bool true)] ⟨rfl, trivial⟩ (fun f1 => ?_)
      refine wk_then ?_
      refine wc_ret ?_
      exact wk_ret1 (x := true) rfl (by decide) rfl so h
  · intro J1 h hJ1
    refine wc_region ?_
    refine wl_val (at_move rfl) rfl ?_
    refine wl_val (at_lss rfl rfl) rfl ?_
    refine wl_val (at_move rfl) rfl ?_
    refine bif_ h (fun hb h => ?_) (fun hb h => ?_)
    · refine wl_set (t := 7) (v := .bool true) (congrArg Value.bool hb) ?_; clear hb
      refine wl_off (t := 7) rfl (by decide) rfl ?_
      refine wl_off (t := 7) rfl (by decide) rfl ?_
      refine wl_off (t := 7) rfl (by decide) rfl ?_
      refine wl_off (t := 7) rfl (by decide) rfl ?_
      refine wl_off (t := 7) rfl (by decide) rfl ?_
      refine wl_off (t := 7) rfl (by decide) rfl ?_
      refine wl_off (t := 7) rfl (by decide) rfl ?_
      refine wl_val (at_pick_t rfl rfl) rfl ?_
      refine wl_nil ?_
      exact wk_prune [(0, .pointer a0), (1, .int .i64 a1), (15, .bool true)] ⟨rfl, rfl, rfl, trivial⟩ (fun f1 => hJ1 (true) _ f1 h so)
    · refine wl_set (t := 7) (v := .bool false) (congrArg Value.bool hb) ?_; clear hb
      refine wl_on (t := 7) rfl (by decide) rfl ?_
      refine wl_val (at_move rfl) rfl ?_
      refine wl_on (t := 7) rfl (by decide) rfl ?_
      refine wl_val (at_move rfl) rfl ?_
      refine wl_on (t := 7) rfl (by decide) rfl ?_
      obtain ⟨p14, q15, h⟩ := h
      refine wl_val (at_nilCheck (congrArg Value.pointer q15)) rfl ?_
      refine wl_on (t := 7) rfl (by decide) rfl ?_
      refine wl_val (at_fieldAddr Try.underlying107 rfl rfl sz103 (by decide) rfl) rfl ?_
      refine wl_on (t := 7) rfl (by decide) rfl ?_
      obtain ⟨x16, q17, h⟩ := h
      refine wl_val (at_load Try.underlying103 rfl rfl q17) rfl ?_
      refine wl_on (t := 7) rfl (by decide) rfl ?_
      refine wl_val (at_lenL Try.underlying103 rfl) rfl ?_
      refine wl_on (t := 7) rfl (by decide) rfl ?_
      refine wl_val (at_gtr rfl rfl) rfl ?_
      refine wl_val (at_pick_f rfl rfl) rfl ?_
      refine wl_nil ?_
      exact wk_prune [(0, .pointer a0), (1, .int .i64 a1), (15, .bool (decide ((x16.n : Int) < a1)))] ⟨rfl, rfl, rfl, trivial⟩ (fun f1 => hJ1 ((decide ((x16.n : Int) < a1))) _ f1 h so)

/-- (*mosaic/mosaicref01.Source).Left -/
def mosaicref01_Source_Left.enc : Int → Value := fun r => .int .i64 r
def mosaicref01_Source_Left.s (a0 : Option Addr) (H0 : Hp) (Q : Int → Hp → Prop) : Prop :=
  someA a0 (fun p1 => ldL H0 (p1.add 0) (fun x3 => Q (x3.n : Int) H0))
set_option maxRecDepth 20000 in
set_option maxHeartbeats 4000000 in
theorem mosaicref01_Source_Left.calls (a0 : Option Addr) (w0 : World) (Q : Int → Hp → Prop) (h : mosaicref01_Source_Left.s a0 w0.heap Q) :
    Ca Try.prog 37 #[.pointer a0] w0 (Rt mosaicref01_Source_Left.enc Q w0) := by
  refine ca_start (c := _) Try.func37 rfl Try.ntmps37 rfl ?_
  have so : Sm w0 w0 := Sm.refl w0
  unfold mosaicref01_Source_Left.s at h
  refine wc_prune [(0, .pointer a0)] ⟨rfl, trivial⟩ (fun f1 => ?_)
  refine wc_seq ?_
  refine wc_region ?_
  refine wl_val (at_assign rfl) rfl ?_
  refine wl_nil ?_
  refine wk_prune [(0, .pointer a0)] ⟨rfl, trivial⟩ (fun f1 => ?_)
  refine wk_then ?_
  refine wc_seq ?_
  refine wc_region ?_
  refine wl_val (at_move rfl) rfl ?_
  obtain ⟨p1, q2, h⟩ := h
  refine wl_val (at_nilCheck (congrArg Value.pointer q2)) rfl ?_
  refine wl_val (at_fieldAddr Try.underlying107 rfl rfl sz103 (by decide) rfl) rfl ?_
  obtain ⟨x3, q4, h⟩ := h
  refine wl_val (at_load Try.underlying103 rfl rfl q4) rfl ?_
  refine wl_val (at_lenL Try.underlying103 rfl) rfl ?_
  refine wl_val (at_assign rfl) rfl ?_
  refine wl_nil ?_
  refine wk_prune [(2, .int .i64 (x3.n : Int))] ⟨rfl, trivial⟩ (fun f1 => ?_)
  refine wk_then ?_
  refine wc_ret ?_
  exact wk_ret1 (x := (x3.n : Int)) rfl (by decide) rfl so h

/-- (*mosaic/mosaicref01.Source).At -/
def mosaicref01_Source_At.enc : Int → Value := fun r => .int .i64 r
def mosaicref01_Source_At.s (a0 : Option Addr) (H0 : Hp) (Q : Int → Hp → Prop) : Prop :=
  someA a0 (fun p1 => ldL H0 (p1.add 0) (fun x3 => if ((x3.n : Int) == 0) = true then (ldI .i64 H0 (p1.add 1) (fun x5 => Q x5 H0)) else (ldL H0 (p1.add 0) (fun x7 => 0 ≤ (0 : Int) ∧ (0 : Int) < (x7.n : Int) ∧ someA x7.a (fun p11 => ldI .i64 H0 ((p11.add (Int.toNat 0 * 2)).add 1) (fun x13 => Q x13 H0))))))
set_option maxRecDepth 20000 in
set_option maxHeartbeats 4000000 in
theorem mosaicref01_Source_At.calls (a0 : Option Addr) (w0 : World) (Q : Int → Hp → Prop) (h : mosaicref01_Source_At.s a0 w0.heap Q) :
    Ca Try.prog 39 #[.pointer a0] w0 (Rt mosaicref01_Source_At.enc Q w0) := by
  refine ca_start (c := _) Try.func39 rfl Try.ntmps39 rfl ?_
  have so : Sm w0 w0 := Sm.refl w0
  unfold mosaicref01_Source_At.s at h
  refine wc_prune [(0, .pointer a0)] ⟨rfl, trivial⟩ (fun f1 => ?_)
  refine wc_seq ?_
  refine wc_region ?_
  refine wl_val (at_assign rfl) rfl ?_
  refine wl_nil ?_
  refine wk_prune [(0, .pointer a0)] ⟨rfl, trivial⟩ (fun f1 => ?_)
  refine wk_then ?_
  refine wc_seq ?_
  refine wc_seq ?_
  refine wc_region ?_
  refine wl_val (at_move rfl) rfl ?_
  obtain ⟨p1, q2, h⟩ := h
  refine wl_val (at_nilCheck (congrArg Value.pointer q2)) rfl ?_
  refine wl_val (at_fieldAddr Try.underlying107 rfl rfl sz103 (by decide) rfl) rfl ?_
  obtain ⟨x3, q4, h⟩ := h
  refine wl_val (at_load Try.underlying103 rfl rfl q4) rfl ?_
  refine wl_val (at_lenL Try.underlying103 rfl) rfl ?_
  refine wl_val (at_eql rfl rfl) rfl ?_
  refine wl_nil ?_
  refine wk_prune [(0, .pointer a0), (8, .bool ((x3.n : Int) == 0))] ⟨rfl, rfl, trivial⟩ (fun f1 => ?_)
  refine wk_then ?_
  refine wc_cond rfl h (fun h => ?_) (fun h => ?_)
  · refine wc_seq ?_
    refine wc_region ?_
    refine wl_val (at_move rfl) rfl ?_
    refine wl_val (at_nilCheck (congrArg Value.pointer q2)) rfl ?_
    refine wl_val (at_fieldAddr Try.underlying107 rfl rfl sz3 (by decide) rfl) rfl ?_
    obtain ⟨x5, q6, h⟩ := h
    refine wl_val (at_load Try.underlying3 rfl rfl q6) rfl ?_
    refine wl_val (at_assign rfl) rfl ?_
    refine wl_nil ?_
    refine wk_prune [(2, .int .i64 x5)] ⟨rfl, trivial⟩ (fun f1 => ?_)
    refine wk_then ?_
    refine wc_ret ?_
    refine wk_thenR ?_
    exact wk_ret1 (x := x5) rfl (by decide) rfl so h
  · refine wc_skip ?_
    refine wk_prune [(0, .pointer a0)] ⟨rfl, trivial⟩ (fun f1 => ?_)
    refine wk_then ?_
    refine wc_seq ?_
    refine wc_region ?_
    refine wl_val (at_move rfl) rfl ?_
    refine wl_val (at_nilCheck (congrArg Value.pointer q2)) rfl ?_
    refine wl_val (at_fieldAddr Try.underlying107 rfl rfl sz103 (by decide) rfl) rfl ?_
    obtain ⟨x7, q8, h⟩ := h
    refine wl_val (at_load Try.underlying103 rfl rfl q8) rfl ?_
    obtain ⟨q9, q10, p11, q12, h⟩ := h
    refine wl_val (at_ixAddrL Try.underlying103 sz109 (sl_some q12) rfl q9 q10) rfl ?_
    refine wl_val (at_fieldAddr Try.underlying109 rfl rfl sz3 (by decide) rfl) rfl ?_
    obtain ⟨x13, q14, h⟩ := h
    refine wl_val (at_load Try.underlying3 rfl rfl q14) rfl ?_
    refine wl_val (at_assign rfl) rfl ?_
    refine wl_nil ?_
    refine wk_prune [(2, .int .i64 x13)] ⟨rfl, trivial⟩ (fun f1 => ?_)
    refine wk_then ?_
    refine wc_ret ?_
    exact wk_ret1 (x := x13) rfl (by decide) rfl so h
end Go.Proofs.Ytbefacccdaafeaa.G
