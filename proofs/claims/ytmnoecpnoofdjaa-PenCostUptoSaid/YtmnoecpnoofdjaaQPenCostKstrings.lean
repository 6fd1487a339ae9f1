/- Of this text what the row needs. -/
import Derived.Test.YtmnoecpnoofdjaaQPenCostKshelf
namespace Go.Proofs.Ytmnoecpnoofdjaa.G
open Go.RowKit
set_option linter.unusedVariables false
set_option linter.unusedSimpArgs false
def strings_Builder_copyCheck.enc : Unit → Value := fun _ => .tuple #[]
def strings_Builder_copyCheck.s (a0 : Option Addr) (H0 : Hp) (Q : Unit → Hp → Prop) : Prop :=
  someA a0 (fun p1 => ldP H0 (p1.add 0) (fun x3 => if x3.isNone = true then (boxAt H0 p1 117 2 ∧ (boxAt H0 p1 117 2 ∧ (st H0 (p1.add 0) (.pointer (some p1)) (fun H7 => Q () H7)))) else (ldP H0 (p1.add 0) (fun x8 => x8 = a0 ∧ (Q () H0)))))
set_option maxRecDepth 20000 in
set_option maxHeartbeats 4000000 in
theorem strings_Builder_copyCheck.calls (a0 : Option Addr) (w0 : World) (Q : Unit → Hp → Prop) (h : strings_Builder_copyCheck.s a0 w0.heap Q) :
    Ca Try.prog 64 #[.pointer a0] w0 (Rt strings_Builder_copyCheck.enc Q w0) := by
  refine ca_start (c := _) Try.func64 rfl Try.ntmps64 rfl ?_
  have so : Sm w0 w0 := Sm.refl w0
  unfold strings_Builder_copyCheck.s at h
  refine wc_prune [(0, .pointer a0)] ⟨rfl, trivial⟩ (fun f1 => ?_)
  refine wc_seq ?_
  refine wc_region ?_
  refine wl_val (at_move rfl) rfl ?_
  obtain ⟨p1, q2, h⟩ := h
  refine wl_val (at_nilCheck (congrArg Value.pointer q2)) rfl ?_
  refine wl_val (at_fieldAddr Try.underlying117 rfl rfl sz115 (by decide) rfl) rfl ?_
  obtain ⟨x3, q4, h⟩ := h
  refine wl_val (at_load Try.underlying115 rfl rfl q4) rfl ?_
  refine wl_val (at_eqlP Try.underlying115 rfl rfl) rfl ?_
  refine wl_nil ?_
  refine wk_prune [(0, .pointer a0), (6, .bool x3.isNone)] ⟨rfl, rfl, trivial⟩ (fun f1 => ?_)
  refine wk_then ?_
  refine wc_cond rfl h (fun h => ?_) (fun h => ?_)
  · refine wc_region ?_
    refine wl_val (at_move rfl) rfl ?_
    refine wl_val (at_move rfl) rfl ?_
    obtain ⟨q5, h⟩ := h
    refine wl_val (at_toU Try.underlying115 Try.underlying158 sz117 (by decide) (congrArg Value.pointer q2) q5) rfl ?_
    refine wl_val (at_noEscape Try.func75 (by kernel_rfl) (by kernel_rfl) (by kernel_rfl) (by kernel_rfl) rfl) rfl ?_
    obtain ⟨q6, h⟩ := h
    refine wl_val (at_fromU Try.underlying158 Try.underlying115 sz117 (by kernel_rfl) rfl q6) rfl ?_
    refine wl_val (at_nilCheck (congrArg Value.pointer q2)) rfl ?_
    refine wl_val (at_fieldAddr Try.underlying117 rfl rfl sz115 (by decide) rfl) rfl ?_
    refine wl_st (v := .pointer (some p1)) h rfl so (fun q1 q2 => ef_store (sz := sz115) rfl rfl rfl q1 q2) ?_; intro w7 h so
    refine wl_nil ?_
    exact wk_ret0n (x := ()) rfl rfl so h
  · refine wc_seq ?_
    refine wc_region ?_
    refine wl_val (at_move rfl) rfl ?_
    refine wl_val (at_nilCheck (congrArg Value.pointer q2)) rfl ?_
    refine wl_val (at_fieldAddr Try.underlying117 rfl rfl sz115 (by decide) rfl) rfl ?_
    obtain ⟨x8, q9, h⟩ := h
    refine wl_val (at_load Try.underlying115 rfl rfl q9) rfl ?_
    refine wl_val (at_move rfl) rfl ?_
    obtain ⟨q10, h⟩ := h
    refine wl_val (at_neqPP Try.underlying115 (by kernel_rfl) rfl rfl q2 q10) rfl ?_
    refine wl_nil ?_
    refine wk_prune [(19, .bool false)] ⟨rfl, trivial⟩ (fun f1 => ?_)
    refine wk_then ?_
    refine wc_cond_f rfl ?_
    refine wc_skip ?_
    exact wk_ret0n (x := ()) rfl rfl so h
def strings_Builder_WriteByte.enc : Value → Value := fun r => r
def strings_Builder_WriteByte.s (a0 : Option Addr) (a1 : Int) (H0 : Hp) (Q : Value → Hp → Prop) : Prop :=
  strings_Builder_copyCheck.s a0 H0 (fun _ H2 => someA a0 (fun p3 => ldL H2 (p3.add 1) (fun x5 => nw H2 5 [.int .u8 a1] (fun p7 H8 => apS H8 x5 5 1 1 z5.cells 1 [.int .u8 a1] (fun l12 H13 => st H13 (p3.add 1) (.slice l12.a l12.n l12.c) (fun H14 => Q .nilIface H14))))))
set_option maxRecDepth 20000 in
set_option maxHeartbeats 4000000 in
theorem strings_Builder_WriteByte.calls (a0 : Option Addr) (a1 : Int) (w0 : World) (Q : Value → Hp → Prop) (h : strings_Builder_WriteByte.s a0 a1 w0.heap Q) :
    Ca Try.prog 37 #[.pointer a0, .int .u8 a1] w0 (Rt strings_Builder_WriteByte.enc Q w0) := by
  refine ca_start (c := _) Try.func37 rfl Try.ntmps37 rfl ?_
  have so : Sm w0 w0 := Sm.refl w0
  unfold strings_Builder_WriteByte.s at h
  refine wc_prune [(0, .pointer a0), (1, .int .u8 a1)] ⟨rfl, rfl, trivial⟩ (fun f1 => ?_)
  refine wc_seq ?_
  refine wc_region ?_
  refine wl_val (at_assign rfl) rfl ?_
  refine wl_nil ?_
  refine wk_prune [(0, .pointer a0), (1, .int .u8 a1)] ⟨rfl, rfl, trivial⟩ (fun f1 => ?_)
  refine wk_then ?_
  refine wc_seq ?_
  refine wc_region ?_
  refine wl_val (at_move rfl) rfl ?_
  refine wl_callF (strings_Builder_copyCheck.calls _ _ _ h) enter64 rfl trivial so ?_; intro x1 w2 h so
  refine wl_nil ?_
  refine wk_prune [(0, .pointer a0), (1, .int .u8 a1)] ⟨rfl, rfl, trivial⟩ (fun f1 => ?_)
  refine wk_then ?_
  refine wc_seq ?_
  refine wc_region ?_
  refine wl_val (at_move rfl) rfl ?_
  refine wl_val (at_move rfl) rfl ?_
  obtain ⟨p3, q4, h⟩ := h
  refine wl_val (at_nilCheck (congrArg Value.pointer q4)) rfl ?_
  refine wl_val (at_fieldAddr Try.underlying117 rfl rfl sz27 (by decide) rfl) rfl ?_
  obtain ⟨x5, q6, h⟩ := h
  refine wl_val (at_load Try.underlying27 rfl rfl q6) rfl ?_
  refine wl_val (at_move rfl) rfl ?_
  obtain ⟨i10, i10a, i10b, i10c, i10d⟩ := info5
  refine wl_newS (ef_buildSlice (cs := [.int .u8 a1]) (ps := [(0, .int .u8 a1)]) Try.underlying27 i10a i10b rfl (by rw [i10c]; decide) (by rw [i10c]; exact fill_full (vs := [.int .u8 a1]) rfl (by simp [Value.cells]) (by simp [Value.cells]) rfl (by simp))) rfl so (ones_cons rfl ones_nil) h ?_; intro p7 w8 h r9 so
  obtain ⟨i11, i11a, i11b, i11c, i11d⟩ := info5
  refine wl_ap (fx_append (s := x5) (t := ⟨(some p7), 1, 1⟩) (m := 1) (xs := [.int .u8 a1]) Try.underlying27 Try.underlying27 i11a i11b i11c i11d rfl rfl rfl (by first | rfl | simp) r9 h) rfl so ?_; intro l12 w13 h so
  refine wl_val (at_nilCheck (congrArg Value.pointer q4)) rfl ?_
  refine wl_val (at_fieldAddr Try.underlying117 rfl rfl sz27 (by decide) rfl) rfl ?_
  refine wl_st (v := .slice l12.a l12.n l12.c) h rfl so (fun q1 q2 => ef_store (sz := sz27) rfl rfl rfl q1 q2) ?_; intro w14 h so
  refine wl_nil ?_
  refine wk_prune [] trivial (fun f1 => ?_)
  refine wk_then ?_
  refine wc_seq ?_
  refine wc_region ?_
  refine wl_val (at_assign rfl) rfl ?_
  refine wl_nil ?_
  refine wk_prune [(4, .nilIface)] ⟨rfl, trivial⟩ (fun f1 => ?_)
  refine wk_then ?_
  refine wc_ret ?_
  exact wk_ret1 (x := .nilIface) rfl (by decide) rfl so h
def strings_Builder_String.enc : ByteArray → Value := fun r => .string r
def strings_Builder_String.s (a0 : Option Addr) (H0 : Hp) (Q : ByteArray → Hp → Prop) : Prop :=
  someA a0 (fun p2 => ldL H0 (p2.add 1) (fun x4 => (x4.a = none ∨ x4.c ≠ 0) ∧ (ldL H0 (p2.add 1) (fun x7 => usS H0 5 x4.a (x7.n : Int) (fun b9 H10 => Q b9 H10)))))
set_option maxRecDepth 20000 in
set_option maxHeartbeats 4000000 in
theorem strings_Builder_String.calls (a0 : Option Addr) (w0 : World) (Q : ByteArray → Hp → Prop) (h : strings_Builder_String.s a0 w0.heap Q) :
    Ca Try.prog 38 #[.pointer a0] w0 (Rt strings_Builder_String.enc Q w0) := by
  refine ca_start (c := _) Try.func38 rfl Try.ntmps38 rfl ?_
  have so : Sm w0 w0 := Sm.refl w0
  unfold strings_Builder_String.s at h
  refine wc_prune [(0, .pointer a0)] ⟨rfl, trivial⟩ (fun f1 => ?_)
  refine wc_seq ?_
  refine wc_region ?_
  refine wl_val (at_assign rfl) rfl ?_
  refine wl_nil ?_
  refine wk_prune [(0, .pointer a0)] ⟨rfl, trivial⟩ (fun f1 => ?_)
  refine wk_then ?_
  refine wc_seq ?_
  refine wc_wo [0, 1, 3, 7, 15, 0, 32, 96, 224, 480, 1023, 2047] mixed (by kernel_rfl) so ?_; intro w1 hw so; rw [← hw] at h; clear hw
  refine wo_pure (m' := 1) 0 rfl (by kernel_rfl) rfl rfl (fun H => at_move rfl) ?_
  obtain ⟨p2, q3, h⟩ := h
  refine wo_pure (m' := 3) 1 rfl (by kernel_rfl) rfl rfl (fun H => at_nilCheck (congrArg Value.pointer q3)) ?_
  refine wo_pure (m' := 7) 2 rfl (by kernel_rfl) rfl rfl (fun H => at_fieldAddr Try.underlying117 rfl rfl sz27 (by decide) rfl) ?_
  refine wo_pure (m' := 39) 5 rfl (by kernel_rfl) rfl rfl (fun H => at_move rfl) ?_
  refine wo_pure (m' := 103) 6 rfl (by kernel_rfl) rfl rfl (fun H => at_nilCheck (congrArg Value.pointer q3)) ?_
  refine wo_pure (m' := 231) 7 rfl (by kernel_rfl) rfl rfl (fun H => at_fieldAddr Try.underlying117 rfl rfl sz27 (by decide) rfl) ?_
  obtain ⟨x4, q5, h⟩ := h
  refine wo_load (m' := 239) 3 (fun H => cellAt H (p2.add 1) = some (.slice x4.a x4.n x4.c)) rfl (by kernel_rfl) rfl rfl (fun H q5 => at_load Try.underlying27 rfl rfl q5) q5 ?_
  obtain ⟨q6, h⟩ := h
  refine wo_pure (m' := 255) 4 rfl (by kernel_rfl) rfl rfl (fun H => at_sData (s := x4) rfl q6) ?_
  obtain ⟨x7, q8, h⟩ := h
  refine wo_load (m' := 511) 8 (fun H => cellAt H (p2.add 1) = some (.slice x7.a x7.n x7.c)) rfl (by kernel_rfl) rfl rfl (fun H q8 => at_load Try.underlying27 rfl rfl q8) q8 ?_
  refine wo_pure (m' := 1023) 9 rfl (by kernel_rfl) rfl rfl (fun H => at_lenL Try.underlying27 rfl) ?_
  refine wo_take (m' := 2047) 10 [true, true] rfl (by kernel_rfl) rfl (by kernel_rfl) ?_
  refine wl_str (fx_uStr Try.underlying146 (by kernel_rfl) rfl rfl h) rfl so ?_; intro b9 w10 h so
  refine wl_nil ?_
  refine wk_tq trivial ?_
  refine wo_pure (m' := 4095) 11 rfl (by kernel_rfl) rfl rfl (fun H => at_assign rfl) ?_
  refine wo_done (by kernel_rfl) ?_
  refine wk_prune [(2, .string b9)] ⟨rfl, trivial⟩ (fun f1 => ?_)
  refine wk_then ?_
  refine wc_ret ?_
  exact wk_ret1 (x := b9) rfl (by decide) rfl so h
end Go.Proofs.Ytmnoecpnoofdjaa.G
