import Derived.Test.YthblohaffipkhaaGF
namespace Go.Proofs.Ythblohaffipkhaa.G
open Go.RowKit
set_option linter.unusedVariables false
set_option linter.unusedSimpArgs false
/-- mosaic/mosaicref07.May -/
def mosaicref07_May.enc : Bool → Value := fun r => .bool r
def mosaicref07_May.s (a0_0 : Ints 64) (H0 : Hp) (Q : Bool → Hp → Prop) : Prop :=
  Gn [] H0 (fun (b1 : Nat) (H2 : Hp) => Bk H2 b1 24 (c24 a0_0) → (Join (fun (s4 : Bool) (H5 : Hp) => if s4 = true then (Q false H5) else (∃ k6, Fix (fun (rec11 : Int → Hp → Prop) (s8 : Int) (H9 : Hp) => if decide (s8 < 64) = true then (Join (fun (s13 : Bool) (H14 : Hp) => if s13 = true then (Q false H14) else (rec11 ((IntKind.wrap .i64 (s8 + 1))) H14)) (fun (J12 : Bool → Hp → Prop) => 0 ≤ s8 ∧ s8 < (64 : Int) ∧ (ldI .i16 H9 ((⟨b1, 0, none⟩ : Addr).add (Int.toNat s8 * 1)) (fun x17 => if decide (x17 < (-1023)) = true then (J12 (true) H9) else (0 ≤ s8 ∧ s8 < (64 : Int) ∧ (ldI .i16 H9 ((⟨b1, 0, none⟩ : Addr).add (Int.toNat s8 * 1)) (fun x21 => J12 ((decide ((1023 : Int) < x21))) H9))))))) else (Q true H9)) k6 (1) H5)) (fun (J3 : Bool → Hp → Prop) => ldI .i16 H2 (⟨b1, 0, none⟩ : Addr) (fun x23 => if decide (x23 < (-1024)) = true then (J3 (true) H2) else (ldI .i16 H2 (⟨b1, 0, none⟩ : Addr) (fun x25 => J3 ((decide ((1023 : Int) < x25))) H2))))))
set_option maxRecDepth 20000 in
set_option maxHeartbeats 4000000 in
theorem mosaicref07_May.calls (a0_0 : Ints 64) (w0 : World) (Q : Bool → Hp → Prop) (h : mosaicref07_May.s a0_0 w0.heap Q) :
    Ca Try.prog 29 #[.agg (c24 a0_0).toArray] w0 (Rt mosaicref07_May.enc Q w0) := by
  refine ca_start (c := _) Try.func29 rfl Try.ntmps29 rfl ?_
  have so : Sm w0 w0 := Sm.refl w0
  unfold mosaicref07_May.s at h
  refine wc_prune [(0, .agg (c24 a0_0).toArray)] ⟨rfl, trivial⟩ (fun f1 => ?_)
  refine wc_seq ?_
  refine wc_region ?_
  refine wl_newT (T := 24) (cs := (c24 a0_0)) (ef_box rfl rfl) rfl so ?_; intro b1 w2 hb_b1 t_b1 k_b1 so
  have g_b1 := Nat.le_of_eq hb_b1.symm
  have hc := k_b1.ch (F := [])
  refine wl_val (at_assign rfl) rfl ?_
  refine wl_nil ?_
  refine wk_prune [(1, .pointer (some (⟨b1, 0, none⟩ : Addr)))] ⟨rfl, trivial⟩ (fun f1 => ?_)
  refine wk_then ?_
  refine wc_seq ?_
  replace h := h b1 _ hc g_b1 t_b1.lt; clear hc
  replace h := h t_b1
  refine wc_seq ?_
  refine wc_join (w0 := w0) (fun (s4 : Bool) => [(1, .pointer (some (⟨b1, 0, none⟩ : Addr))), (11, .bool s4)]) h ?_ ?_
  · rintro s4 w5 f1 h so; refine wk_then ?_
    refine wc_cond rfl h (fun h => ?_) (fun h => ?_)
    · refine wc_seq ?_
      refine wc_region ?_
      refine wl_val (at_assign rfl) rfl ?_
      refine wl_nil ?_
      refine wk_prune [(2, .bool false)] ⟨rfl, trivial⟩ (fun f1 => ?_)
      refine wk_then ?_
      refine wc_ret ?_
      refine wk_thenR ?_
      exact wk_ret1 (x := false) rfl (by decide) rfl so h
    · refine wc_skip ?_
      refine wk_prune [(1, .pointer (some (⟨b1, 0, none⟩ : Addr)))] ⟨rfl, trivial⟩ (fun f1 => ?_)
      refine wk_then ?_
      refine wc_seq ?_
      refine wc_seq ?_
      refine wc_region ?_
      refine wl_val (at_assign rfl) rfl ?_
      refine wl_nil ?_
      refine wk_prune [(1, .pointer (some (⟨b1, 0, none⟩ : Addr))), (3, .int .i64 1)] ⟨rfl, rfl, trivial⟩ (fun f1 => ?_)
      refine wk_then ?_
      refine wc_block ?_
      obtain ⟨k6, h⟩ := h
      refine wc_loop (fun k a w => ∃ (s8 : Int) (f1 : Nat → Value), a = ac 26 (en f1 [(1, .pointer (some (⟨b1, 0, none⟩ : Addr))), (3, .int .i64 s8)]) [] ∧ Sm w0 w ∧ Fix _ k s8 w.heap) k6 ⟨(1), _, ac_again ⟨rfl, rfl, trivial⟩, so, h⟩ ?_
      rintro k7 a10 w9 ⟨s8, f1, rfl, so, h⟩
      rcases k7 with _ | k7
      · exact h.elim
      replace h := Fix.un h; refine wc_in ?_
      refine wc_seq ?_
      refine wc_seq ?_
      refine wc_region ?_
      refine wl_val (at_move rfl) rfl ?_
      refine wl_val (at_lss rfl rfl) rfl ?_
      refine wl_nil ?_
      refine wk_prune [(1, .pointer (some (⟨b1, 0, none⟩ : Addr))), (3, .int .i64 s8), (13, .bool (decide (s8 < 64)))] ⟨rfl, rfl, rfl, trivial⟩ (fun f1 => ?_)
      refine wk_then ?_
      refine wc_cond rfl h (fun h => ?_) (fun h => ?_)
      · refine wc_skip ?_
        refine wk_prune [(1, .pointer (some (⟨b1, 0, none⟩ : Addr))), (3, .int .i64 s8)] ⟨rfl, rfl, trivial⟩ (fun f1 => ?_)
        refine wk_then ?_
        refine wc_seq ?_
        refine wc_block ?_
        refine wc_seq ?_
        refine wc_join (w0 := w0) (fun (s13 : Bool) => [(1, .pointer (some (⟨b1, 0, none⟩ : Addr))), (3, .int .i64 s8), (25, .bool s13)]) h ?_ ?_
        · rintro s13 w14 f1 h so; refine wk_then ?_
          refine wc_cond rfl h (fun h => ?_) (fun h => ?_)
          · refine wc_seq ?_
            refine wc_region ?_
            refine wl_val (at_assign rfl) rfl ?_
            refine wl_nil ?_
            refine wk_prune [(2, .bool false)] ⟨rfl, trivial⟩ (fun f1 => ?_)
            refine wk_then ?_
            refine wc_ret ?_
            refine wk_blkR ?_
            refine wk_thenR ?_
            refine wk_thenR ?_
            refine wk_blkR ?_
            refine wk_thenR ?_
            exact wk_ret1 (x := false) rfl (by decide) rfl so h
          · refine wc_skip ?_
            refine wk_blkN ?_
            refine wk_prune [(1, .pointer (some (⟨b1, 0, none⟩ : Addr))), (3, .int .i64 s8)] ⟨rfl, rfl, trivial⟩ (fun f1 => ?_)
            refine wk_then ?_
            refine wc_region ?_
            refine wl_val (at_move rfl) rfl ?_
            refine wl_val (at_add rfl rfl) rfl ?_
            refine wl_val (at_assign rfl) rfl ?_
            refine wl_nil ?_
            exact wk_again ⟨((IntKind.wrap .i64 (s8 + 1))), _, ac_again ⟨rfl, rfl, trivial⟩, so, h⟩
        · intro J12 h hJ12
          refine wc_region ?_
          refine wl_val (at_move rfl) rfl ?_
          obtain ⟨q15, q16, h⟩ := h
          refine wl_val (at_ixAddrA Try.underlying24 sz22 rfl rfl q15 q16) rfl ?_
          obtain ⟨x17, q18, h⟩ := h
          refine wl_val (at_load Try.underlying22 rfl rfl q18) rfl ?_
          refine wl_val (at_lss rfl rfl) rfl ?_
          refine wl_val (at_move rfl) rfl ?_
          refine bif_ h (fun hb h => ?_) (fun hb h => ?_)
          · refine wl_set (t := 20) (v := .bool true) (congrArg Value.bool hb) ?_; clear hb
            refine wl_off (t := 20) rfl (by decide) rfl ?_
            refine wl_off (t := 20) rfl (by decide) rfl ?_
            refine wl_off (t := 20) rfl (by decide) rfl ?_
            refine wl_off (t := 20) rfl (by decide) rfl ?_
            refine wl_val (at_pick_t rfl rfl) rfl ?_
            refine wl_nil ?_
            exact wk_prune [(1, .pointer (some (⟨b1, 0, none⟩ : Addr))), (3, .int .i64 s8), (25, .bool true)] ⟨rfl, rfl, rfl, trivial⟩ (fun f1 => hJ12 (true) _ f1 h so)
          · refine wl_set (t := 20) (v := .bool false) (congrArg Value.bool hb) ?_; clear hb
            refine wl_on (t := 20) rfl (by decide) rfl ?_
            refine wl_val (at_move rfl) rfl ?_
            refine wl_on (t := 20) rfl (by decide) rfl ?_
            obtain ⟨q19, q20, h⟩ := h
            refine wl_val (at_ixAddrA Try.underlying24 sz22 rfl rfl q19 q20) rfl ?_
            refine wl_on (t := 20) rfl (by decide) rfl ?_
            obtain ⟨x21, q22, h⟩ := h
            refine wl_val (at_load Try.underlying22 rfl rfl q22) rfl ?_
            refine wl_on (t := 20) rfl (by decide) rfl ?_
            refine wl_val (at_gtr rfl rfl) rfl ?_
            refine wl_val (at_pick_f rfl rfl) rfl ?_
            refine wl_nil ?_
            exact wk_prune [(1, .pointer (some (⟨b1, 0, none⟩ : Addr))), (3, .int .i64 s8), (25, .bool (decide ((1023 : Int) < x21)))] ⟨rfl, rfl, rfl, trivial⟩ (fun f1 => hJ12 ((decide ((1023 : Int) < x21))) _ f1 h so)
      · refine wc_exit ?_
        refine wk_thenE ?_
        refine wk_thenE ?_
        refine wk_blkE ?_
        refine wk_prune [] trivial (fun f1 => ?_)
        refine wk_then ?_
        refine wc_seq ?_
        refine wc_region ?_
        refine wl_val (at_assign rfl) rfl ?_
        refine wl_nil ?_
        refine wk_prune [(2, .bool true)] ⟨rfl, trivial⟩ (fun f1 => ?_)
        refine wk_then ?_
        refine wc_ret ?_
        exact wk_ret1 (x := true) rfl (by decide) rfl so h
  · intro J3 h hJ3
    refine wc_region ?_
    refine wl_val (at_ixAddrA Try.underlying24 sz22 rfl rfl (by decide) (by decide)) rfl ?_
    obtain ⟨x23, q24, h⟩ := h
    refine wl_val (at_load Try.underlying22 rfl rfl q24) rfl ?_
    refine wl_val (at_lss rfl rfl) rfl ?_
    refine wl_val (at_move rfl) rfl ?_
    refine bif_ h (fun hb h => ?_) (fun hb h => ?_)
    · refine wl_set (t := 7) (v := .bool true) (congrArg Value.bool hb) ?_; clear hb
      refine wl_off (t := 7) rfl (by decide) rfl ?_
      refine wl_off (t := 7) rfl (by decide) rfl ?_
      refine wl_off (t := 7) rfl (by decide) rfl ?_
      refine wl_val (at_pick_t rfl rfl) rfl ?_
      refine wl_nil ?_
      exact wk_prune [(1, .pointer (some (⟨b1, 0, none⟩ : Addr))), (11, .bool true)] ⟨rfl, rfl, trivial⟩ (fun f1 => hJ3 (true) _ f1 h so)
    · refine wl_set (t := 7) (v := .bool false) (congrArg Value.bool hb) ?_; clear hb
      refine wl_on (t := 7) rfl (by decide) rfl ?_
      refine wl_val (at_ixAddrA Try.underlying24 sz22 rfl rfl (by decide) (by decide)) rfl ?_
      refine wl_on (t := 7) rfl (by decide) rfl ?_
      obtain ⟨x25, q26, h⟩ := h
      refine wl_val (at_load Try.underlying22 rfl rfl q26) rfl ?_
      refine wl_on (t := 7) rfl (by decide) rfl ?_
      refine wl_val (at_gtr rfl rfl) rfl ?_
      refine wl_val (at_pick_f rfl rfl) rfl ?_
      refine wl_nil ?_
      exact wk_prune [(1, .pointer (some (⟨b1, 0, none⟩ : Addr))), (11, .bool (decide ((1023 : Int) < x25)))] ⟨rfl, rfl, trivial⟩ (fun f1 => hJ3 ((decide ((1023 : Int) < x25))) _ f1 h so)

/-- mosaic/mosaicref07.Size -/
def mosaicref07_Size.enc : Int → Value := fun r => .int .i64 r
def mosaicref07_Size.s (a0 : Int) (H0 : Hp) (Q : Int → Hp → Prop) : Prop :=
  Join (fun (s2 : Int) (H3 : Hp) => ∃ k4, Fix (fun (rec9 : (Int × Int) → Hp → Prop) (s6 : Int × Int) (H7 : Hp) => if decide ((0 : Int) < s6.1) = true then (rec9 ((IntKind.wrap .i64 (Int.tdiv s6.1 2)), (IntKind.wrap .i64 (s6.2 + 1))) H7) else (Q s6.2 H7)) k4 (s2, 0) H3) (fun (J1 : Int → Hp → Prop) => if decide (a0 < 0) = true then (J1 ((IntKind.wrap .i64 (0 - a0))) H0) else (J1 (a0) H0))
set_option maxRecDepth 20000 in
set_option maxHeartbeats 4000000 in
theorem mosaicref07_Size.calls (a0 : Int) (w0 : World) (Q : Int → Hp → Prop) (h : mosaicref07_Size.s a0 w0.heap Q) :
    Ca Try.prog 30 #[.int .i64 a0] w0 (Rt mosaicref07_Size.enc Q w0) := by
  refine ca_start (c := _) Try.func30 rfl Try.ntmps30 rfl ?_
  have so : Sm w0 w0 := Sm.refl w0
  unfold mosaicref07_Size.s at h
  refine wc_prune [(0, .int .i64 a0)] ⟨rfl, trivial⟩ (fun f1 => ?_)
  refine wc_seq ?_
  refine wc_region ?_
  refine wl_val (at_assign rfl) rfl ?_
  refine wl_nil ?_
  refine wk_prune [(0, .int .i64 a0)] ⟨rfl, trivial⟩ (fun f1 => ?_)
  refine wk_then ?_
  refine wc_seq ?_
  refine wc_region ?_
  refine wl_val (at_assign rfl) rfl ?_
  refine wl_nil ?_
  refine wk_prune [(0, .int .i64 a0), (3, .int .i64 0)] ⟨rfl, rfl, trivial⟩ (fun f1 => ?_)
  refine wk_then ?_
  refine wc_seq ?_
  refine wc_join (w0 := w0) (fun (s2 : Int) => [(0, .int .i64 s2), (3, .int .i64 0)]) h ?_ ?_
  · rintro s2 w3 f1 h so; refine wk_then ?_
    refine wc_seq ?_
    refine wc_block ?_
    obtain ⟨k4, h⟩ := h
    refine wc_loop (fun k a w => ∃ (s6 : Int × Int) (f1 : Nat → Value), a = ac 15 (en f1 [(0, .int .i64 s6.1), (3, .int .i64 s6.2)]) [] ∧ Sm w0 w ∧ Fix _ k s6 w.heap) k4 ⟨(s2, 0), _, ac_again ⟨rfl, rfl, trivial⟩, so, h⟩ ?_
    rintro k5 a8 w7 ⟨s6, f1, rfl, so, h⟩
    rcases k5 with _ | k5
    · exact h.elim
    replace h := Fix.un h; refine wc_in ?_
    refine wc_seq ?_
    refine wc_seq ?_
    refine wc_region ?_
    refine wl_val (at_move rfl) rfl ?_
    refine wl_val (at_gtr rfl rfl) rfl ?_
    refine wl_nil ?_
    refine wk_prune [(0, .int .i64 s6.1), (3, .int .i64 s6.2), (9, .bool (decide ((0 : Int) < s6.1)))] ⟨rfl, rfl, rfl, trivial⟩ (fun f1 => ?_)
    refine wk_then ?_
    refine wc_cond rfl h (fun h => ?_) (fun h => ?_)
    · refine wc_skip ?_
      refine wk_prune [(0, .int .i64 s6.1), (3, .int .i64 s6.2)] ⟨rfl, rfl, trivial⟩ (fun f1 => ?_)
      refine wk_then ?_
      refine wc_block ?_
      refine wc_seq ?_
      refine wc_region ?_
      refine wl_val (at_move rfl) rfl ?_
      refine wl_val (at_quo rfl rfl (by decide)) rfl ?_
      refine wl_val (at_assign rfl) rfl ?_
      refine wl_nil ?_
      refine wk_prune [(0, .int .i64 (IntKind.wrap .i64 (Int.tdiv s6.1 2))), (3, .int .i64 s6.2)] ⟨rfl, rfl, trivial⟩ (fun f1 => ?_)
      refine wk_then ?_
      refine wc_region ?_
      refine wl_val (at_move rfl) rfl ?_
      refine wl_val (at_add rfl rfl) rfl ?_
      refine wl_val (at_assign rfl) rfl ?_
      refine wl_nil ?_
      refine wk_blkN ?_
      exact wk_again ⟨((IntKind.wrap .i64 (Int.tdiv s6.1 2)), (IntKind.wrap .i64 (s6.2 + 1))), _, ac_again ⟨rfl, rfl, trivial⟩, so, h⟩
    · refine wc_exit ?_
      refine wk_thenE ?_
      refine wk_thenE ?_
      refine wk_blkE ?_
      refine wk_prune [(3, .int .i64 s6.2)] ⟨rfl, trivial⟩ (fun f1 => ?_)
      refine wk_then ?_
      refine wc_seq ?_
      refine wc_region ?_
      refine wl_val (at_move rfl) rfl ?_
      refine wl_val (at_assign rfl) rfl ?_
      refine wl_nil ?_
      refine wk_prune [(2, .int .i64 s6.2)] ⟨rfl, trivial⟩ (fun f1 => ?_)
      refine wk_then ?_
      refine wc_ret ?_
      exact wk_ret1 (x := s6.2) rfl (by decide) rfl so h
  · intro J1 h hJ1
    refine wc_seq ?_
    refine wc_region ?_
    refine wl_val (at_move rfl) rfl ?_
    refine wl_val (at_lss rfl rfl) rfl ?_
    refine wl_nil ?_
    refine wk_prune [(0, .int .i64 a0), (3, .int .i64 0), (5, .bool (decide (a0 < 0)))] ⟨rfl, rfl, rfl, trivial⟩ (fun f1 => ?_)
    refine wk_then ?_
    refine wc_cond rfl h (fun h => ?_) (fun h => ?_)
    · refine wc_region ?_
      refine wl_val (at_move rfl) rfl ?_
      refine wl_val (at_neg rfl) rfl ?_
      refine wl_val (at_assign rfl) rfl ?_
      refine wl_nil ?_
      exact wk_prune [(0, .int .i64 (IntKind.wrap .i64 (0 - a0))), (3, .int .i64 0)] ⟨rfl, rfl, trivial⟩ (fun f1 => hJ1 ((IntKind.wrap .i64 (0 - a0))) _ f1 h so)
    · refine wc_skip ?_
      exact wk_prune [(0, .int .i64 a0), (3, .int .i64 0)] ⟨rfl, rfl, trivial⟩ (fun f1 => hJ1 (a0) _ f1 h so)

/-- mosaic/mosaicref07.power -/
def mosaicref07_power.enc : Int → Value := fun r => .int .i64 r
def mosaicref07_power.s (a0 : Int) (H0 : Hp) (Q : Int → Hp → Prop) : Prop :=
  ∃ k1, Fix (fun (rec6 : (Int × Int) → Hp → Prop) (s3 : Int × Int) (H4 : Hp) => if decide (s3.2 < a0) = true then (rec6 ((IntKind.wrap .i64 ((2 : Int) * s3.1)), (IntKind.wrap .i64 (s3.2 + 1))) H4) else (Q s3.1 H4)) k1 (1, 0) H0
set_option maxRecDepth 20000 in
set_option maxHeartbeats 4000000 in
theorem mosaicref07_power.calls (a0 : Int) (w0 : World) (Q : Int → Hp → Prop) (h : mosaicref07_power.s a0 w0.heap Q) :
    Ca Try.prog 44 #[.int .i64 a0] w0 (Rt mosaicref07_power.enc Q w0) := by
  refine ca_start (c := _) Try.func44 rfl Try.ntmps44 rfl ?_
  have so : Sm w0 w0 := Sm.refl w0
  unfold mosaicref07_power.s at h
  refine wc_prune [(0, .int .i64 a0)] ⟨rfl, trivial⟩ (fun f1 => ?_)
  refine wc_seq ?_
  refine wc_region ?_
  refine wl_val (at_assign rfl) rfl ?_
  refine wl_nil ?_
  refine wk_prune [(0, .int .i64 a0)] ⟨rfl, trivial⟩ (fun f1 => ?_)
  refine wk_then ?_
  refine wc_seq ?_
  refine wc_region ?_
  refine wl_val (at_assign rfl) rfl ?_
  refine wl_nil ?_
  refine wk_prune [(0, .int .i64 a0), (3, .int .i64 1)] ⟨rfl, rfl, trivial⟩ (fun f1 => ?_)
  refine wk_then ?_
  refine wc_seq ?_
  refine wc_seq ?_
  refine wc_region ?_
  refine wl_val (at_assign rfl) rfl ?_
  refine wl_nil ?_
  refine wk_prune [(0, .int .i64 a0), (3, .int .i64 1), (4, .int .i64 0)] ⟨rfl, rfl, rfl, trivial⟩ (fun f1 => ?_)
  refine wk_then ?_
  refine wc_block ?_
  obtain ⟨k1, h⟩ := h
  refine wc_loop (fun k a w => ∃ (s3 : Int × Int) (f1 : Nat → Value), a = ac 13 (en f1 [(0, .int .i64 a0), (3, .int .i64 s3.1), (4, .int .i64 s3.2)]) [] ∧ Sm w0 w ∧ Fix _ k s3 w.heap) k1 ⟨(1, 0), _, ac_again ⟨rfl, rfl, rfl, trivial⟩, so, h⟩ ?_
  rintro k2 a5 w4 ⟨s3, f1, rfl, so, h⟩
  rcases k2 with _ | k2
  · exact h.elim
  replace h := Fix.un h; refine wc_in ?_
  refine wc_seq ?_
  refine wc_seq ?_
  refine wc_region ?_
  refine wl_val (at_move rfl) rfl ?_
  refine wl_val (at_move rfl) rfl ?_
  refine wl_val (at_lss rfl rfl) rfl ?_
  refine wl_nil ?_
  refine wk_prune [(0, .int .i64 a0), (3, .int .i64 s3.1), (4, .int .i64 s3.2), (7, .bool (decide (s3.2 < a0)))] ⟨rfl, rfl, rfl, rfl, trivial⟩ (fun f1 => ?_)
  refine wk_then ?_
  refine wc_cond rfl h (fun h => ?_) (fun h => ?_)
  · refine wc_skip ?_
    refine wk_prune [(0, .int .i64 a0), (3, .int .i64 s3.1), (4, .int .i64 s3.2)] ⟨rfl, rfl, rfl, trivial⟩ (fun f1 => ?_)
    refine wk_then ?_
    refine wc_seq ?_
    refine wc_block ?_
    refine wc_region ?_
    refine wl_val (at_move rfl) rfl ?_
    refine wl_val (at_mul rfl rfl) rfl ?_
    refine wl_val (at_assign rfl) rfl ?_
    refine wl_nil ?_
    refine wk_blkN ?_
    refine wk_prune [(0, .int .i64 a0), (3, .int .i64 (IntKind.wrap .i64 ((2 : Int) * s3.1))), (4, .int .i64 s3.2)] ⟨rfl, rfl, rfl, trivial⟩ (fun f1 => ?_)
    refine wk_then ?_
    refine wc_region ?_
    refine wl_val (at_move rfl) rfl ?_
    refine wl_val (at_add rfl rfl) rfl ?_
    refine wl_val (at_assign rfl) rfl ?_
    refine wl_nil ?_
    exact wk_again ⟨((IntKind.wrap .i64 ((2 : Int) * s3.1)), (IntKind.wrap .i64 (s3.2 + 1))), _, ac_again ⟨rfl, rfl, rfl, trivial⟩, so, h⟩
  · refine wc_exit ?_
    refine wk_thenE ?_
    refine wk_thenE ?_
    refine wk_blkE ?_
    refine wk_prune [(3, .int .i64 s3.1)] ⟨rfl, trivial⟩ (fun f1 => ?_)
    refine wk_then ?_
    refine wc_seq ?_
    refine wc_region ?_
    refine wl_val (at_move rfl) rfl ?_
    refine wl_val (at_assign rfl) rfl ?_
    refine wl_nil ?_
    refine wk_prune [(2, .int .i64 s3.1)] ⟨rfl, trivial⟩ (fun f1 => ?_)
    refine wk_then ?_
    refine wc_ret ?_
    exact wk_ret1 (x := s3.1) rfl (by decide) rfl so h

/-- mosaic/mosaicref07.Bits -/
def mosaicref07_Bits.enc : Int → Value := fun r => .int .i64 r
def mosaicref07_Bits.s (a0 : Int) (H0 : Hp) (Q : Int → Hp → Prop) : Prop :=
  if decide ((0 : Int) ≤ a0) = true then (Q a0 H0) else (mosaicref07_Size.s a0 H0 (fun x1 H2 => mosaicref07_power.s x1 H2 (fun x3 H4 => Lt ((IntKind.wrap .i64 ((IntKind.wrap .i64 (x3 - 1)) + a0)) : Int) (fun x5 => Q x5 H4))))
set_option maxRecDepth 20000 in
set_option maxHeartbeats 4000000 in
theorem mosaicref07_Bits.calls (a0 : Int) (w0 : World) (Q : Int → Hp → Prop) (h : mosaicref07_Bits.s a0 w0.heap Q) :
    Ca Try.prog 39 #[.int .i64 a0] w0 (Rt mosaicref07_Bits.enc Q w0) := by
  refine ca_start (c := _) Try.func39 rfl Try.ntmps39 rfl ?_
  have so : Sm w0 w0 := Sm.refl w0
  unfold mosaicref07_Bits.s at h
  refine wc_prune [(0, .int .i64 a0)] ⟨rfl, trivial⟩ (fun f1 => ?_)
  refine wc_seq ?_
  refine wc_region ?_
  refine wl_val (at_assign rfl) rfl ?_
  refine wl_nil ?_
  refine wk_prune [(0, .int .i64 a0)] ⟨rfl, trivial⟩ (fun f1 => ?_)
  refine wk_then ?_
  refine wc_seq ?_
  refine wc_seq ?_
  refine wc_region ?_
  refine wl_val (at_move rfl) rfl ?_
  refine wl_val (at_geq rfl rfl) rfl ?_
  refine wl_nil ?_
  refine wk_prune [(0, .int .i64 a0), (4, .bool (decide ((0 : Int) ≤ a0)))] ⟨rfl, rfl, trivial⟩ (fun f1 => ?_)
  refine wk_then ?_
  refine wc_cond rfl h (fun h => ?_) (fun h => ?_)
  · refine wc_seq ?_
    refine wc_region ?_
    refine wl_val (at_move rfl) rfl ?_
    refine wl_val (at_assign rfl) rfl ?_
    refine wl_nil ?_
    refine wk_prune [(2, .int .i64 a0)] ⟨rfl, trivial⟩ (fun f1 => ?_)
    refine wk_then ?_
    refine wc_ret ?_
    refine wk_thenR ?_
    exact wk_ret1 (x := a0) rfl (by decide) rfl so h
  · refine wc_skip ?_
    refine wk_prune [(0, .int .i64 a0)] ⟨rfl, trivial⟩ (fun f1 => ?_)
    refine wk_then ?_
    refine wc_seq ?_
    refine wc_region ?_
    refine wl_val (at_move rfl) rfl ?_
    refine wl_callF (mosaicref07_Size.calls _ _ _ h) enter30 rfl trivial so ?_; intro x1 w2 h so
    refine wl_callF (mosaicref07_power.calls _ _ _ h) enter44 rfl trivial so ?_; intro x3 w4 h so
    refine wl_val (at_sub rfl rfl) rfl ?_
    refine wl_val (at_move rfl) rfl ?_
    refine wl_val (at_add rfl rfl) rfl ?_
    refine wl_val (at_assign rfl) rfl ?_
    obtain ⟨x5, e6⟩ : ∃ x : Int, x = (IntKind.wrap .i64 ((IntKind.wrap .i64 (x3 - 1)) + a0)) := ⟨_, rfl⟩; replace h := h x5 e6
    refine wl_set (t := 2) (v := .int .i64 x5) (congrArg (Value.int .i64) e6.symm) ?_
    refine wl_nil ?_
    refine wk_prune [(2, .int .i64 x5)] ⟨rfl, trivial⟩ (fun f1 => ?_)
    refine wk_then ?_
    refine wc_ret ?_
    exact wk_ret1 (x := x5) rfl (by decide) rfl so h

/-- mosaic/mosaicref07.sym -/
def mosaicref07_sym.enc : Int × Int × Int → Value := fun r => .agg (c42 r.1 r.2.1 r.2.2).toArray
def mosaicref07_sym.s (a0 : Int) (a1 : Int) (H0 : Hp) (Q : (Int × Int × Int) → Hp → Prop) : Prop :=
  Gn [] H0 (fun (b1 : Nat) (H2 : Hp) => mosaicref07_Size.s a1 H2 (fun x3 H4 => Pv [b1] H2 H4 ∧ (mosaicref07_Size.s a1 H4 (fun x6 H7 => Pv [b1] H4 H7 ∧ (mosaicref07_Bits.s a1 H7 (fun x9 H10 => Pv [b1] H7 H10 ∧ (Gr [b1] H10 (fun (H12 : Hp) => Q ((IntKind.wrap .u8 (IntKind.wrap .i64 ((IntKind.wrap .i64 ((16 : Int) * a0)) + x3))), (IntKind.wrap .i8 x6), (IntKind.wrap .u16 x9)) H12))))))))
set_option maxRecDepth 20000 in
set_option maxHeartbeats 4000000 in
theorem mosaicref07_sym.calls (a0 : Int) (a1 : Int) (w0 : World) (Q : (Int × Int × Int) → Hp → Prop) (h : mosaicref07_sym.s a0 a1 w0.heap Q) :
    Ca Try.prog 31 #[.int .i64 a0, .int .i64 a1] w0 (Rt mosaicref07_sym.enc Q w0) := by
  refine ca_start (c := _) Try.func31 rfl Try.ntmps31 rfl ?_
  have so : Sm w0 w0 := Sm.refl w0
  unfold mosaicref07_sym.s at h
  refine wc_prune [(0, .int .i64 a0), (1, .int .i64 a1)] ⟨rfl, rfl, trivial⟩ (fun f1 => ?_)
  refine wc_seq ?_
  refine wc_region ?_
  refine wl_newT (T := 42) (cs := (c42 0 0 0)) (ef_alloc zero42 rfl) rfl so ?_; intro b1 w2 hb_b1 t_b1 k_b1 so
  have g_b1 := Nat.le_of_eq hb_b1.symm
  have hc := k_b1.ch (F := [])
  refine wl_nil ?_
  refine wk_prune [(0, .int .i64 a0), (1, .int .i64 a1), (4, .pointer (some (⟨b1, 0, none⟩ : Addr)))] ⟨rfl, rfl, rfl, trivial⟩ (fun f1 => ?_)
  refine wk_then ?_
  refine wc_seq ?_
  refine wc_region ?_
  refine wl_val (at_move rfl) rfl ?_
  refine wl_val (at_mul rfl rfl) rfl ?_
  refine wl_val (at_move rfl) rfl ?_
  replace h := h b1 _ hc g_b1 t_b1.lt; clear hc
  refine wl_callF (mosaicref07_Size.calls _ _ _ h) enter30 rfl trivial so ?_; intro x3 w4 h so
  obtain ⟨q5, h⟩ := h
  replace t_b1 := pv_bk q5 t_b1 (by simp)
  refine wl_val (at_add rfl rfl) rfl ?_
  refine wl_val (at_conv Try.underlying3 Try.underlying5 rfl) rfl ?_
  refine wl_val (at_move rfl) rfl ?_
  refine wl_callF (mosaicref07_Size.calls _ _ _ h) enter30 rfl trivial so ?_; intro x6 w7 h so
  obtain ⟨q8, h⟩ := h
  replace t_b1 := pv_bk q8 t_b1 (by simp)
  refine wl_val (at_conv Try.underlying3 Try.underlying39 rfl) rfl ?_
  refine wl_val (at_move rfl) rfl ?_
  refine wl_callF (mosaicref07_Bits.calls _ _ _ h) enter39 rfl trivial so ?_; intro x9 w10 h so
  obtain ⟨q11, h⟩ := h
  replace t_b1 := pv_bk q11 t_b1 (by simp)
  refine wl_val (at_conv Try.underlying3 Try.underlying40 rfl) rfl ?_
  refine wl_val (at_build (cs := (c42 (IntKind.wrap .u8 (IntKind.wrap .i64 ((IntKind.wrap .i64 ((16 : Int) * a0)) + x3))) (IntKind.wrap .i8 x6) (IntKind.wrap .u16 x9))) (ps := [(0, .int .u8 (IntKind.wrap .u8 (IntKind.wrap .i64 ((IntKind.wrap .i64 ((16 : Int) * a0)) + x3)))), (1, .int .i8 (IntKind.wrap .i8 x6)), (2, .int .u16 (IntKind.wrap .u16 x9))]) rfl (fun w => by simp [Instr.build, Instr.fill, go_sem, Try.underlying42, z42])) rfl ?_
  refine wl_stWT (vs := (c42 (IntKind.wrap .u8 (IntKind.wrap .i64 ((IntKind.wrap .i64 ((16 : Int) * a0)) + x3))) (IntKind.wrap .i8 x6) (IntKind.wrap .u16 x9))) t_b1 (by first | (rw [len42, len42]) | (rw [len42]) | rfl) rfl so (fun q => ef_storeA (p := (⟨b1, 0, none⟩ : Addr)) (cs := (c42 (IntKind.wrap .u8 (IntKind.wrap .i64 ((IntKind.wrap .i64 ((16 : Int) * a0)) + x3))) (IntKind.wrap .i8 x6) (IntKind.wrap .u16 x9))) (by rw [len42]; exact sz42) rfl rfl (one42 _ _ _) q) ?_; intro w12 t_b1 s_w12 so
  have hc := s_w12.ch
  refine wl_nil ?_
  refine wk_prune [(4, .pointer (some (⟨b1, 0, none⟩ : Addr)))] ⟨rfl, trivial⟩ (fun f1 => ?_)
  refine wk_then ?_
  refine wc_ret ?_
  replace h := h _ hc; clear hc
  exact wk_retR1 (x := ((IntKind.wrap .u8 (IntKind.wrap .i64 ((IntKind.wrap .i64 ((16 : Int) * a0)) + x3))), (IntKind.wrap .i8 x6), (IntKind.wrap .u16 x9))) rfl ⟨by decide, _, rfl, loadVar_agg (cs := (c42 (IntKind.wrap .u8 (IntKind.wrap .i64 ((IntKind.wrap .i64 ((16 : Int) * a0)) + x3))) (IntKind.wrap .i8 x6) (IntKind.wrap .u16 x9))) Try.underlying42 rfl (by rw [len42]; exact sz42) (ldA_full t_b1)⟩ rfl so h

/-- mosaic/mosaicref07.Symbols -/
def mosaicref07_Symbols.enc : Sl × Int → Value := fun r => .tuple #[.slice r.1.a r.1.n r.1.c, .int .i64 r.2]
def mosaicref07_Symbols.s (a0_0 : Ints 64) (a1 : Int) (H0 : Hp) (Q : (Sl × Int) → Hp → Prop) : Prop :=
  Gn [] H0 (fun (b1 : Nat) (H2 : Hp) => mosaicref07_May.s a0_0 H2 (fun x3 H4 => Pv [b1] H2 H4 ∧ (if (!x3) = true then (Q (⟨none, 0, 0⟩, 3) H4) else (Bk H4 b1 24 (c24 a0_0) → (ldI .i16 H4 (⟨b1, 0, none⟩ : Addr) (fun x6 => Lt ((IntKind.wrap .i64 ((IntKind.wrap .i64 x6) - (IntKind.wrap .i64 a1))) : Int) (fun x8 => mosaicref07_Size.s x8 H4 (fun x10 H11 => if decide ((11 : Int) < x10) = true then (Q (⟨none, 0, 0⟩, 60) H11) else (mosaicref07_sym.s 0 x8 H11 (fun x12 H13 => nw H13 42 (c42 x12.1 x12.2.1 x12.2.2) (fun p14 H15 => ∃ k18, Fix (fun (rec23 : (Sl × Int × Int) → Hp → Prop) (s20 : Sl × Int × Int) (H21 : Hp) => if decide (s20.2.2 < 64) = true then (Join (fun (s25 : Sl × Int) (H26 : Hp) => rec23 (s25.1, s25.2, (IntKind.wrap .i64 (s20.2.2 + 1))) H26) (fun (J24 : (Sl × Int) → Hp → Prop) => 0 ≤ s20.2.2 ∧ s20.2.2 < (64 : Int) ∧ (ldI .i16 H21 ((⟨b1, 0, none⟩ : Addr).add (Int.toNat s20.2.2 * 1)) (fun x29 => if (x29 != 0) = true then (Lt ((IntKind.wrap .i64 ((IntKind.wrap .i64 (s20.2.2 - s20.2.1)) - 1)) : Int) (fun x31 => ∃ k33, Fix (fun (rec38 : (Sl × Int) → Hp → Prop) (s35 : Sl × Int) (H36 : Hp) => if decide (s35.2 < (IntKind.wrap .i64 (Int.tdiv x31 16))) = true then (nw H36 42 (c42 240 0 0) (fun p39 H40 => apS H40 s35.1 42 3 4 z42.cells 1 (c42 240 0 0) (fun l44 H45 => rec38 (l44, (IntKind.wrap .i64 (s35.2 + 1))) H45))) else (0 ≤ s20.2.2 ∧ s20.2.2 < (64 : Int) ∧ (ldI .i16 H36 ((⟨b1, 0, none⟩ : Addr).add (Int.toNat s20.2.2 * 1)) (fun x48 => mosaicref07_sym.s (Int.tmod x31 16) (IntKind.wrap .i64 x48) H36 (fun x50 H51 => nw H51 42 (c42 x50.1 x50.2.1 x50.2.2) (fun p52 H53 => apS H53 s35.1 42 3 4 z42.cells 1 (c42 x50.1 x50.2.1 x50.2.2) (fun l57 H58 => J24 (l57, s20.2.2) H58))))))) k33 (s20.1, 0) H21)) else (J24 (s20.1, s20.2.1) H21))))) else (Join (fun (s60 : Sl) (H61 : Hp) => Q (s60, 0) H61) (fun (J59 : Sl → Hp → Prop) => ldI .i16 H21 (⟨b1, 63, none⟩ : Addr) (fun x62 => if (x62 == 0) = true then (nw H21 42 (c42 0 0 0) (fun p64 H65 => apS H65 s20.1 42 3 4 z42.cells 1 (c42 0 0 0) (fun l69 H70 => J59 (l69) H70))) else (J59 (s20.1) H21))))) k18 (⟨(some p14), 1, 1⟩, 0, 1) H15)))))))))))
set_option maxRecDepth 20000 in
set_option maxHeartbeats 4000000 in
theorem mosaicref07_Symbols.calls (a0_0 : Ints 64) (a1 : Int) (w0 : World) (Q : (Sl × Int) → Hp → Prop) (h : mosaicref07_Symbols.s a0_0 a1 w0.heap Q) :
    Ca Try.prog 10 #[.agg (c24 a0_0).toArray, .int .i16 a1] w0 (Rt mosaicref07_Symbols.enc Q w0) := by
  refine ca_start (c := _) Try.func10 rfl Try.ntmps10 rfl ?_
  have so : Sm w0 w0 := Sm.refl w0
  unfold mosaicref07_Symbols.s at h
  refine wc_prune [(0, .agg (c24 a0_0).toArray), (1, .int .i16 a1)] ⟨rfl, rfl, trivial⟩ (fun f1 => ?_)
  refine wc_seq ?_
  refine wc_region ?_
  refine wl_newT (T := 24) (cs := (c24 a0_0)) (ef_box rfl rfl) rfl so ?_; intro b1 w2 hb_b1 t_b1 k_b1 so
  have g_b1 := Nat.le_of_eq hb_b1.symm
  have hc := k_b1.ch (F := [])
  refine wl_val (at_assign rfl) rfl ?_
  refine wl_val (at_assign rfl) rfl ?_
  refine wl_nil ?_
  refine wk_prune [(1, .int .i16 a1), (2, .pointer (some (⟨b1, 0, none⟩ : Addr)))] ⟨rfl, rfl, trivial⟩ (fun f1 => ?_)
  refine wk_then ?_
  refine wc_seq ?_
  refine wc_region ?_
  refine wl_val (at_loadA (cs := (c24 a0_0)) Try.underlying24 rfl (by rw [len24]; exact sz24) rfl (ldA_full t_b1)) rfl ?_
  replace h := h b1 _ hc g_b1 t_b1.lt; clear hc
  refine wl_callF (mosaicref07_May.calls _ _ _ h) enter29 rfl trivial so ?_; intro x3 w4 h so
  obtain ⟨q5, h⟩ := h
  replace t_b1 := pv_bk q5 t_b1 (by simp)
  refine wl_val (at_assign rfl) rfl ?_
  refine wl_nil ?_
  refine wk_prune [(1, .int .i16 a1), (2, .pointer (some (⟨b1, 0, none⟩ : Addr))), (6, .bool x3)] ⟨rfl, rfl, rfl, trivial⟩ (fun f1 => ?_)
  refine wk_then ?_
  refine wc_seq ?_
  refine wc_seq ?_
  refine wc_region ?_
  refine wl_val (at_move rfl) rfl ?_
  refine wl_val (at_not rfl) rfl ?_
  refine wl_nil ?_
  refine wk_prune [(1, .int .i16 a1), (2, .pointer (some (⟨b1, 0, none⟩ : Addr))), (16, .bool (!x3))] ⟨rfl, rfl, rfl, trivial⟩ (fun f1 => ?_)
  refine wk_then ?_
  refine wc_cond rfl h (fun h => ?_) (fun h => ?_)
  · refine wc_seq ?_
    refine wc_region ?_
    refine wl_val (at_assign rfl) rfl ?_
    refine wl_val (at_assign rfl) rfl ?_
    refine wl_nil ?_
    refine wk_prune [(4, .slice none 0 0), (5, .int .i64 3)] ⟨rfl, rfl, trivial⟩ (fun f1 => ?_)
    refine wk_then ?_
    refine wc_ret ?_
    refine wk_thenR ?_
    exact wk_ret2 (x := (⟨none, 0, 0⟩, 3)) rfl (by decide) (by decide) rfl so h
  · refine wc_skip ?_
    refine wk_prune [(1, .int .i16 a1), (2, .pointer (some (⟨b1, 0, none⟩ : Addr)))] ⟨rfl, rfl, trivial⟩ (fun f1 => ?_)
    refine wk_then ?_
    refine wc_seq ?_
    refine wc_region ?_
    refine wl_val (at_ixAddrA Try.underlying24 sz22 rfl rfl (by decide) (by decide)) rfl ?_
    replace h := h t_b1
    obtain ⟨x6, q7, h⟩ := h
    refine wl_val (at_load Try.underlying22 rfl rfl q7) rfl ?_
    refine wl_val (at_conv Try.underlying22 Try.underlying3 rfl) rfl ?_
    refine wl_val (at_move rfl) rfl ?_
    refine wl_val (at_conv Try.underlying22 Try.underlying3 rfl) rfl ?_
    refine wl_val (at_sub rfl rfl) rfl ?_
    refine wl_val (at_assign rfl) rfl ?_
    obtain ⟨x8, e9⟩ : ∃ x : Int, x = (IntKind.wrap .i64 ((IntKind.wrap .i64 x6) - (IntKind.wrap .i64 a1))) := ⟨_, rfl⟩; replace h := h x8 e9
    refine wl_set (t := 7) (v := .int .i64 x8) (congrArg (Value.int .i64) e9.symm) ?_
    refine wl_nil ?_
    refine wk_prune [(2, .pointer (some (⟨b1, 0, none⟩ : Addr))), (7, .int .i64 x8)] ⟨rfl, rfl, trivial⟩ (fun f1 => ?_)
    refine wk_then ?_
    refine wc_seq ?_
    refine wc_seq ?_
    refine wc_region ?_
    refine wl_val (at_move rfl) rfl ?_
    refine wl_callF (mosaicref07_Size.calls _ _ _ h) enter30 rfl trivial so ?_; intro x10 w11 h so
    refine wl_val (at_gtr rfl rfl) rfl ?_
    refine wl_nil ?_
    refine wk_prune [(2, .pointer (some (⟨b1, 0, none⟩ : Addr))), (7, .int .i64 x8), (25, .bool (decide ((11 : Int) < x10)))] ⟨rfl, rfl, rfl, trivial⟩ (fun f1 => ?_)
    refine wk_then ?_
    refine wc_cond rfl h (fun h => ?_) (fun h => ?_)
    · refine wc_seq ?_
      refine wc_region ?_
      refine wl_val (at_assign rfl) rfl ?_
      refine wl_val (at_assign rfl) rfl ?_
      refine wl_nil ?_
      refine wk_prune [(4, .slice none 0 0), (5, .int .i64 60)] ⟨rfl, rfl, trivial⟩ (fun f1 => ?_)
      refine wk_then ?_
      refine wc_ret ?_
      refine wk_thenR ?_
      exact wk_ret2 (x := (⟨none, 0, 0⟩, 60)) rfl (by decide) (by decide) rfl so h
    · refine wc_skip ?_
      refine wk_prune [(2, .pointer (some (⟨b1, 0, none⟩ : Addr))), (7, .int .i64 x8)] ⟨rfl, rfl, trivial⟩ (fun f1 => ?_)
      refine wk_then ?_
      refine wc_seq ?_
      refine wc_region ?_
      refine wl_val (at_move rfl) rfl ?_
      refine wl_callF (mosaicref07_sym.calls _ _ _ _ h) enter31 rfl trivial so ?_; intro x12 w13 h so
      obtain ⟨i17, i17a, i17b, i17c, i17d⟩ := info42
      refine wl_newS (ef_buildSlice (cs := (c42 x12.1 x12.2.1 x12.2.2)) (ps := [(0, .agg (c42 x12.1 x12.2.1 x12.2.2).toArray)]) Try.underlying25 i17a i17b rfl (by rw [i17c]; decide) (by rw [i17c]; exact fill_full (vs := [.agg (c42 x12.1 x12.2.1 x12.2.2).toArray]) rfl (by simp [Value.cells]) (by simp [Value.cells, len42]) rfl (by simp))) rfl so (one42 _ _ _) h ?_; intro p14 w15 h r16 so
      refine wl_val (at_assign rfl) rfl ?_
      refine wl_nil ?_
      refine wk_prune [(2, .pointer (some (⟨b1, 0, none⟩ : Addr))), (8, .slice (some p14) 1 1)] ⟨rfl, rfl, trivial⟩ (fun f1 => ?_)
      refine wk_then ?_
      refine wc_seq ?_
      refine wc_region ?_
      refine wl_val (at_assign rfl) rfl ?_
      refine wl_nil ?_
      refine wk_prune [(2, .pointer (some (⟨b1, 0, none⟩ : Addr))), (8, .slice (some p14) 1 1), (9, .int .i64 0)] ⟨rfl, rfl, rfl, trivial⟩ (fun f1 => ?_)
      refine wk_then ?_
      refine wc_seq ?_
      refine wc_seq ?_
      refine wc_region ?_
      refine wl_val (at_assign rfl) rfl ?_
      refine wl_nil ?_
      refine wk_prune [(2, .pointer (some (⟨b1, 0, none⟩ : Addr))), (8, .slice (some p14) 1 1), (9, .int .i64 0), (10, .int .i64 1)] ⟨rfl, rfl, rfl, rfl, trivial⟩ (fun f1 => ?_)
      refine wk_then ?_
      refine wc_block ?_
      obtain ⟨k18, h⟩ := h
      refine wc_loop (fun k a w => ∃ (s20 : Sl × Int × Int) (f1 : Nat → Value), a = ac 70 (en f1 [(2, .pointer (some (⟨b1, 0, none⟩ : Addr))), (8, .slice s20.1.a s20.1.n s20.1.c), (9, .int .i64 s20.2.1), (10, .int .i64 s20.2.2)]) [] ∧ Sm w0 w ∧ Fix _ k s20 w.heap) k18 ⟨(⟨(some p14), 1, 1⟩, 0, 1), _, ac_again ⟨rfl, rfl, rfl, rfl, trivial⟩, so, h⟩ ?_
      rintro k19 a22 w21 ⟨s20, f1, rfl, so, h⟩
      rcases k19 with _ | k19
      · exact h.elim
      replace h := Fix.un h; refine wc_in ?_
      refine wc_seq ?_
      refine wc_seq ?_
      refine wc_region ?_
      refine wl_val (at_move rfl) rfl ?_
      refine wl_val (at_lss rfl rfl) rfl ?_
      refine wl_nil ?_
      refine wk_prune [(2, .pointer (some (⟨b1, 0, none⟩ : Addr))), (8, .slice s20.1.a s20.1.n s20.1.c), (9, .int .i64 s20.2.1), (10, .int .i64 s20.2.2), (30, .bool (decide (s20.2.2 < 64)))] ⟨rfl, rfl, rfl, rfl, rfl, trivial⟩ (fun f1 => ?_)
      refine wk_then ?_
      refine wc_cond rfl h (fun h => ?_) (fun h => ?_)
      · refine wc_skip ?_
        refine wk_prune [(2, .pointer (some (⟨b1, 0, none⟩ : Addr))), (8, .slice s20.1.a s20.1.n s20.1.c), (9, .int .i64 s20.2.1), (10, .int .i64 s20.2.2)] ⟨rfl, rfl, rfl, rfl, trivial⟩ (fun f1 => ?_)
        refine wk_then ?_
        refine wc_seq ?_
        refine wc_join (w0 := w0) (fun (s25 : Sl × Int) => [(2, .pointer (some (⟨b1, 0, none⟩ : Addr))), (8, .slice s25.1.a s25.1.n s25.1.c), (9, .int .i64 s25.2), (10, .int .i64 s20.2.2)]) h ?_ ?_
        · rintro s25 w26 f1 h so; refine wk_then ?_
          refine wc_region ?_
          refine wl_val (at_move rfl) rfl ?_
          refine wl_val (at_add rfl rfl) rfl ?_
          refine wl_val (at_assign rfl) rfl ?_
          refine wl_nil ?_
          exact wk_again ⟨(s25.1, s25.2, (IntKind.wrap .i64 (s20.2.2 + 1))), _, ac_again ⟨rfl, rfl, rfl, rfl, trivial⟩, so, h⟩
        · intro J24 h hJ24
          refine wc_block ?_
          refine wc_seq ?_
          refine wc_region ?_
          refine wl_val (at_move rfl) rfl ?_
          obtain ⟨q27, q28, h⟩ := h
          refine wl_val (at_ixAddrA Try.underlying24 sz22 rfl rfl q27 q28) rfl ?_
          obtain ⟨x29, q30, h⟩ := h
          refine wl_val (at_load Try.underlying22 rfl rfl q30) rfl ?_
          refine wl_val (at_neq rfl rfl) rfl ?_
          refine wl_nil ?_
          refine wk_prune [(2, .pointer (some (⟨b1, 0, none⟩ : Addr))), (8, .slice s20.1.a s20.1.n s20.1.c), (9, .int .i64 s20.2.1), (10, .int .i64 s20.2.2), (36, .bool (x29 != 0))] ⟨rfl, rfl, rfl, rfl, rfl, trivial⟩ (fun f1 => ?_)
          refine wk_then ?_
          refine wc_cond rfl h (fun h => ?_) (fun h => ?_)
          · refine wc_seq ?_
            refine wc_region ?_
            refine wl_val (at_move rfl) rfl ?_
            refine wl_val (at_move rfl) rfl ?_
            refine wl_val (at_sub rfl rfl) rfl ?_
            refine wl_val (at_sub rfl rfl) rfl ?_
            refine wl_val (at_assign rfl) rfl ?_
            obtain ⟨x31, e32⟩ : ∃ x : Int, x = (IntKind.wrap .i64 ((IntKind.wrap .i64 (s20.2.2 - s20.2.1)) - 1)) := ⟨_, rfl⟩; replace h := h x31 e32
            refine wl_set (t := 11) (v := .int .i64 x31) (congrArg (Value.int .i64) e32.symm) ?_
            refine wl_nil ?_
            refine wk_prune [(2, .pointer (some (⟨b1, 0, none⟩ : Addr))), (8, .slice s20.1.a s20.1.n s20.1.c), (10, .int .i64 s20.2.2), (11, .int .i64 x31)] ⟨rfl, rfl, rfl, rfl, trivial⟩ (fun f1 => ?_)
            refine wk_then ?_
            refine wc_seq ?_
            refine wc_seq ?_
            refine wc_region ?_
            refine wl_val (at_assign rfl) rfl ?_
            refine wl_nil ?_
            refine wk_prune [(2, .pointer (some (⟨b1, 0, none⟩ : Addr))), (8, .slice s20.1.a s20.1.n s20.1.c), (10, .int .i64 s20.2.2), (11, .int .i64 x31), (12, .int .i64 0)] ⟨rfl, rfl, rfl, rfl, rfl, trivial⟩ (fun f1 => ?_)
            refine wk_then ?_
            refine wc_block ?_
            obtain ⟨k33, h⟩ := h
            refine wc_loop (fun k a w => ∃ (s35 : Sl × Int) (f1 : Nat → Value), a = ac 70 (en f1 [(2, .pointer (some (⟨b1, 0, none⟩ : Addr))), (8, .slice s35.1.a s35.1.n s35.1.c), (10, .int .i64 s20.2.2), (11, .int .i64 x31), (12, .int .i64 s35.2)]) [] ∧ Sm w0 w ∧ Fix _ k s35 w.heap) k33 ⟨(s20.1, 0), _, ac_again ⟨rfl, rfl, rfl, rfl, rfl, trivial⟩, so, h⟩ ?_
            rintro k34 a37 w36 ⟨s35, f1, rfl, so, h⟩
            rcases k34 with _ | k34
            · exact h.elim
            replace h := Fix.un h; refine wc_in ?_
            refine wc_seq ?_
            refine wc_seq ?_
            refine wc_region ?_
            refine wl_val (at_move rfl) rfl ?_
            refine wl_val (at_move rfl) rfl ?_
            refine wl_val (at_quo rfl rfl (by decide)) rfl ?_
            refine wl_val (at_lss rfl rfl) rfl ?_
            refine wl_nil ?_
            refine wk_prune [(2, .pointer (some (⟨b1, 0, none⟩ : Addr))), (8, .slice s35.1.a s35.1.n s35.1.c), (10, .int .i64 s20.2.2), (11, .int .i64 x31), (12, .int .i64 s35.2), (44, .bool (decide (s35.2 < (IntKind.wrap .i64 (Int.tdiv x31 16)))))] ⟨rfl, rfl, rfl, rfl, rfl, rfl, trivial⟩ (fun f1 => ?_)
            refine wk_then ?_
            refine wc_cond rfl h (fun h => ?_) (fun h => ?_)
            · refine wc_skip ?_
              refine wk_prune [(2, .pointer (some (⟨b1, 0, none⟩ : Addr))), (8, .slice s35.1.a s35.1.n s35.1.c), (10, .int .i64 s20.2.2), (11, .int .i64 x31), (12, .int .i64 s35.2)] ⟨rfl, rfl, rfl, rfl, rfl, trivial⟩ (fun f1 => ?_)
              refine wk_then ?_
              refine wc_seq ?_
              refine wc_block ?_
              refine wc_region ?_
              refine wl_val (at_move rfl) rfl ?_
              refine wl_val (at_build (cs := (c42 240 0 0)) (ps := [(0, .int .u8 240)]) rfl (fun w => by simp [Instr.build, Instr.fill, go_sem, Try.underlying42, z42])) rfl ?_
              obtain ⟨i42, i42a, i42b, i42c, i42d⟩ := info42
              refine wl_newS (ef_buildSlice (cs := (c42 240 0 0)) (ps := [(0, .agg (c42 240 0 0).toArray)]) Try.underlying25 i42a i42b rfl (by rw [i42c]; decide) (by rw [i42c]; exact fill_full (vs := [.agg (c42 240 0 0).toArray]) rfl (by simp [Value.cells]) (by simp [Value.cells, len42]) rfl (by simp))) rfl so (one42 _ _ _) h ?_; intro p39 w40 h r41 so
              obtain ⟨i43, i43a, i43b, i43c, i43d⟩ := info42
              refine wl_ap (fx_append (s := s35.1) (t := ⟨(some p39), 1, 1⟩) (m := 1) (xs := (c42 240 0 0)) Try.underlying25 Try.underlying25 i43a i43b i43c i43d rfl rfl rfl (by first | rfl | simp [len42]) r41 h) rfl so ?_; intro l44 w45 h so
              refine wl_val (at_assign rfl) rfl ?_
              refine wl_nil ?_
              refine wk_blkN ?_
              refine wk_prune [(2, .pointer (some (⟨b1, 0, none⟩ : Addr))), (8, .slice l44.a l44.n l44.c), (10, .int .i64 s20.2.2), (11, .int .i64 x31), (12, .int .i64 s35.2)] ⟨rfl, rfl, rfl, rfl, rfl, trivial⟩ (fun f1 => ?_)
              refine wk_then ?_
              refine wc_region ?_
              refine wl_val (at_move rfl) rfl ?_
              refine wl_val (at_add rfl rfl) rfl ?_
              refine wl_val (at_assign rfl) rfl ?_
              refine wl_nil ?_
              exact wk_again ⟨(l44, (IntKind.wrap .i64 (s35.2 + 1))), _, ac_again ⟨rfl, rfl, rfl, rfl, rfl, trivial⟩, so, h⟩
            · refine wc_exit ?_
              refine wk_thenE ?_
              refine wk_thenE ?_
              refine wk_blkE ?_
              refine wk_prune [(2, .pointer (some (⟨b1, 0, none⟩ : Addr))), (8, .slice s35.1.a s35.1.n s35.1.c), (10, .int .i64 s20.2.2), (11, .int .i64 x31)] ⟨rfl, rfl, rfl, rfl, trivial⟩ (fun f1 => ?_)
              refine wk_then ?_
              refine wc_seq ?_
              refine wc_region ?_
              refine wl_val (at_move rfl) rfl ?_
              refine wl_val (at_move rfl) rfl ?_
              refine wl_val (at_rem rfl rfl (by decide)) rfl ?_
              refine wl_val (at_move rfl) rfl ?_
              obtain ⟨q46, q47, h⟩ := h
              refine wl_val (at_ixAddrA Try.underlying24 sz22 rfl rfl q46 q47) rfl ?_
              obtain ⟨x48, q49, h⟩ := h
              refine wl_val (at_load Try.underlying22 rfl rfl q49) rfl ?_
              refine wl_val (at_conv Try.underlying22 Try.underlying3 rfl) rfl ?_
              refine wl_callF (mosaicref07_sym.calls _ _ _ _ h) enter31 rfl trivial so ?_; intro x50 w51 h so
              obtain ⟨i55, i55a, i55b, i55c, i55d⟩ := info42
              refine wl_newS (ef_buildSlice (cs := (c42 x50.1 x50.2.1 x50.2.2)) (ps := [(0, .agg (c42 x50.1 x50.2.1 x50.2.2).toArray)]) Try.underlying25 i55a i55b rfl (by rw [i55c]; decide) (by rw [i55c]; exact fill_full (vs := [.agg (c42 x50.1 x50.2.1 x50.2.2).toArray]) rfl (by simp [Value.cells]) (by simp [Value.cells, len42]) rfl (by simp))) rfl so (one42 _ _ _) h ?_; intro p52 w53 h r54 so
              obtain ⟨i56, i56a, i56b, i56c, i56d⟩ := info42
              refine wl_ap (fx_append (s := s35.1) (t := ⟨(some p52), 1, 1⟩) (m := 1) (xs := (c42 x50.1 x50.2.1 x50.2.2)) Try.underlying25 Try.underlying25 i56a i56b i56c i56d rfl rfl rfl (by first | rfl | simp [len42]) r54 h) rfl so ?_; intro l57 w58 h so
              refine wl_val (at_assign rfl) rfl ?_
              refine wl_nil ?_
              refine wk_prune [(2, .pointer (some (⟨b1, 0, none⟩ : Addr))), (8, .slice l57.a l57.n l57.c), (10, .int .i64 s20.2.2)] ⟨rfl, rfl, rfl, trivial⟩ (fun f1 => ?_)
              refine wk_then ?_
              refine wc_region ?_
              refine wl_val (at_move rfl) rfl ?_
              refine wl_val (at_assign rfl) rfl ?_
              refine wl_nil ?_
              refine wk_blkN ?_
              exact wk_prune [(2, .pointer (some (⟨b1, 0, none⟩ : Addr))), (8, .slice l57.a l57.n l57.c), (9, .int .i64 s20.2.2), (10, .int .i64 s20.2.2)] ⟨rfl, rfl, rfl, rfl, trivial⟩ (fun f1 => hJ24 (l57, s20.2.2) _ f1 h so)
          · refine wc_skip ?_
            refine wk_blkN ?_
            exact wk_prune [(2, .pointer (some (⟨b1, 0, none⟩ : Addr))), (8, .slice s20.1.a s20.1.n s20.1.c), (9, .int .i64 s20.2.1), (10, .int .i64 s20.2.2)] ⟨rfl, rfl, rfl, rfl, trivial⟩ (fun f1 => hJ24 (s20.1, s20.2.1) _ f1 h so)
      · refine wc_exit ?_
        refine wk_thenE ?_
        refine wk_thenE ?_
        refine wk_blkE ?_
        refine wk_prune [(2, .pointer (some (⟨b1, 0, none⟩ : Addr))), (8, .slice s20.1.a s20.1.n s20.1.c)] ⟨rfl, rfl, trivial⟩ (fun f1 => ?_)
        refine wk_then ?_
        refine wc_seq ?_
        refine wc_join (w0 := w0) (fun (s60 : Sl) => [(8, .slice s60.a s60.n s60.c)]) h ?_ ?_
        · rintro s60 w61 f1 h so; refine wk_then ?_
          refine wc_seq ?_
          refine wc_region ?_
          refine wl_val (at_move rfl) rfl ?_
          refine wl_val (at_assign rfl) rfl ?_
          refine wl_val (at_assign rfl) rfl ?_
          refine wl_nil ?_
          refine wk_prune [(4, .slice s60.a s60.n s60.c), (5, .int .i64 0)] ⟨rfl, rfl, trivial⟩ (fun f1 => ?_)
          refine wk_then ?_
          refine wc_ret ?_
          exact wk_ret2 (x := (s60, 0)) rfl (by decide) (by decide) rfl so h
        · intro J59 h hJ59
          refine wc_seq ?_
          refine wc_region ?_
          refine wl_val (at_ixAddrA Try.underlying24 sz22 rfl rfl (by decide) (by decide)) rfl ?_
          obtain ⟨x62, q63, h⟩ := h
          refine wl_val (at_load Try.underlying22 rfl rfl q63) rfl ?_
          refine wl_val (at_eql rfl rfl) rfl ?_
          refine wl_nil ?_
          refine wk_prune [(8, .slice s20.1.a s20.1.n s20.1.c), (64, .bool (x62 == 0))] ⟨rfl, rfl, trivial⟩ (fun f1 => ?_)
          refine wk_then ?_
          refine wc_cond rfl h (fun h => ?_) (fun h => ?_)
          · refine wc_region ?_
            refine wl_val (at_move rfl) rfl ?_
            refine wl_val (at_build (cs := (c42 0 0 0)) (ps := []) rfl (fun w => by simp [Instr.build, Instr.fill, go_sem, Try.underlying42, z42])) rfl ?_
            obtain ⟨i67, i67a, i67b, i67c, i67d⟩ := info42
            refine wl_newS (ef_buildSlice (cs := (c42 0 0 0)) (ps := [(0, .agg (c42 0 0 0).toArray)]) Try.underlying25 i67a i67b rfl (by rw [i67c]; decide) (by rw [i67c]; exact fill_full (vs := [.agg (c42 0 0 0).toArray]) rfl (by simp [Value.cells]) (by simp [Value.cells, len42]) rfl (by simp))) rfl so (one42 _ _ _) h ?_; intro p64 w65 h r66 so
            obtain ⟨i68, i68a, i68b, i68c, i68d⟩ := info42
            refine wl_ap (fx_append (s := s20.1) (t := ⟨(some p64), 1, 1⟩) (m := 1) (xs := (c42 0 0 0)) Try.underlying25 Try.underlying25 i68a i68b i68c i68d rfl rfl rfl (by first | rfl | simp [len42]) r66 h) rfl so ?_; intro l69 w70 h so
            refine wl_val (at_assign rfl) rfl ?_
            refine wl_nil ?_
            exact wk_prune [(8, .slice l69.a l69.n l69.c)] ⟨rfl, trivial⟩ (fun f1 => hJ59 (l69) _ f1 h so)
          · refine wc_skip ?_
            exact wk_prune [(8, .slice s20.1.a s20.1.n s20.1.c)] ⟨rfl, trivial⟩ (fun f1 => hJ59 (s20.1) _ f1 h so)

/-- mosaic/mosaicref07.Same -/
def mosaicref07_Same.enc : Bool → Value := fun r => .bool r
def mosaicref07_Same.s (a0 : Sl) (a1 : Sl) (H0 : Hp) (Q : Bool → Hp → Prop) : Prop :=
  if ((a0.n : Int) != (a1.n : Int)) = true then (Q false H0) else (∃ k1, Fix (fun (rec6 : Int → Hp → Prop) (s3 : Int) (H4 : Hp) => if decide (s3 < (a0.n : Int)) = true then (0 ≤ s3 ∧ s3 < (a0.n : Int) ∧ someA a0.a (fun p9 => ∃ x11 : Int, ∃ x12 : Int, ∃ x13 : Int, ldA H4 (p9.add (Int.toNat s3 * 3)) (c42 x11 x12 x13) ∧ (0 ≤ s3 ∧ s3 < (a1.n : Int) ∧ someA a1.a (fun p17 => ∃ x19 : Int, ∃ x20 : Int, ∃ x21 : Int, ldA H4 (p17.add (Int.toNat s3 * 3)) (c42 x19 x20 x21) ∧ (if (!((x11 == x19) && ((x12 == x20) && (x13 == x21)))) = true then (Q false H4) else (rec6 ((IntKind.wrap .i64 (s3 + 1))) H4)))))) else (Q true H4)) k1 (0) H0)
set_option maxRecDepth 20000 in
set_option maxHeartbeats 4000000 in
theorem mosaicref07_Same.calls (a0 : Sl) (a1 : Sl) (w0 : World) (Q : Bool → Hp → Prop) (h : mosaicref07_Same.s a0 a1 w0.heap Q) :
    Ca Try.prog 13 #[.slice a0.a a0.n a0.c, .slice a1.a a1.n a1.c] w0 (Rt mosaicref07_Same.enc Q w0) := by
  refine ca_start (c := _) Try.func13 rfl Try.ntmps13 rfl ?_
  have so : Sm w0 w0 := Sm.refl w0
  unfold mosaicref07_Same.s at h
  refine wc_prune [(0, .slice a0.a a0.n a0.c), (1, .slice a1.a a1.n a1.c)] ⟨rfl, rfl, trivial⟩ (fun f1 => ?_)
  refine wc_seq ?_
  refine wc_region ?_
  refine wl_val (at_assign rfl) rfl ?_
  refine wl_nil ?_
  refine wk_prune [(0, .slice a0.a a0.n a0.c), (1, .slice a1.a a1.n a1.c)] ⟨rfl, rfl, trivial⟩ (fun f1 => ?_)
  refine wk_then ?_
  refine wc_seq ?_
  refine wc_seq ?_
  refine wc_region ?_
  refine wl_val (at_move rfl) rfl ?_
  refine wl_val (at_lenL Try.underlying25 rfl) rfl ?_
  refine wl_val (at_move rfl) rfl ?_
  refine wl_val (at_lenL Try.underlying25 rfl) rfl ?_
  refine wl_val (at_neq rfl rfl) rfl ?_
  refine wl_nil ?_
  refine wk_prune [(0, .slice a0.a a0.n a0.c), (1, .slice a1.a a1.n a1.c), (10, .bool ((a0.n : Int) != (a1.n : Int)))] ⟨rfl, rfl, rfl, trivial⟩ (fun f1 => ?_)
  refine wk_then ?_
  refine wc_cond rfl h (fun h => ?_) (fun h => ?_)
  · refine wc_seq ?_
    refine wc_region ?_
    refine wl_val (at_assign rfl) rfl ?_
    refine wl_nil ?_
    refine wk_prune [(4, .bool false)] ⟨rfl, trivial⟩ (fun f1 => ?_)
    refine wk_then ?_
    refine wc_ret ?_
    refine wk_thenR ?_
    exact wk_ret1 (x := false) rfl (by decide) rfl so h
  · refine wc_skip ?_
    refine wk_prune [(0, .slice a0.a a0.n a0.c), (1, .slice a1.a a1.n a1.c)] ⟨rfl, rfl, trivial⟩ (fun f1 => ?_)
    refine wk_then ?_
    refine wc_seq ?_
    refine wc_seq ?_
    refine wc_region ?_
    refine wl_val (at_assign rfl) rfl ?_
    refine wl_nil ?_
    refine wk_prune [(0, .slice a0.a a0.n a0.c), (1, .slice a1.a a1.n a1.c), (5, .int .i64 0)] ⟨rfl, rfl, rfl, trivial⟩ (fun f1 => ?_)
    refine wk_then ?_
    refine wc_block ?_
    obtain ⟨k1, h⟩ := h
    refine wc_loop (fun k a w => ∃ (s3 : Int) (f1 : Nat → Value), a = ac 26 (en f1 [(0, .slice a0.a a0.n a0.c), (1, .slice a1.a a1.n a1.c), (5, .int .i64 s3)]) [] ∧ Sm w0 w ∧ Fix _ k s3 w.heap) k1 ⟨(0), _, ac_again ⟨rfl, rfl, rfl, trivial⟩, so, h⟩ ?_
    rintro k2 a5 w4 ⟨s3, f1, rfl, so, h⟩
    rcases k2 with _ | k2
    · exact h.elim
    replace h := Fix.un h; refine wc_in ?_
    refine wc_seq ?_
    refine wc_seq ?_
    refine wc_region ?_
    refine wl_val (at_move rfl) rfl ?_
    refine wl_val (at_move rfl) rfl ?_
    refine wl_val (at_lenL Try.underlying25 rfl) rfl ?_
    refine wl_val (at_lss rfl rfl) rfl ?_
    refine wl_nil ?_
    refine wk_prune [(0, .slice a0.a a0.n a0.c), (1, .slice a1.a a1.n a1.c), (5, .int .i64 s3), (14, .bool (decide (s3 < (a0.n : Int))))] ⟨rfl, rfl, rfl, rfl, trivial⟩ (fun f1 => ?_)
    refine wk_then ?_
    refine wc_cond rfl h (fun h => ?_) (fun h => ?_)
    · refine wc_skip ?_
      refine wk_prune [(0, .slice a0.a a0.n a0.c), (1, .slice a1.a a1.n a1.c), (5, .int .i64 s3)] ⟨rfl, rfl, rfl, trivial⟩ (fun f1 => ?_)
      refine wk_then ?_
      refine wc_seq ?_
      refine wc_block ?_
      refine wc_seq ?_
      refine wc_draw mixed (by kernel_rfl) so ?_
      refine wq_val (at_move rfl) rfl ?_
      refine wq_val (at_move rfl) rfl ?_
      obtain ⟨q7, q8, p9, q10, h⟩ := h
      refine wq_val (at_ixAddrL Try.underlying25 sz42 (sl_some q10) rfl q7 q8) rfl ?_
      obtain ⟨x11, x12, x13, q14, h⟩ := h
      refine wq_val (at_loadA (cs := (c42 x11 x12 x13)) Try.underlying42 rfl (by rw [len42]; exact sz42) rfl q14) rfl ?_
      refine wq_val (at_move rfl) rfl ?_
      refine wq_val (at_move rfl) rfl ?_
      obtain ⟨q15, q16, p17, q18, h⟩ := h
      refine wq_val (at_ixAddrL Try.underlying25 sz42 (sl_some q18) rfl q15 q16) rfl ?_
      obtain ⟨x19, x20, x21, q22, h⟩ := h
      refine wq_val (at_loadA (cs := (c42 x19 x20 x21)) Try.underlying42 rfl (by rw [len42]; exact sz42) rfl q22) rfl ?_
      refine wq_val (at_neqA (xs := (c42 x11 x12 x13)) (ys := (c42 x19 x20 x21)) rfl rfl (by kernel_rfl) (eqv_struct Try.underlying42 (by kernel_rfl) (eqf_cons rfl (pt_one (v := .int .u8 x11) Try.underlying5 rfl rfl) (pt_one (v := .int .u8 x19) Try.underlying5 rfl rfl) (eqv_int Try.underlying5) (eqf_cons rfl (pt_one (v := .int .i8 x12) Try.underlying39 rfl rfl) (pt_one (v := .int .i8 x20) Try.underlying39 rfl rfl) (eqv_int Try.underlying39) (eqf_last rfl (pt_one (v := .int .u16 x13) Try.underlying40 rfl rfl) (pt_one (v := .int .u16 x21) Try.underlying40 rfl rfl) (eqv_int Try.underlying40)))))) rfl ?_
      refine wq_nil ?_; intro w23 hw so; rw [← hw] at h; clear hw
      refine wk_prune [(0, .slice a0.a a0.n a0.c), (1, .slice a1.a a1.n a1.c), (5, .int .i64 s3), (25, .bool (!((x11 == x19) && ((x12 == x20) && (x13 == x21)))))] ⟨rfl, rfl, rfl, rfl, trivial⟩ (fun f1 => ?_)
      refine wk_then ?_
      refine wc_cond rfl h (fun h => ?_) (fun h => ?_)
      · refine wc_seq ?_
        refine wc_region ?_
        refine wl_val (at_assign rfl) rfl ?_
        refine wl_nil ?_
        refine wk_prune [(4, .bool false)] ⟨rfl, trivial⟩ (fun f1 => ?_)
        refine wk_then ?_
        refine wc_ret ?_
        refine wk_blkR ?_
        refine wk_thenR ?_
        refine wk_thenR ?_
        refine wk_blkR ?_
        refine wk_thenR ?_
        exact wk_ret1 (x := false) rfl (by decide) rfl so h
      · refine wc_skip ?_
        refine wk_blkN ?_
        refine wk_prune [(0, .slice a0.a a0.n a0.c), (1, .slice a1.a a1.n a1.c), (5, .int .i64 s3)] ⟨rfl, rfl, rfl, trivial⟩ (fun f1 => ?_)
        refine wk_then ?_
        refine wc_region ?_
        refine wl_val (at_move rfl) rfl ?_
        refine wl_val (at_add rfl rfl) rfl ?_
        refine wl_val (at_assign rfl) rfl ?_
        refine wl_nil ?_
        exact wk_again ⟨((IntKind.wrap .i64 (s3 + 1))), _, ac_again ⟨rfl, rfl, rfl, trivial⟩, so, h⟩
    · refine wc_exit ?_
      refine wk_thenE ?_
      refine wk_thenE ?_
      refine wk_blkE ?_
      refine wk_prune [] trivial (fun f1 => ?_)
      refine wk_then ?_
      refine wc_seq ?_
      refine wc_region ?_
      refine wl_val (at_assign rfl) rfl ?_
      refine wl_nil ?_
      refine wk_prune [(4, .bool true)] ⟨rfl, trivial⟩ (fun f1 => ?_)
      refine wk_then ?_
      refine wc_ret ?_
      exact wk_ret1 (x := true) rfl (by decide) rfl so h

/-- mosaic/mosaicref07.Begin -/
def mosaicref07_Begin.enc : (Option Addr) → Value := fun r => .pointer r
def mosaicref07_Begin.s (a0 : Int) (H0 : Hp) (Q : (Option Addr) → Hp → Prop) : Prop :=
  Gn [] H0 (fun (b1 : Nat) (H2 : Hp) => Bk H2 b1 47 (c47 (zInts 64) (IntKind.wrap .i64 a0) 0) → (Q (some (⟨b1, 0, none⟩ : Addr)) H2))
set_option maxRecDepth 20000 in
set_option maxHeartbeats 4000000 in
theorem mosaicref07_Begin.calls (a0 : Int) (w0 : World) (Q : (Option Addr) → Hp → Prop) (h : mosaicref07_Begin.s a0 w0.heap Q) :
    Ca Try.prog 15 #[.int .i16 a0] w0 (Rt mosaicref07_Begin.enc Q w0) := by
  refine ca_start (c := _) Try.func15 rfl Try.ntmps15 rfl ?_
  have so : Sm w0 w0 := Sm.refl w0
  unfold mosaicref07_Begin.s at h
  refine wc_prune [(0, .int .i16 a0)] ⟨rfl, trivial⟩ (fun f1 => ?_)
  refine wc_seq ?_
  refine wc_region ?_
  refine wl_val (at_assign rfl) rfl ?_
  refine wl_nil ?_
  refine wk_prune [(0, .int .i16 a0)] ⟨rfl, trivial⟩ (fun f1 => ?_)
  refine wk_then ?_
  refine wc_seq ?_
  refine wc_region ?_
  refine wl_val (at_move rfl) rfl ?_
  refine wl_val (at_conv Try.underlying22 Try.underlying3 rfl) rfl ?_
  refine wl_val (at_build (cs := (c47 (zInts 64) (IntKind.wrap .i64 a0) 0)) (ps := [(1, .int .i64 (IntKind.wrap .i64 a0))]) rfl (build_struct (szs := [64, 1, 1]) (vs := [.agg (c24 (zInts 64)).toArray, .int .i64 0, .int .i64 0]) (cs := (c47 (zInts 64) (IntKind.wrap .i64 a0) 0)) zero47 (by first | rfl | simp [z47, c47, c24, len24, Value.cells, ints_len, bools_len, List.flatMap]) Try.underlying47 (by kernel_rfl) (by simp [z47, c47, c24, len24, Value.cells, ints_len, bools_len]) (by simp [z47, c47, c24, len24, Value.cells, ints_len, bools_len]) (by first | rfl | simp [z47, c47, c24, len24, Value.cells, ints_len, bools_len, List.set, List.flatMap, mkI, mkB, ints, bools]))) rfl ?_
  refine wl_newT (T := 47) (cs := (c47 (zInts 64) (IntKind.wrap .i64 a0) 0)) (ef_box rfl rfl) rfl so ?_; intro b1 w2 hb_b1 t_b1 k_b1 so
  have g_b1 := Nat.le_of_eq hb_b1.symm
  have hc := k_b1.ch (F := [])
  refine wl_val (at_assign rfl) rfl ?_
  refine wl_nil ?_
  refine wk_prune [(2, .pointer (some (⟨b1, 0, none⟩ : Addr)))] ⟨rfl, trivial⟩ (fun f1 => ?_)
  refine wk_then ?_
  refine wc_ret ?_
  replace h := h b1 _ hc g_b1 t_b1.lt; clear hc
  replace h := h t_b1
  exact wk_ret1 (x := (some (⟨b1, 0, none⟩ : Addr))) rfl (by decide) rfl so h

/-- (*mosaic/mosaicref07.Builder).Done -/
def mosaicref07_Builder_Done.enc : Bool → Value := fun r => .bool r
def mosaicref07_Builder_Done.s (a0 : Option Addr) (H0 : Hp) (Q : Bool → Hp → Prop) : Prop :=
  someA a0 (fun p1 => ldI .i64 H0 (p1.add 65) (fun x3 => Q (x3 == 64) H0))
set_option maxRecDepth 20000 in
set_option maxHeartbeats 4000000 in
theorem mosaicref07_Builder_Done.calls (a0 : Option Addr) (w0 : World) (Q : Bool → Hp → Prop) (h : mosaicref07_Builder_Done.s a0 w0.heap Q) :
    Ca Try.prog 19 #[.pointer a0] w0 (Rt mosaicref07_Builder_Done.enc Q w0) := by
  refine ca_start (c := _) Try.func19 rfl Try.ntmps19 rfl ?_
  have so : Sm w0 w0 := Sm.refl w0
  unfold mosaicref07_Builder_Done.s at h
  refine wc_prune [(0, .pointer a0)] ⟨rfl, trivial⟩ (fun f1 => ?_)
  refine wc_seq ?_
  refine wc_region ?_
  refine wl_val (at_assign rfl) rfl ?_
  refine wl_nil ?_
  refine wk_prune [(0, .pointer a0)] ⟨rfl, trivial⟩ (fun f1 => ?_)
  refine wk_then ?_
  refine wc_seq ?_
  refine wc_region ?_
  refine wl_val (at_move rfl) rfl ?_
  obtain ⟨p1, q2, h⟩ := h
  refine wl_val (at_nilCheck (congrArg Value.pointer q2)) rfl ?_
  refine wl_val (at_fieldAddr Try.underlying47 rfl rfl sz3 (by decide) rfl) rfl ?_
  obtain ⟨x3, q4, h⟩ := h
  refine wl_val (at_load Try.underlying3 rfl rfl q4) rfl ?_
  refine wl_val (at_eql rfl rfl) rfl ?_
  refine wl_val (at_assign rfl) rfl ?_
  refine wl_nil ?_
  refine wk_prune [(2, .bool (x3 == 64))] ⟨rfl, trivial⟩ (fun f1 => ?_)
  refine wk_then ?_
  refine wc_ret ?_
  exact wk_ret1 (x := (x3 == 64)) rfl (by decide) rfl so h

/-- (*mosaic/mosaicref07.Builder).Wants -/
def mosaicref07_Builder_Wants.enc : Int × Int → Value := fun r => .tuple #[.int .i8 r.1, .int .i64 r.2]
def mosaicref07_Builder_Wants.s (a0 : Option Addr) (a1 : Int) (H0 : Hp) (Q : (Int × Int) → Hp → Prop) : Prop :=
  Lt ((IntKind.wrap .i64 (Int.tdiv (IntKind.wrap .i64 a1) 16)) : Int) (fun x1 => someA a0 (fun p3 => ldI .i64 H0 (p3.add 65) (fun x5 => if (x5 == 64) = true then (Q (0, 4) H0) else (ldI .i64 H0 (p3.add 65) (fun x7 => if (x7 == 0) = true then (if decide ((11 : Int) < a1) = true then (Q (0, 60) H0) else (Q ((IntKind.wrap .i8 a1), 0) H0)) else (if (a1 == 0) = true then (Q (0, 0) H0) else (if (a1 == 240) = true then (ldI .i64 H0 (p3.add 65) (fun x9 => if decide ((63 : Int) < (IntKind.wrap .i64 (x9 + 16))) = true then (Q (0, 70) H0) else (Q (0, 0) H0))) else (Join (fun (s12 : Bool) (H13 : Hp) => if s12 = true then (Q (0, 60) H13) else (ldI .i64 H13 (p3.add 65) (fun x14 => if decide ((63 : Int) < (IntKind.wrap .i64 (x14 + x1))) = true then (Q (0, 70) H13) else (Lt ((IntKind.wrap .i8 (Int.tmod (IntKind.wrap .i64 a1) 16)) : Int) (fun x16 => Q (x16, 0) H13))))) (fun (J11 : Bool → Hp → Prop) => if ((Int.tmod (IntKind.wrap .i64 a1) 16) == 0) = true then (J11 (true) H0) else (J11 ((decide ((10 : Int) < (Int.tmod (IntKind.wrap .i64 a1) 16)))) H0))))))))))
set_option maxRecDepth 20000 in
set_option maxHeartbeats 4000000 in
theorem mosaicref07_Builder_Wants.calls (a0 : Option Addr) (a1 : Int) (w0 : World) (Q : (Int × Int) → Hp → Prop) (h : mosaicref07_Builder_Wants.s a0 a1 w0.heap Q) :
    Ca Try.prog 37 #[.pointer a0, .int .u8 a1] w0 (Rt mosaicref07_Builder_Wants.enc Q w0) := by
  refine ca_start (c := _) Try.func37 rfl Try.ntmps37 rfl ?_
  have so : Sm w0 w0 := Sm.refl w0
  unfold mosaicref07_Builder_Wants.s at h
  refine wc_prune [(0, .pointer a0), (1, .int .u8 a1)] ⟨rfl, rfl, trivial⟩ (fun f1 => ?_)
  refine wc_seq ?_
  refine wc_region ?_
  refine wl_val (at_assign rfl) rfl ?_
  refine wl_val (at_assign rfl) rfl ?_
  refine wl_nil ?_
  refine wk_prune [(0, .pointer a0), (1, .int .u8 a1)] ⟨rfl, rfl, trivial⟩ (fun f1 => ?_)
  refine wk_then ?_
  refine wc_seq ?_
  refine wc_region ?_
  refine wl_val (at_move rfl) rfl ?_
  refine wl_val (at_conv Try.underlying5 Try.underlying3 rfl) rfl ?_
  refine wl_val (at_rem rfl rfl (by decide)) rfl ?_
  refine wl_val (at_assign rfl) rfl ?_
  refine wl_nil ?_
  refine wk_prune [(0, .pointer a0), (1, .int .u8 a1), (6, .int .i64 (Int.tmod (IntKind.wrap .i64 a1) 16))] ⟨rfl, rfl, rfl, trivial⟩ (fun f1 => ?_)
  refine wk_then ?_
  refine wc_seq ?_
  refine wc_region ?_
  refine wl_val (at_move rfl) rfl ?_
  refine wl_val (at_conv Try.underlying5 Try.underlying3 rfl) rfl ?_
  refine wl_val (at_quo rfl rfl (by decide)) rfl ?_
  refine wl_val (at_assign rfl) rfl ?_
  obtain ⟨x1, e2⟩ : ∃ x : Int, x = (IntKind.wrap .i64 (Int.tdiv (IntKind.wrap .i64 a1) 16)) := ⟨_, rfl⟩; replace h := h x1 e2
  refine wl_set (t := 7) (v := .int .i64 x1) (congrArg (Value.int .i64) e2.symm) ?_
  refine wl_nil ?_
  refine wk_prune [(0, .pointer a0), (1, .int .u8 a1), (6, .int .i64 (Int.tmod (IntKind.wrap .i64 a1) 16)), (7, .int .i64 x1)] ⟨rfl, rfl, rfl, rfl, trivial⟩ (fun f1 => ?_)
  refine wk_then ?_
  refine wc_seq ?_
  refine wc_seq ?_
  refine wc_region ?_
  refine wl_val (at_move rfl) rfl ?_
  obtain ⟨p3, q4, h⟩ := h
  refine wl_val (at_nilCheck (congrArg Value.pointer q4)) rfl ?_
  refine wl_val (at_fieldAddr Try.underlying47 rfl rfl sz3 (by decide) rfl) rfl ?_
  obtain ⟨x5, q6, h⟩ := h
  refine wl_val (at_load Try.underlying3 rfl rfl q6) rfl ?_
  refine wl_val (at_eql rfl rfl) rfl ?_
  refine wl_nil ?_
  refine wk_prune [(0, .pointer a0), (1, .int .u8 a1), (6, .int .i64 (Int.tmod (IntKind.wrap .i64 a1) 16)), (7, .int .i64 x1), (18, .bool (x5 == 64))] ⟨rfl, rfl, rfl, rfl, rfl, trivial⟩ (fun f1 => ?_)
  refine wk_then ?_
  refine wc_cond rfl h (fun h => ?_) (fun h => ?_)
  · refine wc_seq ?_
    refine wc_region ?_
    refine wl_val (at_assign rfl) rfl ?_
    refine wl_val (at_assign rfl) rfl ?_
    refine wl_nil ?_
    refine wk_prune [(4, .int .i8 0), (5, .int .i64 4)] ⟨rfl, rfl, trivial⟩ (fun f1 => ?_)
    refine wk_then ?_
    refine wc_ret ?_
    refine wk_thenR ?_
    exact wk_ret2 (x := (0, 4)) rfl (by decide) (by decide) rfl so h
  · refine wc_skip ?_
    refine wk_prune [(0, .pointer a0), (1, .int .u8 a1), (6, .int .i64 (Int.tmod (IntKind.wrap .i64 a1) 16)), (7, .int .i64 x1)] ⟨rfl, rfl, rfl, rfl, trivial⟩ (fun f1 => ?_)
    refine wk_then ?_
    refine wc_seq ?_
    refine wc_seq ?_
    refine wc_region ?_
    refine wl_val (at_move rfl) rfl ?_
    refine wl_val (at_nilCheck (congrArg Value.pointer q4)) rfl ?_
    refine wl_val (at_fieldAddr Try.underlying47 rfl rfl sz3 (by decide) rfl) rfl ?_
    obtain ⟨x7, q8, h⟩ := h
    refine wl_val (at_load Try.underlying3 rfl rfl q8) rfl ?_
    refine wl_val (at_eql rfl rfl) rfl ?_
    refine wl_nil ?_
    refine wk_prune [(0, .pointer a0), (1, .int .u8 a1), (6, .int .i64 (Int.tmod (IntKind.wrap .i64 a1) 16)), (7, .int .i64 x1), (23, .bool (x7 == 0))] ⟨rfl, rfl, rfl, rfl, rfl, trivial⟩ (fun f1 => ?_)
    refine wk_then ?_
    refine wc_cond rfl h (fun h => ?_) (fun h => ?_)
    · refine wc_seq ?_
      refine wc_seq ?_
      refine wc_region ?_
      refine wl_val (at_move rfl) rfl ?_
      refine wl_val (at_gtr rfl rfl) rfl ?_
      refine wl_nil ?_
      refine wk_prune [(1, .int .u8 a1), (25, .bool (decide ((11 : Int) < a1)))] ⟨rfl, rfl, trivial⟩ (fun f1 => ?_)
      refine wk_then ?_
      refine wc_cond rfl h (fun h => ?_) (fun h => ?_)
      · refine wc_seq ?_
        refine wc_region ?_
        refine wl_val (at_assign rfl) rfl ?_
        refine wl_val (at_assign rfl) rfl ?_
        refine wl_nil ?_
        refine wk_prune [(4, .int .i8 0), (5, .int .i64 60)] ⟨rfl, rfl, trivial⟩ (fun f1 => ?_)
        refine wk_then ?_
        refine wc_ret ?_
        refine wk_thenR ?_
        refine wk_thenR ?_
        exact wk_ret2 (x := (0, 60)) rfl (by decide) (by decide) rfl so h
      · refine wc_skip ?_
        refine wk_prune [(1, .int .u8 a1)] ⟨rfl, trivial⟩ (fun f1 => ?_)
        refine wk_then ?_
        refine wc_seq ?_
        refine wc_region ?_
        refine wl_val (at_move rfl) rfl ?_
        refine wl_val (at_conv Try.underlying5 Try.underlying39 rfl) rfl ?_
        refine wl_val (at_assign rfl) rfl ?_
        refine wl_val (at_assign rfl) rfl ?_
        refine wl_nil ?_
        refine wk_prune [(4, .int .i8 (IntKind.wrap .i8 a1)), (5, .int .i64 0)] ⟨rfl, rfl, trivial⟩ (fun f1 => ?_)
        refine wk_then ?_
        refine wc_ret ?_
        refine wk_thenR ?_
        exact wk_ret2 (x := ((IntKind.wrap .i8 a1), 0)) rfl (by decide) (by decide) rfl so h
    · refine wc_skip ?_
      refine wk_prune [(0, .pointer a0), (1, .int .u8 a1), (6, .int .i64 (Int.tmod (IntKind.wrap .i64 a1) 16)), (7, .int .i64 x1)] ⟨rfl, rfl, rfl, rfl, trivial⟩ (fun f1 => ?_)
      refine wk_then ?_
      refine wc_seq ?_
      refine wc_seq ?_
      refine wc_region ?_
      refine wl_val (at_move rfl) rfl ?_
      refine wl_val (at_eql rfl rfl) rfl ?_
      refine wl_nil ?_
      refine wk_prune [(0, .pointer a0), (1, .int .u8 a1), (6, .int .i64 (Int.tmod (IntKind.wrap .i64 a1) 16)), (7, .int .i64 x1), (29, .bool (a1 == 0))] ⟨rfl, rfl, rfl, rfl, rfl, trivial⟩ (fun f1 => ?_)
      refine wk_then ?_
      refine wc_cond rfl h (fun h => ?_) (fun h => ?_)
      · refine wc_seq ?_
        refine wc_region ?_
        refine wl_val (at_assign rfl) rfl ?_
        refine wl_val (at_assign rfl) rfl ?_
        refine wl_nil ?_
        refine wk_prune [(4, .int .i8 0), (5, .int .i64 0)] ⟨rfl, rfl, trivial⟩ (fun f1 => ?_)
        refine wk_then ?_
        refine wc_ret ?_
        refine wk_thenR ?_
        exact wk_ret2 (x := (0, 0)) rfl (by decide) (by decide) rfl so h
      · refine wc_skip ?_
        refine wk_prune [(0, .pointer a0), (1, .int .u8 a1), (6, .int .i64 (Int.tmod (IntKind.wrap .i64 a1) 16)), (7, .int .i64 x1)] ⟨rfl, rfl, rfl, rfl, trivial⟩ (fun f1 => ?_)
        refine wk_then ?_
        refine wc_seq ?_
        refine wc_seq ?_
        refine wc_region ?_
        refine wl_val (at_move rfl) rfl ?_
        refine wl_val (at_eql rfl rfl) rfl ?_
        refine wl_nil ?_
        refine wk_prune [(0, .pointer a0), (6, .int .i64 (Int.tmod (IntKind.wrap .i64 a1) 16)), (7, .int .i64 x1), (31, .bool (a1 == 240))] ⟨rfl, rfl, rfl, rfl, trivial⟩ (fun f1 => ?_)
        refine wk_then ?_
        refine wc_cond rfl h (fun h => ?_) (fun h => ?_)
        · refine wc_seq ?_
          refine wc_seq ?_
          refine wc_region ?_
          refine wl_val (at_move rfl) rfl ?_
          refine wl_val (at_nilCheck (congrArg Value.pointer q4)) rfl ?_
          refine wl_val (at_fieldAddr Try.underlying47 rfl rfl sz3 (by decide) rfl) rfl ?_
          obtain ⟨x9, q10, h⟩ := h
          refine wl_val (at_load Try.underlying3 rfl rfl q10) rfl ?_
          refine wl_val (at_add rfl rfl) rfl ?_
          refine wl_val (at_gtr rfl rfl) rfl ?_
          refine wl_nil ?_
          refine wk_prune [(37, .bool (decide ((63 : Int) < (IntKind.wrap .i64 (x9 + 16)))))] ⟨rfl, trivial⟩ (fun f1 => ?_)
          refine wk_then ?_
          refine wc_cond rfl h (fun h => ?_) (fun h => ?_)
          · refine wc_seq ?_
            refine wc_region ?_
            refine wl_val (at_assign rfl) rfl ?_
            refine wl_val (at_assign rfl) rfl ?_
            refine wl_nil ?_
            refine wk_prune [(4, .int .i8 0), (5, .int .i64 70)] ⟨rfl, rfl, trivial⟩ (fun f1 => ?_)
            refine wk_then ?_
            refine wc_ret ?_
            refine wk_thenR ?_
            refine wk_thenR ?_
            exact wk_ret2 (x := (0, 70)) rfl (by decide) (by decide) rfl so h
          · refine wc_skip ?_
            refine wk_prune [] trivial (fun f1 => ?_)
            refine wk_then ?_
            refine wc_seq ?_
            refine wc_region ?_
            refine wl_val (at_assign rfl) rfl ?_
            refine wl_val (at_assign rfl) rfl ?_
            refine wl_nil ?_
            refine wk_prune [(4, .int .i8 0), (5, .int .i64 0)] ⟨rfl, rfl, trivial⟩ (fun f1 => ?_)
            refine wk_then ?_
            refine wc_ret ?_
            refine wk_thenR ?_
            exact wk_ret2 (x := (0, 0)) rfl (by decide) (by decide) rfl so h
        · refine wc_skip ?_
          refine wk_prune [(0, .pointer a0), (6, .int .i64 (Int.tmod (IntKind.wrap .i64 a1) 16)), (7, .int .i64 x1)] ⟨rfl, rfl, rfl, trivial⟩ (fun f1 => ?_)
          refine wk_then ?_
          refine wc_seq ?_
          refine wc_seq ?_
          refine wc_join (w0 := w0) (fun (s12 : Bool) => [(0, .pointer a0), (6, .int .i64 (Int.tmod (IntKind.wrap .i64 a1) 16)), (7, .int .i64 x1), (43, .bool s12)]) h ?_ ?_
          · rintro s12 w13 f1 h so; refine wk_then ?_
            refine wc_cond rfl h (fun h => ?_) (fun h => ?_)
            · refine wc_seq ?_
              refine wc_region ?_
              refine wl_val (at_assign rfl) rfl ?_
              refine wl_val (at_assign rfl) rfl ?_
              refine wl_nil ?_
              refine wk_prune [(4, .int .i8 0), (5, .int .i64 60)] ⟨rfl, rfl, trivial⟩ (fun f1 => ?_)
              refine wk_then ?_
              refine wc_ret ?_
              refine wk_thenR ?_
              exact wk_ret2 (x := (0, 60)) rfl (by decide) (by decide) rfl so h
            · refine wc_skip ?_
              refine wk_prune [(0, .pointer a0), (6, .int .i64 (Int.tmod (IntKind.wrap .i64 a1) 16)), (7, .int .i64 x1)] ⟨rfl, rfl, rfl, trivial⟩ (fun f1 => ?_)
              refine wk_then ?_
              refine wc_seq ?_
              refine wc_seq ?_
              refine wc_region ?_
              refine wl_val (at_move rfl) rfl ?_
              refine wl_val (at_nilCheck (congrArg Value.pointer q4)) rfl ?_
              refine wl_val (at_fieldAddr Try.underlying47 rfl rfl sz3 (by decide) rfl) rfl ?_
              obtain ⟨x14, q15, h⟩ := h
              refine wl_val (at_load Try.underlying3 rfl rfl q15) rfl ?_
              refine wl_val (at_move rfl) rfl ?_
              refine wl_val (at_add rfl rfl) rfl ?_
              refine wl_val (at_gtr rfl rfl) rfl ?_
              refine wl_nil ?_
              refine wk_prune [(6, .int .i64 (Int.tmod (IntKind.wrap .i64 a1) 16)), (50, .bool (decide ((63 : Int) < (IntKind.wrap .i64 (x14 + x1)))))] ⟨rfl, rfl, trivial⟩ (fun f1 => ?_)
              refine wk_then ?_
              refine wc_cond rfl h (fun h => ?_) (fun h => ?_)
              · refine wc_seq ?_
                refine wc_region ?_
                refine wl_val (at_assign rfl) rfl ?_
                refine wl_val (at_assign rfl) rfl ?_
                refine wl_nil ?_
                refine wk_prune [(4, .int .i8 0), (5, .int .i64 70)] ⟨rfl, rfl, trivial⟩ (fun f1 => ?_)
                refine wk_then ?_
                refine wc_ret ?_
                refine wk_thenR ?_
                exact wk_ret2 (x := (0, 70)) rfl (by decide) (by decide) rfl so h
              · refine wc_skip ?_
                refine wk_prune [(6, .int .i64 (Int.tmod (IntKind.wrap .i64 a1) 16))] ⟨rfl, trivial⟩ (fun f1 => ?_)
                refine wk_then ?_
                refine wc_seq ?_
                refine wc_region ?_
                refine wl_val (at_move rfl) rfl ?_
                refine wl_val (at_conv Try.underlying3 Try.underlying39 rfl) rfl ?_
                refine wl_val (at_assign rfl) rfl ?_
                obtain ⟨x16, e17⟩ : ∃ x : Int, x = (IntKind.wrap .i8 (Int.tmod (IntKind.wrap .i64 a1) 16)) := ⟨_, rfl⟩; replace h := h x16 e17
                refine wl_set (t := 4) (v := .int .i8 x16) (congrArg (Value.int .i8) e17.symm) ?_
                refine wl_val (at_assign rfl) rfl ?_
                refine wl_nil ?_
                refine wk_prune [(4, .int .i8 x16), (5, .int .i64 0)] ⟨rfl, rfl, trivial⟩ (fun f1 => ?_)
                refine wk_then ?_
                refine wc_ret ?_
                exact wk_ret2 (x := (x16, 0)) rfl (by decide) (by decide) rfl so h
          · intro J11 h hJ11
            refine wc_region ?_
            refine wl_val (at_move rfl) rfl ?_
            refine wl_val (at_eql rfl rfl) rfl ?_
            refine wl_val (at_move rfl) rfl ?_
            refine bif_ h (fun hb h => ?_) (fun hb h => ?_)
            · refine wl_set (t := 40) (v := .bool true) (congrArg Value.bool hb) ?_; clear hb
              refine wl_off (t := 40) rfl (by decide) rfl ?_
              refine wl_off (t := 40) rfl (by decide) rfl ?_
              refine wl_val (at_pick_t rfl rfl) rfl ?_
              refine wl_nil ?_
              exact wk_prune [(0, .pointer a0), (6, .int .i64 (Int.tmod (IntKind.wrap .i64 a1) 16)), (7, .int .i64 x1), (43, .bool true)] ⟨rfl, rfl, rfl, rfl, trivial⟩ (fun f1 => hJ11 (true) _ f1 h so)
            · refine wl_set (t := 40) (v := .bool false) (congrArg Value.bool hb) ?_; clear hb
              refine wl_on (t := 40) rfl (by decide) rfl ?_
              refine wl_val (at_move rfl) rfl ?_
              refine wl_on (t := 40) rfl (by decide) rfl ?_
              refine wl_val (at_gtr rfl rfl) rfl ?_
              refine wl_val (at_pick_f rfl rfl) rfl ?_
              refine wl_nil ?_
              exact wk_prune [(0, .pointer a0), (6, .int .i64 (Int.tmod (IntKind.wrap .i64 a1) 16)), (7, .int .i64 x1), (43, .bool (decide ((10 : Int) < (Int.tmod (IntKind.wrap .i64 a1) 16))))] ⟨rfl, rfl, rfl, rfl, trivial⟩ (fun f1 => hJ11 ((decide ((10 : Int) < (Int.tmod (IntKind.wrap .i64 a1) 16)))) _ f1 h so)

/-- mosaic/mosaicref07.Value -/
def mosaicref07_Value.enc : Int → Value := fun r => .int .i64 r
def mosaicref07_Value.s (a0 : Int) (a1 : Int) (H0 : Hp) (Q : Int → Hp → Prop) : Prop :=
  Join (fun (s2 : Bool) (H3 : Hp) => if s2 = true then (Q a0 H3) else (mosaicref07_power.s a1 H3 (fun x4 H5 => Lt ((IntKind.wrap .i64 ((IntKind.wrap .i64 (a0 - x4)) + 1)) : Int) (fun x6 => Q x6 H5)))) (fun (J1 : Bool → Hp → Prop) => if (a1 == 0) = true then (J1 (true) H0) else (mosaicref07_power.s (IntKind.wrap .i64 (a1 - 1)) H0 (fun x8 H9 => J1 ((decide (x8 ≤ a0))) H9)))
set_option maxRecDepth 20000 in
set_option maxHeartbeats 4000000 in
theorem mosaicref07_Value.calls (a0 : Int) (a1 : Int) (w0 : World) (Q : Int → Hp → Prop) (h : mosaicref07_Value.s a0 a1 w0.heap Q) :
    Ca Try.prog 45 #[.int .i64 a0, .int .i64 a1] w0 (Rt mosaicref07_Value.enc Q w0) := by
  refine ca_start (c := _) Try.func45 rfl Try.ntmps45 rfl ?_
  have so : Sm w0 w0 := Sm.refl w0
  unfold mosaicref07_Value.s at h
  refine wc_prune [(0, .int .i64 a0), (1, .int .i64 a1)] ⟨rfl, rfl, trivial⟩ (fun f1 => ?_)
  refine wc_seq ?_
  refine wc_region ?_
  refine wl_val (at_assign rfl) rfl ?_
  refine wl_nil ?_
  refine wk_prune [(0, .int .i64 a0), (1, .int .i64 a1)] ⟨rfl, rfl, trivial⟩ (fun f1 => ?_)
  refine wk_then ?_
  refine wc_seq ?_
  refine wc_seq ?_
  refine wc_join (w0 := w0) (fun (s2 : Bool) => [(0, .int .i64 a0), (1, .int .i64 a1), (13, .bool s2)]) h ?_ ?_
  · rintro s2 w3 f1 h so; refine wk_then ?_
    refine wc_cond rfl h (fun h => ?_) (fun h => ?_)
    · refine wc_seq ?_
      refine wc_region ?_
      refine wl_val (at_move rfl) rfl ?_
      refine wl_val (at_assign rfl) rfl ?_
      refine wl_nil ?_
      refine wk_prune [(4, .int .i64 a0)] ⟨rfl, trivial⟩ (fun f1 => ?_)
      refine wk_then ?_
      refine wc_ret ?_
      refine wk_thenR ?_
      exact wk_ret1 (x := a0) rfl (by decide) rfl so h
    · refine wc_skip ?_
      refine wk_prune [(0, .int .i64 a0), (1, .int .i64 a1)] ⟨rfl, rfl, trivial⟩ (fun f1 => ?_)
      refine wk_then ?_
      refine wc_seq ?_
      refine wc_region ?_
      refine wl_val (at_move rfl) rfl ?_
      refine wl_val (at_move rfl) rfl ?_
      refine wl_callF (mosaicref07_power.calls _ _ _ h) enter44 rfl trivial so ?_; intro x4 w5 h so
      refine wl_val (at_sub rfl rfl) rfl ?_
      refine wl_val (at_add rfl rfl) rfl ?_
      refine wl_val (at_assign rfl) rfl ?_
      obtain ⟨x6, e7⟩ : ∃ x : Int, x = (IntKind.wrap .i64 ((IntKind.wrap .i64 (a0 - x4)) + 1)) := ⟨_, rfl⟩; replace h := h x6 e7
      refine wl_set (t := 4) (v := .int .i64 x6) (congrArg (Value.int .i64) e7.symm) ?_
      refine wl_nil ?_
      refine wk_prune [(4, .int .i64 x6)] ⟨rfl, trivial⟩ (fun f1 => ?_)
      refine wk_then ?_
      refine wc_ret ?_
      exact wk_ret1 (x := x6) rfl (by decide) rfl so h
  · intro J1 h hJ1
    refine wc_region ?_
    refine wl_val (at_move rfl) rfl ?_
    refine wl_val (at_eql rfl rfl) rfl ?_
    refine wl_val (at_move rfl) rfl ?_
    refine bif_ h (fun hb h => ?_) (fun hb h => ?_)
    · refine wl_set (t := 7) (v := .bool true) (congrArg Value.bool hb) ?_; clear hb
      refine wl_off (t := 7) rfl (by decide) rfl ?_
      refine wl_off (t := 7) rfl (by decide) rfl ?_
      refine wl_off (t := 7) rfl (by decide) rfl ?_
      refine wl_off (t := 7) rfl (by decide) rfl ?_
      refine wl_off (t := 7) rfl (by decide) rfl ?_
      refine wl_val (at_pick_t rfl rfl) rfl ?_
      refine wl_nil ?_
      exact wk_prune [(0, .int .i64 a0), (1, .int .i64 a1), (13, .bool true)] ⟨rfl, rfl, rfl, trivial⟩ (fun f1 => hJ1 (true) _ f1 h so)
    · refine wl_set (t := 7) (v := .bool false) (congrArg Value.bool hb) ?_; clear hb
      refine wl_on (t := 7) rfl (by decide) rfl ?_
      refine wl_val (at_move rfl) rfl ?_
      refine wl_on (t := 7) rfl (by decide) rfl ?_
      refine wl_val (at_move rfl) rfl ?_
      refine wl_on (t := 7) rfl (by decide) rfl ?_
      refine wl_val (at_sub rfl rfl) rfl ?_
      refine wl_on (t := 7) rfl (by decide) rfl ?_
      refine wl_callF (mosaicref07_power.calls _ _ _ h) enter44 rfl trivial so ?_; intro x8 w9 h so
      refine wl_on (t := 7) rfl (by decide) rfl ?_
      refine wl_val (at_geq rfl rfl) rfl ?_
      refine wl_val (at_pick_f rfl rfl) rfl ?_
      refine wl_nil ?_
      exact wk_prune [(0, .int .i64 a0), (1, .int .i64 a1), (13, .bool (decide (x8 ≤ a0)))] ⟨rfl, rfl, rfl, trivial⟩ (fun f1 => hJ1 ((decide (x8 ≤ a0))) _ f1 h so)

/-- (*mosaic/mosaicref07.Builder).Take -/
def mosaicref07_Builder_Take.enc : Int → Value := fun r => .int .i64 r
def mosaicref07_Builder_Take.s (a0 : Option Addr) (a1_0 : Int) (a1_1 : Int) (a1_2 : Int) (H0 : Hp) (Q : Int → Hp → Prop) : Prop :=
  Gn [] H0 (fun (b1 : Nat) (H2 : Hp) => mosaicref07_Builder_Wants.s a0 a1_0 H2 (fun x3 H4 => Pv [b1] H2 H4 ∧ (if (x3.2 != 0) = true then (Q x3.2 H4) else (Join (fun (s7 : Bool) (H8 : Hp) => if s7 = true then (Q 60 H8) else (mosaicref07_Value.s (IntKind.wrap .i64 a1_2) (IntKind.wrap .i64 x3.1) H8 (fun x9 H10 => Pv [b1] H8 H10 ∧ (someA a0 (fun p12 => ldI .i64 H10 (p12.add 65) (fun x14 => if (x14 == 0) = true then (Join (fun (s17 : Bool) (H18 : Hp) => if s17 = true then (Q 3 H18) else (ldI .i64 H18 (p12.add 64) (fun x20 => 0 ≤ (0 : Int) ∧ (0 : Int) < (64 : Int) ∧ (st H18 ((p12.add 0).add (Int.toNat 0 * 1)) (.int .i16 (IntKind.wrap .i16 (IntKind.wrap .i64 (x20 + x9)))) (fun H24 => st H24 (p12.add 65) (.int .i64 1) (fun H25 => Q 0 H25)))))) (fun (J16 : Bool → Hp → Prop) => ldI .i64 H10 (p12.add 64) (fun x26 => if decide ((IntKind.wrap .i64 (x26 + x9)) < (-1024)) = true then (J16 (true) H10) else (ldI .i64 H10 (p12.add 64) (fun x28 => J16 ((decide ((1023 : Int) < (IntKind.wrap .i64 (x28 + x9))))) H10))))) else (if (a1_0 == 0) = true then (st H10 (p12.add 65) (.int .i64 64) (fun H30 => Q 0 H30)) else (if (a1_0 == 240) = true then (ldI .i64 H10 (p12.add 65) (fun x31 => st H10 (p12.add 65) (.int .i64 (IntKind.wrap .i64 (x31 + 16))) (fun H33 => Q 0 H33))) else (ldI .i64 H10 (p12.add 65) (fun x34 => 0 ≤ (IntKind.wrap .i64 (x34 + (IntKind.wrap .i64 (Int.tdiv (IntKind.wrap .i64 a1_0) 16)))) ∧ (IntKind.wrap .i64 (x34 + (IntKind.wrap .i64 (Int.tdiv (IntKind.wrap .i64 a1_0) 16)))) < (64 : Int) ∧ (st H10 ((p12.add 0).add (Int.toNat (IntKind.wrap .i64 (x34 + (IntKind.wrap .i64 (Int.tdiv (IntKind.wrap .i64 a1_0) 16)))) * 1)) (.int .i16 (IntKind.wrap .i16 x9)) (fun H39 => st H39 (p12.add 65) (.int .i64 (IntKind.wrap .i64 ((IntKind.wrap .i64 (x34 + (IntKind.wrap .i64 (Int.tdiv (IntKind.wrap .i64 a1_0) 16)))) + 1))) (fun H40 => Q 0 H40))))))))))))) (fun (J6 : Bool → Hp → Prop) => if (a1_1 != x3.1) = true then (J6 (true) H4) else (mosaicref07_power.s (IntKind.wrap .i64 x3.1) H4 (fun x44 H45 => Pv [b1] H4 H45 ∧ (J6 ((decide (x44 ≤ (IntKind.wrap .i64 a1_2)))) H45))))))))
set_option maxRecDepth 20000 in
set_option maxHeartbeats 4000000 in
theorem mosaicref07_Builder_Take.calls (a0 : Option Addr) (a1_0 : Int) (a1_1 : Int) (a1_2 : Int) (w0 : World) (Q : Int → Hp → Prop) (h : mosaicref07_Builder_Take.s a0 a1_0 a1_1 a1_2 w0.heap Q) :
    Ca Try.prog 36 #[.pointer a0, .agg (c42 a1_0 a1_1 a1_2).toArray] w0 (Rt mosaicref07_Builder_Take.enc Q w0) := by
  refine ca_start (c := _) Try.func36 rfl Try.ntmps36 rfl ?_
  have so : Sm w0 w0 := Sm.refl w0
  unfold mosaicref07_Builder_Take.s at h
  refine wc_prune [(0, .pointer a0), (1, .agg (c42 a1_0 a1_1 a1_2).toArray)] ⟨rfl, rfl, trivial⟩ (fun f1 => ?_)
  refine wc_seq ?_
  refine wc_region ?_
  refine wl_newT (T := 42) (cs := (c42 a1_0 a1_1 a1_2)) (ef_box rfl rfl) rfl so ?_; intro b1 w2 hb_b1 t_b1 k_b1 so
  have g_b1 := Nat.le_of_eq hb_b1.symm
  have hc := k_b1.ch (F := [])
  refine wl_val (at_assign rfl) rfl ?_
  refine wl_nil ?_
  refine wk_prune [(0, .pointer a0), (3, .pointer (some (⟨b1, 0, none⟩ : Addr)))] ⟨rfl, rfl, trivial⟩ (fun f1 => ?_)
  refine wk_then ?_
  refine wc_seq ?_
  refine wc_region ?_
  refine wl_val (at_move rfl) rfl ?_
  refine wl_val (at_fieldAddr Try.underlying42 rfl rfl sz5 (by decide) rfl) rfl ?_
  refine wl_val (at_load (v := .int .u8 a1_0) Try.underlying5 rfl rfl ((t_b1.cell 0).trans (by first | rfl | simp [List.getElem?_append, ints_len, bools_len]))) rfl ?_
  replace h := h b1 _ hc g_b1 t_b1.lt; clear hc
  refine wl_callF (mosaicref07_Builder_Wants.calls _ _ _ _ h) enter37 rfl trivial so ?_; intro x3 w4 h so
  obtain ⟨q5, h⟩ := h
  replace t_b1 := pv_bk q5 t_b1 (by simp)
  refine wl_val (at_move rfl) rfl ?_
  refine wl_val (at_extract rfl rfl) rfl ?_
  refine wl_val (at_extract rfl rfl) rfl ?_
  refine wl_val (at_assign rfl) rfl ?_
  refine wl_val (at_assign rfl) rfl ?_
  refine wl_nil ?_
  refine wk_prune [(0, .pointer a0), (3, .pointer (some (⟨b1, 0, none⟩ : Addr))), (5, .int .i8 x3.1), (6, .int .i64 x3.2)] ⟨rfl, rfl, rfl, rfl, trivial⟩ (fun f1 => ?_)
  refine wk_then ?_
  refine wc_seq ?_
  refine wc_seq ?_
  refine wc_region ?_
  refine wl_val (at_move rfl) rfl ?_
  refine wl_val (at_neq rfl rfl) rfl ?_
  refine wl_nil ?_
  refine wk_prune [(0, .pointer a0), (3, .pointer (some (⟨b1, 0, none⟩ : Addr))), (5, .int .i8 x3.1), (6, .int .i64 x3.2), (17, .bool (x3.2 != 0))] ⟨rfl, rfl, rfl, rfl, rfl, trivial⟩ (fun f1 => ?_)
  refine wk_then ?_
  refine wc_cond rfl h (fun h => ?_) (fun h => ?_)
  · refine wc_seq ?_
    refine wc_region ?_
    refine wl_val (at_move rfl) rfl ?_
    refine wl_val (at_assign rfl) rfl ?_
    refine wl_nil ?_
    refine wk_prune [(4, .int .i64 x3.2)] ⟨rfl, trivial⟩ (fun f1 => ?_)
    refine wk_then ?_
    refine wc_ret ?_
    refine wk_thenR ?_
    exact wk_ret1 (x := x3.2) rfl (by decide) rfl so h
  · refine wc_skip ?_
    refine wk_prune [(0, .pointer a0), (3, .pointer (some (⟨b1, 0, none⟩ : Addr))), (5, .int .i8 x3.1)] ⟨rfl, rfl, rfl, trivial⟩ (fun f1 => ?_)
    refine wk_then ?_
    refine wc_seq ?_
    refine wc_seq ?_
    refine wc_joinG (w0 := w0) (fun (H : Hp) => Bk H b1 42 (c42 a1_0 a1_1 a1_2) ∧ True) (fun (s7 : Bool) => [(0, .pointer a0), (3, .pointer (some (⟨b1, 0, none⟩ : Addr))), (5, .int .i8 x3.1), (31, .bool s7)]) (fun (s7 : Bool) => []) h ?_ ?_
    · rintro s7 w8 f1 h ⟨t_b1, _⟩ so; refine wk_then ?_
      refine wc_cond rfl h (fun h => ?_) (fun h => ?_)
      · refine wc_seq ?_
        refine wc_region ?_
        refine wl_val (at_assign rfl) rfl ?_
        refine wl_nil ?_
        refine wk_prune [(4, .int .i64 60)] ⟨rfl, trivial⟩ (fun f1 => ?_)
        refine wk_then ?_
        refine wc_ret ?_
        refine wk_thenR ?_
        exact wk_ret1 (x := 60) rfl (by decide) rfl so h
      · refine wc_skip ?_
        refine wk_prune [(0, .pointer a0), (3, .pointer (some (⟨b1, 0, none⟩ : Addr))), (5, .int .i8 x3.1)] ⟨rfl, rfl, rfl, trivial⟩ (fun f1 => ?_)
        refine wk_then ?_
        refine wc_seq ?_
        refine wc_region ?_
        refine wl_val (at_fieldAddr Try.underlying42 rfl rfl sz40 (by decide) rfl) rfl ?_
        refine wl_val (at_load (v := .int .u16 a1_2) Try.underlying40 rfl rfl ((t_b1.cell 2).trans (by first | rfl | simp [List.getElem?_append, ints_len, bools_len]))) rfl ?_
        refine wl_val (at_conv Try.underlying40 Try.underlying3 rfl) rfl ?_
        refine wl_val (at_move rfl) rfl ?_
        refine wl_val (at_conv Try.underlying39 Try.underlying3 rfl) rfl ?_
        refine wl_callF (mosaicref07_Value.calls _ _ _ _ h) enter45 rfl trivial so ?_; intro x9 w10 h so
        obtain ⟨q11, h⟩ := h
        replace t_b1 := pv_bk q11 t_b1 (by simp)
        refine wl_val (at_assign rfl) rfl ?_
        refine wl_nil ?_
        refine wk_prune [(0, .pointer a0), (3, .pointer (some (⟨b1, 0, none⟩ : Addr))), (7, .int .i64 x9)] ⟨rfl, rfl, rfl, trivial⟩ (fun f1 => ?_)
        refine wk_then ?_
        refine wc_seq ?_
        refine wc_seq ?_
        refine wc_region ?_
        refine wl_val (at_move rfl) rfl ?_
        obtain ⟨p12, q13, h⟩ := h
        refine wl_val (at_nilCheck (congrArg Value.pointer q13)) rfl ?_
        refine wl_val (at_fieldAddr Try.underlying47 rfl rfl sz3 (by decide) rfl) rfl ?_
        obtain ⟨x14, q15, h⟩ := h
        refine wl_val (at_load Try.underlying3 rfl rfl q15) rfl ?_
        refine wl_val (at_eql rfl rfl) rfl ?_
        refine wl_nil ?_
        refine wk_prune [(0, .pointer a0), (3, .pointer (some (⟨b1, 0, none⟩ : Addr))), (7, .int .i64 x9), (42, .bool (x14 == 0))] ⟨rfl, rfl, rfl, rfl, trivial⟩ (fun f1 => ?_)
        refine wk_then ?_
        refine wc_cond rfl h (fun h => ?_) (fun h => ?_)
        · refine wc_seq ?_
          refine wc_seq ?_
          refine wc_join (w0 := w0) (fun (s17 : Bool) => [(0, .pointer a0), (7, .int .i64 x9), (58, .bool s17)]) h ?_ ?_
          · rintro s17 w18 f1 h so; refine wk_then ?_
            refine wc_cond rfl h (fun h => ?_) (fun h => ?_)
            · refine wc_seq ?_
              refine wc_region ?_
              refine wl_val (at_assign rfl) rfl ?_
              refine wl_nil ?_
              refine wk_prune [(4, .int .i64 3)] ⟨rfl, trivial⟩ (fun f1 => ?_)
              refine wk_then ?_
              refine wc_ret ?_
              refine wk_thenR ?_
              refine wk_thenR ?_
              exact wk_ret1 (x := 3) rfl (by decide) rfl so h
            · refine wc_skip ?_
              refine wk_prune [(0, .pointer a0), (7, .int .i64 x9)] ⟨rfl, rfl, trivial⟩ (fun f1 => ?_)
              refine wk_then ?_
              refine wc_seq ?_
              refine wc_wo [0, 0, 2, 6, 14, 0, 62, 126, 1, 257, 1023, 2047] mixed (by kernel_rfl) so ?_; intro w19 hw so; rw [← hw] at h; clear hw
              refine wo_pure (m' := 1) 0 rfl (by kernel_rfl) rfl rfl (fun H => at_move rfl) ?_
              refine wo_pure (m' := 3) 1 rfl (by kernel_rfl) rfl rfl (fun H => at_move rfl) ?_
              refine wo_pure (m' := 7) 2 rfl (by kernel_rfl) rfl rfl (fun H => at_nilCheck (congrArg Value.pointer q13)) ?_
              refine wo_pure (m' := 15) 3 rfl (by kernel_rfl) rfl rfl (fun H => at_fieldAddr Try.underlying47 rfl rfl sz3 (by decide) rfl) ?_
              refine wo_pure (m' := 47) 5 rfl (by kernel_rfl) rfl rfl (fun H => at_move rfl) ?_
              refine wo_pure (m' := 303) 8 rfl (by kernel_rfl) rfl rfl (fun H => at_nilCheck (congrArg Value.pointer q13)) ?_
              refine wo_pure (m' := 815) 9 rfl (by kernel_rfl) rfl rfl (fun H => at_fieldAddr Try.underlying47 rfl rfl sz24 (by decide) rfl) ?_
              obtain ⟨x20, q21, h⟩ := h
              refine wo_load (m' := 831) 4 (fun H => cellAt H (p12.add 64) = some (.int .i64 x20)) rfl (by kernel_rfl) rfl rfl (fun H q21 => at_load Try.underlying3 rfl rfl q21) q21 ?_
              refine wo_pure (m' := 895) 6 rfl (by kernel_rfl) rfl rfl (fun H => at_add rfl rfl) ?_
              refine wo_pure (m' := 1023) 7 rfl (by kernel_rfl) rfl rfl (fun H => at_conv Try.underlying3 Try.underlying22 rfl) ?_
              obtain ⟨q22, q23, h⟩ := h
              refine wo_pure (m' := 2047) 10 rfl (by kernel_rfl) rfl rfl (fun H => at_ixAddrA Try.underlying24 sz22 rfl rfl q22 q23) ?_
              refine wo_take (m' := 4095) 11 [true] rfl (by kernel_rfl) rfl (by kernel_rfl) ?_
              refine wl_st (v := .int .i16 (IntKind.wrap .i16 (IntKind.wrap .i64 (x20 + x9)))) h rfl so (fun q1 q2 => ef_store (sz := sz22) rfl rfl rfl q1 q2) ?_; intro w24 h so
              refine wl_nil ?_
              refine wk_tq trivial ?_
              refine wo_done (by kernel_rfl) ?_
              refine wk_prune [(0, .pointer a0)] ⟨rfl, trivial⟩ (fun f1 => ?_)
              refine wk_then ?_
              refine wc_seq ?_
              refine wc_region ?_
              refine wl_val (at_move rfl) rfl ?_
              refine wl_val (at_nilCheck (congrArg Value.pointer q13)) rfl ?_
              refine wl_val (at_fieldAddr Try.underlying47 rfl rfl sz3 (by decide) rfl) rfl ?_
              refine wl_st (v := .int .i64 1) h rfl so (fun q1 q2 => ef_store (sz := sz3) rfl rfl rfl q1 q2) ?_; intro w25 h so
              refine wl_nil ?_
              refine wk_prune [] trivial (fun f1 => ?_)
              refine wk_then ?_
              refine wc_seq ?_
              refine wc_region ?_
              refine wl_val (at_assign rfl) rfl ?_
              refine wl_nil ?_
              refine wk_prune [(4, .int .i64 0)] ⟨rfl, trivial⟩ (fun f1 => ?_)
              refine wk_then ?_
              refine wc_ret ?_
              refine wk_thenR ?_
              exact wk_ret1 (x := 0) rfl (by decide) rfl so h
          · intro J16 h hJ16
            refine wc_region ?_
            refine wl_val (at_move rfl) rfl ?_
            refine wl_val (at_nilCheck (congrArg Value.pointer q13)) rfl ?_
            refine wl_val (at_fieldAddr Try.underlying47 rfl rfl sz3 (by decide) rfl) rfl ?_
            obtain ⟨x26, q27, h⟩ := h
            refine wl_val (at_load Try.underlying3 rfl rfl q27) rfl ?_
            refine wl_val (at_move rfl) rfl ?_
            refine wl_val (at_add rfl rfl) rfl ?_
            refine wl_val (at_lss rfl rfl) rfl ?_
            refine wl_val (at_move rfl) rfl ?_
            refine bif_ h (fun hb h => ?_) (fun hb h => ?_)
            · refine wl_set (t := 50) (v := .bool true) (congrArg Value.bool hb) ?_; clear hb
              refine wl_off (t := 50) rfl (by decide) rfl ?_
              refine wl_off (t := 50) rfl (by decide) rfl ?_
              refine wl_off (t := 50) rfl (by decide) rfl ?_
              refine wl_off (t := 50) rfl (by decide) rfl ?_
              refine wl_off (t := 50) rfl (by decide) rfl ?_
              refine wl_off (t := 50) rfl (by decide) rfl ?_
              refine wl_off (t := 50) rfl (by decide) rfl ?_
              refine wl_val (at_pick_t rfl rfl) rfl ?_
              refine wl_nil ?_
              exact wk_prune [(0, .pointer a0), (7, .int .i64 x9), (58, .bool true)] ⟨rfl, rfl, rfl, trivial⟩ (fun f1 => hJ16 (true) _ f1 h so)
            · refine wl_set (t := 50) (v := .bool false) (congrArg Value.bool hb) ?_; clear hb
              refine wl_on (t := 50) rfl (by decide) rfl ?_
              refine wl_val (at_move rfl) rfl ?_
              refine wl_on (t := 50) rfl (by decide) rfl ?_
              refine wl_val (at_nilCheck (congrArg Value.pointer q13)) rfl ?_
              refine wl_on (t := 50) rfl (by decide) rfl ?_
              refine wl_val (at_fieldAddr Try.underlying47 rfl rfl sz3 (by decide) rfl) rfl ?_
              refine wl_on (t := 50) rfl (by decide) rfl ?_
              obtain ⟨x28, q29, h⟩ := h
              refine wl_val (at_load Try.underlying3 rfl rfl q29) rfl ?_
              refine wl_on (t := 50) rfl (by decide) rfl ?_
              refine wl_val (at_move rfl) rfl ?_
              refine wl_on (t := 50) rfl (by decide) rfl ?_
              refine wl_val (at_add rfl rfl) rfl ?_
              refine wl_on (t := 50) rfl (by decide) rfl ?_
              refine wl_val (at_gtr rfl rfl) rfl ?_
              refine wl_val (at_pick_f rfl rfl) rfl ?_
              refine wl_nil ?_
              exact wk_prune [(0, .pointer a0), (7, .int .i64 x9), (58, .bool (decide ((1023 : Int) < (IntKind.wrap .i64 (x28 + x9)))))] ⟨rfl, rfl, rfl, trivial⟩ (fun f1 => hJ16 ((decide ((1023 : Int) < (IntKind.wrap .i64 (x28 + x9))))) _ f1 h so)
        · refine wc_skip ?_
          refine wk_prune [(0, .pointer a0), (3, .pointer (some (⟨b1, 0, none⟩ : Addr))), (7, .int .i64 x9)] ⟨rfl, rfl, rfl, trivial⟩ (fun f1 => ?_)
          refine wk_then ?_
          refine wc_seq ?_
          refine wc_seq ?_
          refine wc_region ?_
          refine wl_val (at_fieldAddr Try.underlying42 rfl rfl sz5 (by decide) rfl) rfl ?_
          refine wl_val (at_load (v := .int .u8 a1_0) Try.underlying5 rfl rfl ((t_b1.cell 0).trans (by first | rfl | simp [List.getElem?_append, ints_len, bools_len]))) rfl ?_
          refine wl_val (at_eql rfl rfl) rfl ?_
          refine wl_nil ?_
          refine wk_prune [(0, .pointer a0), (3, .pointer (some (⟨b1, 0, none⟩ : Addr))), (7, .int .i64 x9), (75, .bool (a1_0 == 0))] ⟨rfl, rfl, rfl, rfl, trivial⟩ (fun f1 => ?_)
          refine wk_then ?_
          refine wc_cond rfl h (fun h => ?_) (fun h => ?_)
          · refine wc_seq ?_
            refine wc_region ?_
            refine wl_val (at_move rfl) rfl ?_
            refine wl_val (at_nilCheck (congrArg Value.pointer q13)) rfl ?_
            refine wl_val (at_fieldAddr Try.underlying47 rfl rfl sz3 (by decide) rfl) rfl ?_
            refine wl_st (v := .int .i64 64) h rfl so (fun q1 q2 => ef_store (sz := sz3) rfl rfl rfl q1 q2) ?_; intro w30 h so
            refine wl_nil ?_
            refine wk_prune [] trivial (fun f1 => ?_)
            refine wk_then ?_
            refine wc_seq ?_
            refine wc_region ?_
            refine wl_val (at_assign rfl) rfl ?_
            refine wl_nil ?_
            refine wk_prune [(4, .int .i64 0)] ⟨rfl, trivial⟩ (fun f1 => ?_)
            refine wk_then ?_
            refine wc_ret ?_
            refine wk_thenR ?_
            exact wk_ret1 (x := 0) rfl (by decide) rfl so h
          · refine wc_skip ?_
            refine wk_prune [(0, .pointer a0), (3, .pointer (some (⟨b1, 0, none⟩ : Addr))), (7, .int .i64 x9)] ⟨rfl, rfl, rfl, trivial⟩ (fun f1 => ?_)
            refine wk_then ?_
            refine wc_seq ?_
            refine wc_seq ?_
            refine wc_region ?_
            refine wl_val (at_fieldAddr Try.underlying42 rfl rfl sz5 (by decide) rfl) rfl ?_
            refine wl_val (at_load (v := .int .u8 a1_0) Try.underlying5 rfl rfl ((t_b1.cell 0).trans (by first | rfl | simp [List.getElem?_append, ints_len, bools_len]))) rfl ?_
            refine wl_val (at_eql rfl rfl) rfl ?_
            refine wl_nil ?_
            refine wk_prune [(0, .pointer a0), (3, .pointer (some (⟨b1, 0, none⟩ : Addr))), (7, .int .i64 x9), (81, .bool (a1_0 == 240))] ⟨rfl, rfl, rfl, rfl, trivial⟩ (fun f1 => ?_)
            refine wk_then ?_
            refine wc_cond rfl h (fun h => ?_) (fun h => ?_)
            · refine wc_seq ?_
              refine wc_region ?_
              refine wl_val (at_move rfl) rfl ?_
              refine wl_val (at_move rfl) rfl ?_
              refine wl_val (at_nilCheck (congrArg Value.pointer q13)) rfl ?_
              refine wl_val (at_fieldAddr Try.underlying47 rfl rfl sz3 (by decide) rfl) rfl ?_
              obtain ⟨x31, q32, h⟩ := h
              refine wl_val (at_load Try.underlying3 rfl rfl q32) rfl ?_
              refine wl_val (at_add rfl rfl) rfl ?_
              refine wl_val (at_nilCheck (congrArg Value.pointer q13)) rfl ?_
              refine wl_val (at_fieldAddr Try.underlying47 rfl rfl sz3 (by decide) rfl) rfl ?_
              refine wl_st (v := .int .i64 (IntKind.wrap .i64 (x31 + 16))) h rfl so (fun q1 q2 => ef_store (sz := sz3) rfl rfl rfl q1 q2) ?_; intro w33 h so
              refine wl_nil ?_
              refine wk_prune [] trivial (fun f1 => ?_)
              refine wk_then ?_
              refine wc_seq ?_
              refine wc_region ?_
              refine wl_val (at_assign rfl) rfl ?_
              refine wl_nil ?_
              refine wk_prune [(4, .int .i64 0)] ⟨rfl, trivial⟩ (fun f1 => ?_)
              refine wk_then ?_
              refine wc_ret ?_
              refine wk_thenR ?_
              exact wk_ret1 (x := 0) rfl (by decide) rfl so h
            · refine wc_skip ?_
              refine wk_prune [(0, .pointer a0), (3, .pointer (some (⟨b1, 0, none⟩ : Addr))), (7, .int .i64 x9)] ⟨rfl, rfl, rfl, trivial⟩ (fun f1 => ?_)
              refine wk_then ?_
              refine wc_seq ?_
              refine wc_draw mixed (by kernel_rfl) so ?_
              refine wq_val (at_move rfl) rfl ?_
              refine wq_val (at_nilCheck (congrArg Value.pointer q13)) rfl ?_
              refine wq_val (at_fieldAddr Try.underlying47 rfl rfl sz3 (by decide) rfl) rfl ?_
              obtain ⟨x34, q35, h⟩ := h
              refine wq_val (at_load Try.underlying3 rfl rfl q35) rfl ?_
              refine wq_val (at_fieldAddr Try.underlying42 rfl rfl sz5 (by decide) rfl) rfl ?_
              refine wq_val (at_load (v := .int .u8 a1_0) Try.underlying5 rfl rfl ((t_b1.cell 0).trans (by first | rfl | simp [List.getElem?_append, ints_len, bools_len]))) rfl ?_
              refine wq_val (at_conv Try.underlying5 Try.underlying3 rfl) rfl ?_
              refine wq_val (at_quo rfl rfl (by decide)) rfl ?_
              refine wq_val (at_add rfl rfl) rfl ?_
              refine wq_val (at_assign rfl) rfl ?_
              refine wq_nil ?_; intro w36 hw so; rw [← hw] at h t_b1; clear hw
              refine wk_prune [(0, .pointer a0), (7, .int .i64 x9), (8, .int .i64 (IntKind.wrap .i64 (x34 + (IntKind.wrap .i64 (Int.tdiv (IntKind.wrap .i64 a1_0) 16)))))] ⟨rfl, rfl, rfl, trivial⟩ (fun f1 => ?_)
              refine wk_then ?_
              refine wc_seq ?_
              refine wc_region ?_
              refine wl_val (at_move rfl) rfl ?_
              refine wl_val (at_move rfl) rfl ?_
              refine wl_val (at_move rfl) rfl ?_
              refine wl_val (at_conv Try.underlying3 Try.underlying22 rfl) rfl ?_
              refine wl_val (at_nilCheck (congrArg Value.pointer q13)) rfl ?_
              refine wl_val (at_fieldAddr Try.underlying47 rfl rfl sz24 (by decide) rfl) rfl ?_
              obtain ⟨q37, q38, h⟩ := h
              refine wl_val (at_ixAddrA Try.underlying24 sz22 rfl rfl q37 q38) rfl ?_
              refine wl_st (v := .int .i16 (IntKind.wrap .i16 x9)) h rfl so (fun q1 q2 => ef_store (sz := sz22) rfl rfl rfl q1 q2) ?_; intro w39 h so
              refine wl_nil ?_
              refine wk_prune [(0, .pointer a0), (8, .int .i64 (IntKind.wrap .i64 (x34 + (IntKind.wrap .i64 (Int.tdiv (IntKind.wrap .i64 a1_0) 16)))))] ⟨rfl, rfl, trivial⟩ (fun f1 => ?_)
              refine wk_then ?_
              refine wc_seq ?_
              refine wc_region ?_
              refine wl_val (at_move rfl) rfl ?_
              refine wl_val (at_move rfl) rfl ?_
              refine wl_val (at_add rfl rfl) rfl ?_
              refine wl_val (at_nilCheck (congrArg Value.pointer q13)) rfl ?_
              refine wl_val (at_fieldAddr Try.underlying47 rfl rfl sz3 (by decide) rfl) rfl ?_
              refine wl_st (v := .int .i64 (IntKind.wrap .i64 ((IntKind.wrap .i64 (x34 + (IntKind.wrap .i64 (Int.tdiv (IntKind.wrap .i64 a1_0) 16)))) + 1))) h rfl so (fun q1 q2 => ef_store (sz := sz3) rfl rfl rfl q1 q2) ?_; intro w40 h so
              refine wl_nil ?_
              refine wk_prune [] trivial (fun f1 => ?_)
              refine wk_then ?_
              refine wc_seq ?_
              refine wc_region ?_
              refine wl_val (at_assign rfl) rfl ?_
              refine wl_nil ?_
              refine wk_prune [(4, .int .i64 0)] ⟨rfl, trivial⟩ (fun f1 => ?_)
              refine wk_then ?_
              refine wc_ret ?_
              exact wk_ret1 (x := 0) rfl (by decide) rfl so h
    · intro J6 h hJ6
      refine wc_wo [0, 1, 0, 7, 15, 31, 63, 127, 31, 287, 799, 2047, 4095] mixed (by kernel_rfl) so ?_; intro w41 hw so; rw [← hw] at h t_b1; clear hw
      refine wo_pure (m' := 1) 0 rfl (by kernel_rfl) rfl rfl (fun H => at_fieldAddr Try.underlying42 rfl rfl sz39 (by decide) rfl) ?_
      refine wo_pure (m' := 5) 2 rfl (by kernel_rfl) rfl rfl (fun H => at_move rfl) ?_
      have q42 : cellAt w41.heap (⟨b1, 1, none⟩ : Addr) = some (.int .i8 a1_1) := (t_b1.cell 1).trans (by first | rfl | simp [List.getElem?_append, ints_len, bools_len])
      refine wo_load (m' := 7) 1 (fun H => cellAt H (⟨b1, 1, none⟩ : Addr) = some (.int .i8 a1_1)) rfl (by kernel_rfl) rfl rfl (fun H q42 => at_load (v := .int .i8 a1_1) Try.underlying39 rfl rfl (q42)) q42 ?_
      refine wo_pure (m' := 15) 3 rfl (by kernel_rfl) rfl rfl (fun H => at_neq rfl rfl) ?_
      refine wo_pure (m' := 31) 4 rfl (by kernel_rfl) rfl rfl (fun H => at_move rfl) ?_
      refine bif_ h (fun hb h => ?_) (fun hb h => ?_)
      · refine wo_set (t := 23) (v := .bool true) (congrArg Value.bool hb) ?_; clear hb
        refine wo_off (m' := 63) 5 rfl (by kernel_rfl) rfl (t := 23) rfl (by decide) rfl ?_
        refine wo_off (m' := 127) 6 rfl (by kernel_rfl) rfl (t := 23) rfl (by decide) rfl ?_
        refine wo_off (m' := 255) 7 rfl (by kernel_rfl) rfl (t := 23) rfl (by decide) rfl ?_
        refine wo_off (m' := 511) 8 rfl (by kernel_rfl) rfl (t := 23) rfl (by decide) rfl ?_
        refine wo_off (m' := 1023) 9 rfl (by kernel_rfl) rfl (t := 23) rfl (by decide) rfl ?_
        refine wo_off (m' := 2047) 10 rfl (by kernel_rfl) rfl (t := 23) rfl (by decide) rfl ?_
        refine wo_off (m' := 4095) 11 rfl (by kernel_rfl) rfl (t := 23) rfl (by decide) rfl ?_
        refine wo_pure (m' := 8191) 12 rfl (by kernel_rfl) rfl rfl (fun H => at_pick_t rfl rfl) ?_
        refine wo_done (by kernel_rfl) ?_
        exact wk_prune [(0, .pointer a0), (3, .pointer (some (⟨b1, 0, none⟩ : Addr))), (5, .int .i8 x3.1), (31, .bool true)] ⟨rfl, rfl, rfl, rfl, trivial⟩ (fun f1 => hJ6 (true) _ f1 h ⟨t_b1, trivial⟩ so)
      · refine wo_set (t := 23) (v := .bool false) (congrArg Value.bool hb) ?_; clear hb
        refine wo_pureG (m' := 63) 5 rfl (by kernel_rfl) rfl (t := 23) rfl (by decide) rfl (fun H => at_fieldAddr Try.underlying42 rfl rfl sz40 (by decide) rfl) ?_
        refine wo_pureG (m' := 319) 8 rfl (by kernel_rfl) rfl (t := 23) rfl (by decide) rfl (fun H => at_move rfl) ?_
        refine wo_pureG (m' := 831) 9 rfl (by kernel_rfl) rfl (t := 23) rfl (by decide) rfl (fun H => at_conv Try.underlying39 Try.underlying3 rfl) ?_
        have q43 : cellAt w41.heap (⟨b1, 2, none⟩ : Addr) = some (.int .u16 a1_2) := (t_b1.cell 2).trans (by first | rfl | simp [List.getElem?_append, ints_len, bools_len])
        refine wo_loadG (m' := 895) 6 (fun H => cellAt H (⟨b1, 2, none⟩ : Addr) = some (.int .u16 a1_2)) rfl (by kernel_rfl) rfl (t := 23) rfl (by decide) rfl (fun H q43 => at_load (v := .int .u16 a1_2) Try.underlying40 rfl rfl (q43)) q43 ?_
        refine wo_pureG (m' := 1023) 7 rfl (by kernel_rfl) rfl (t := 23) rfl (by decide) rfl (fun H => at_conv Try.underlying40 Try.underlying3 rfl) ?_
        refine wo_take (m' := 2047) 10 [false, true] rfl (by kernel_rfl) rfl (by kernel_rfl) ?_
        refine wl_on (t := 23) rfl (by decide) rfl ?_
        refine wl_callF (mosaicref07_power.calls _ _ _ h) enter44 rfl trivial so ?_; intro x44 w45 h so
        obtain ⟨q46, h⟩ := h
        replace t_b1 := pv_bk q46 t_b1 (by simp)
        refine wl_nil ?_
        refine wk_tq ⟨((t_b1.cell 2).trans (by first | rfl | simp [List.getElem?_append, ints_len, bools_len])), trivial⟩ ?_
        refine wo_pureG (m' := 4095) 11 rfl (by kernel_rfl) rfl (t := 23) rfl (by decide) rfl (fun H => at_geq rfl rfl) ?_
        refine wo_pure (m' := 8191) 12 rfl (by kernel_rfl) rfl rfl (fun H => at_pick_f rfl rfl) ?_
        refine wo_done (by kernel_rfl) ?_
        exact wk_prune [(0, .pointer a0), (3, .pointer (some (⟨b1, 0, none⟩ : Addr))), (5, .int .i8 x3.1), (31, .bool (decide (x44 ≤ (IntKind.wrap .i64 a1_2))))] ⟨rfl, rfl, rfl, rfl, trivial⟩ (fun f1 => hJ6 ((decide (x44 ≤ (IntKind.wrap .i64 a1_2)))) _ f1 h ⟨t_b1, trivial⟩ so)

/-- mosaic/mosaicref07.Block -/
def mosaicref07_Block.enc : (Ints 64) × Int → Value := fun r => .tuple #[.agg (c24 r.1).toArray, .int .i64 r.2]
def mosaicref07_Block.s (a0 : Sl) (a1 : Int) (H0 : Hp) (Q : ((Ints 64) × Int) → Hp → Prop) : Prop :=
  Gn [] H0 (fun (b1 : Nat) (H2 : Hp) => mosaicref07_Begin.s a1 H2 (fun x3 H4 => Pv [b1] H2 H4 ∧ (Bk H4 b1 24 (c24 (zInts 64)) → (∃ k6, Fix (fun (rec11 : Int → Hp → Prop) (s8 : Int) (H9 : Hp) => if decide (s8 < (a0.n : Int)) = true then (0 ≤ s8 ∧ s8 < (a0.n : Int) ∧ someA a0.a (fun p14 => ∃ x16 : Int, ∃ x17 : Int, ∃ x18 : Int, ldA H9 (p14.add (Int.toNat s8 * 3)) (c42 x16 x17 x18) ∧ (mosaicref07_Builder_Take.s x3 x16 x17 x18 H9 (fun x20 H21 => if (x20 != 0) = true then (stA H21 (⟨b1, 0, none⟩ : Addr) (c24 (zInts 64)) (fun H22 => ∃ x24 : Ints 64, ldA H22 (⟨b1, 0, none⟩ : Addr) (c24 x24) ∧ (Q (x24, x20) H22))) else (rec11 ((IntKind.wrap .i64 (s8 + 1))) H21))))) else (someA x3 (fun p25 => ldI .i64 H9 (p25.add 65) (fun x27 => if (x27 != 64) = true then (stA H9 (⟨b1, 0, none⟩ : Addr) (c24 (zInts 64)) (fun H29 => ∃ x31 : Ints 64, ldA H29 (⟨b1, 0, none⟩ : Addr) (c24 x31) ∧ (Q (x31, 44) H29))) else (∃ x32 : Ints 64, ldA H9 (p25.add 0) (c24 x32) ∧ (stA H9 (⟨b1, 0, none⟩ : Addr) (c24 x32) (fun H34 => ∃ x36 : Ints 64, ldA H34 (⟨b1, 0, none⟩ : Addr) (c24 x36) ∧ (Q (x36, 0) H34)))))))) k6 (0) H4))))
set_option maxRecDepth 20000 in
set_option maxHeartbeats 4000000 in
theorem mosaicref07_Block.calls (a0 : Sl) (a1 : Int) (w0 : World) (Q : ((Ints 64) × Int) → Hp → Prop) (h : mosaicref07_Block.s a0 a1 w0.heap Q) :
    Ca Try.prog 20 #[.slice a0.a a0.n a0.c, .int .i16 a1] w0 (Rt mosaicref07_Block.enc Q w0) := by
  refine ca_start (c := _) Try.func20 rfl Try.ntmps20 rfl ?_
  have so : Sm w0 w0 := Sm.refl w0
  unfold mosaicref07_Block.s at h
  refine wc_prune [(0, .slice a0.a a0.n a0.c), (1, .int .i16 a1)] ⟨rfl, rfl, trivial⟩ (fun f1 => ?_)
  refine wc_seq ?_
  refine wc_region ?_
  refine wl_newT (T := 24) (cs := (c24 (zInts 64))) (ef_alloc zero24 rfl) rfl so ?_; intro b1 w2 hb_b1 t_b1 k_b1 so
  have g_b1 := Nat.le_of_eq hb_b1.symm
  have hc := k_b1.ch (F := [])
  refine wl_val (at_assign rfl) rfl ?_
  refine wl_nil ?_
  refine wk_prune [(0, .slice a0.a a0.n a0.c), (1, .int .i16 a1), (4, .pointer (some (⟨b1, 0, none⟩ : Addr)))] ⟨rfl, rfl, rfl, trivial⟩ (fun f1 => ?_)
  refine wk_then ?_
  refine wc_seq ?_
  refine wc_region ?_
  refine wl_val (at_move rfl) rfl ?_
  replace h := h b1 _ hc g_b1 t_b1.lt; clear hc
  refine wl_callF (mosaicref07_Begin.calls _ _ _ h) enter15 rfl trivial so ?_; intro x3 w4 h so
  obtain ⟨q5, h⟩ := h
  replace t_b1 := pv_bk q5 t_b1 (by simp)
  refine wl_val (at_assign rfl) rfl ?_
  refine wl_nil ?_
  refine wk_prune [(0, .slice a0.a a0.n a0.c), (4, .pointer (some (⟨b1, 0, none⟩ : Addr))), (6, .pointer x3)] ⟨rfl, rfl, rfl, trivial⟩ (fun f1 => ?_)
  refine wk_then ?_
  refine wc_seq ?_
  refine wc_seq ?_
  refine wc_region ?_
  refine wl_val (at_assign rfl) rfl ?_
  refine wl_nil ?_
  refine wk_prune [(0, .slice a0.a a0.n a0.c), (4, .pointer (some (⟨b1, 0, none⟩ : Addr))), (6, .pointer x3), (7, .int .i64 0)] ⟨rfl, rfl, rfl, rfl, trivial⟩ (fun f1 => ?_)
  refine wk_then ?_
  refine wc_block ?_
  replace h := h t_b1
  obtain ⟨k6, h⟩ := h
  refine wc_loop (fun k a w => ∃ (s8 : Int) (f1 : Nat → Value), a = ac 37 (en f1 [(0, .slice a0.a a0.n a0.c), (4, .pointer (some (⟨b1, 0, none⟩ : Addr))), (6, .pointer x3), (7, .int .i64 s8)]) [] ∧ Sm w0 w ∧ Fix _ k s8 w.heap) k6 ⟨(0), _, ac_again ⟨rfl, rfl, rfl, rfl, trivial⟩, so, h⟩ ?_
  rintro k7 a10 w9 ⟨s8, f1, rfl, so, h⟩
  rcases k7 with _ | k7
  · exact h.elim
  replace h := Fix.un h; refine wc_in ?_
  refine wc_seq ?_
  refine wc_seq ?_
  refine wc_region ?_
  refine wl_val (at_move rfl) rfl ?_
  refine wl_val (at_move rfl) rfl ?_
  refine wl_val (at_lenL Try.underlying25 rfl) rfl ?_
  refine wl_val (at_lss rfl rfl) rfl ?_
  refine wl_nil ?_
  refine wk_prune [(0, .slice a0.a a0.n a0.c), (4, .pointer (some (⟨b1, 0, none⟩ : Addr))), (6, .pointer x3), (7, .int .i64 s8), (14, .bool (decide (s8 < (a0.n : Int))))] ⟨rfl, rfl, rfl, rfl, rfl, trivial⟩ (fun f1 => ?_)
  refine wk_then ?_
  refine wc_cond rfl h (fun h => ?_) (fun h => ?_)
  · refine wc_skip ?_
    refine wk_prune [(0, .slice a0.a a0.n a0.c), (4, .pointer (some (⟨b1, 0, none⟩ : Addr))), (6, .pointer x3), (7, .int .i64 s8)] ⟨rfl, rfl, rfl, rfl, trivial⟩ (fun f1 => ?_)
    refine wk_then ?_
    refine wc_seq ?_
    refine wc_block ?_
    refine wc_seq ?_
    refine wc_region ?_
    refine wl_val (at_move rfl) rfl ?_
    refine wl_val (at_move rfl) rfl ?_
    refine wl_val (at_move rfl) rfl ?_
    obtain ⟨q12, q13, p14, q15, h⟩ := h
    refine wl_val (at_ixAddrL Try.underlying25 sz42 (sl_some q15) rfl q12 q13) rfl ?_
    obtain ⟨x16, x17, x18, q19, h⟩ := h
    refine wl_val (at_loadA (cs := (c42 x16 x17 x18)) Try.underlying42 rfl (by rw [len42]; exact sz42) rfl q19) rfl ?_
    refine wl_callF (mosaicref07_Builder_Take.calls _ _ _ _ _ _ h) enter36 rfl trivial so ?_; intro x20 w21 h so
    refine wl_val (at_assign rfl) rfl ?_
    refine wl_nil ?_
    refine wk_prune [(0, .slice a0.a a0.n a0.c), (4, .pointer (some (⟨b1, 0, none⟩ : Addr))), (6, .pointer x3), (7, .int .i64 s8), (8, .int .i64 x20)] ⟨rfl, rfl, rfl, rfl, rfl, trivial⟩ (fun f1 => ?_)
    refine wk_then ?_
    refine wc_seq ?_
    refine wc_region ?_
    refine wl_val (at_move rfl) rfl ?_
    refine wl_val (at_neq rfl rfl) rfl ?_
    refine wl_nil ?_
    refine wk_prune [(0, .slice a0.a a0.n a0.c), (4, .pointer (some (⟨b1, 0, none⟩ : Addr))), (6, .pointer x3), (7, .int .i64 s8), (8, .int .i64 x20), (24, .bool (x20 != 0))] ⟨rfl, rfl, rfl, rfl, rfl, rfl, trivial⟩ (fun f1 => ?_)
    refine wk_then ?_
    refine wc_cond rfl h (fun h => ?_) (fun h => ?_)
    · refine wc_seq ?_
      refine wc_region ?_
      refine wl_val (at_build (cs := (c24 (zInts 64))) (ps := []) rfl (build_array (vs := [.int .i16 0, .int .i16 0, .int .i16 0, .int .i16 0, .int .i16 0, .int .i16 0, .int .i16 0, .int .i16 0, .int .i16 0, .int .i16 0, .int .i16 0, .int .i16 0, .int .i16 0, .int .i16 0, .int .i16 0, .int .i16 0, .int .i16 0, .int .i16 0, .int .i16 0, .int .i16 0, .int .i16 0, .int .i16 0, .int .i16 0, .int .i16 0, .int .i16 0, .int .i16 0, .int .i16 0, .int .i16 0, .int .i16 0, .int .i16 0, .int .i16 0, .int .i16 0, .int .i16 0, .int .i16 0, .int .i16 0, .int .i16 0, .int .i16 0, .int .i16 0, .int .i16 0, .int .i16 0, .int .i16 0, .int .i16 0, .int .i16 0, .int .i16 0, .int .i16 0, .int .i16 0, .int .i16 0, .int .i16 0, .int .i16 0, .int .i16 0, .int .i16 0, .int .i16 0, .int .i16 0, .int .i16 0, .int .i16 0, .int .i16 0, .int .i16 0, .int .i16 0, .int .i16 0, .int .i16 0, .int .i16 0, .int .i16 0, .int .i16 0, .int .i16 0]) (cs := (c24 (zInts 64))) zero24 (by first | rfl | simp [z24, c24, Value.cells, ints_len, bools_len, List.flatMap]) Try.underlying24 sz22 (by first | rfl | simp [z24, c24, Value.cells, ints_len, bools_len]) (by simp [z24, c24, Value.cells, ints_len, bools_len]) (by first | rfl | simp [z24, c24, Value.cells, ints_len, bools_len, List.set, List.flatMap, mkI, mkB, ints, bools]))) rfl ?_
      refine wl_val (at_move rfl) rfl ?_
      refine wl_stA h rfl so (fun q => ef_storeA (by rw [len24]; exact sz24) rfl rfl (one24 _) q) ?_; intro w22 h so
      refine wl_val (at_assign rfl) rfl ?_
      refine wl_nil ?_
      refine wk_prune [(4, .pointer (some (⟨b1, 0, none⟩ : Addr))), (5, .int .i64 x20)] ⟨rfl, rfl, trivial⟩ (fun f1 => ?_)
      refine wk_then ?_
      refine wc_ret ?_
      refine wk_blkR ?_
      refine wk_thenR ?_
      refine wk_thenR ?_
      refine wk_blkR ?_
      refine wk_thenR ?_
      obtain ⟨x24, q23, h⟩ := h
      exact wk_retR2 (x := (x24, x20)) rfl ⟨by decide, _, rfl, loadVar_agg (cs := (c24 x24)) Try.underlying24 rfl (by rw [len24]; exact sz24) q23⟩ ⟨by decide, rfl⟩ rfl so h
    · refine wc_skip ?_
      refine wk_blkN ?_
      refine wk_prune [(0, .slice a0.a a0.n a0.c), (4, .pointer (some (⟨b1, 0, none⟩ : Addr))), (6, .pointer x3), (7, .int .i64 s8)] ⟨rfl, rfl, rfl, rfl, trivial⟩ (fun f1 => ?_)
      refine wk_then ?_
      refine wc_region ?_
      refine wl_val (at_move rfl) rfl ?_
      refine wl_val (at_add rfl rfl) rfl ?_
      refine wl_val (at_assign rfl) rfl ?_
      refine wl_nil ?_
      exact wk_again ⟨((IntKind.wrap .i64 (s8 + 1))), _, ac_again ⟨rfl, rfl, rfl, rfl, trivial⟩, so, h⟩
  · refine wc_exit ?_
    refine wk_thenE ?_
    refine wk_thenE ?_
    refine wk_blkE ?_
    refine wk_prune [(4, .pointer (some (⟨b1, 0, none⟩ : Addr))), (6, .pointer x3)] ⟨rfl, rfl, trivial⟩ (fun f1 => ?_)
    refine wk_then ?_
    refine wc_seq ?_
    refine wc_seq ?_
    refine wc_region ?_
    refine wl_val (at_move rfl) rfl ?_
    obtain ⟨p25, q26, h⟩ := h
    refine wl_val (at_nilCheck (congrArg Value.pointer q26)) rfl ?_
    refine wl_val (at_fieldAddr Try.underlying47 rfl rfl sz3 (by decide) rfl) rfl ?_
    obtain ⟨x27, q28, h⟩ := h
    refine wl_val (at_load Try.underlying3 rfl rfl q28) rfl ?_
    refine wl_val (at_neq rfl rfl) rfl ?_
    refine wl_nil ?_
    refine wk_prune [(4, .pointer (some (⟨b1, 0, none⟩ : Addr))), (6, .pointer x3), (31, .bool (x27 != 64))] ⟨rfl, rfl, rfl, trivial⟩ (fun f1 => ?_)
    refine wk_then ?_
    refine wc_cond rfl h (fun h => ?_) (fun h => ?_)
    · refine wc_seq ?_
      refine wc_region ?_
      refine wl_val (at_build (cs := (c24 (zInts 64))) (ps := []) rfl (build_array (vs := [.int .i16 0, .int .i16 0, .int .i16 0, .int .i16 0, .int .i16 0, .int .i16 0, .int .i16 0, .int .i16 0, .int .i16 0, .int .i16 0, .int .i16 0, .int .i16 0, .int .i16 0, .int .i16 0, .int .i16 0, .int .i16 0, .int .i16 0, .int .i16 0, .int .i16 0, .int .i16 0, .int .i16 0, .int .i16 0, .int .i16 0, .int .i16 0, .int .i16 0, .int .i16 0, .int .i16 0, .int .i16 0, .int .i16 0, .int .i16 0, .int .i16 0, .int .i16 0, .int .i16 0, .int .i16 0, .int .i16 0, .int .i16 0, .int .i16 0, .int .i16 0, .int .i16 0, .int .i16 0, .int .i16 0, .int .i16 0, .int .i16 0, .int .i16 0, .int .i16 0, .int .i16 0, .int .i16 0, .int .i16 0, .int .i16 0, .int .i16 0, .int .i16 0, .int .i16 0, .int .i16 0, .int .i16 0, .int .i16 0, .int .i16 0, .int .i16 0, .int .i16 0, .int .i16 0, .int .i16 0, .int .i16 0, .int .i16 0, .int .i16 0, .int .i16 0]) (cs := (c24 (zInts 64))) zero24 (by first | rfl | simp [z24, c24, Value.cells, ints_len, bools_len, List.flatMap]) Try.underlying24 sz22 (by first | rfl | simp [z24, c24, Value.cells, ints_len, bools_len]) (by simp [z24, c24, Value.cells, ints_len, bools_len]) (by first | rfl | simp [z24, c24, Value.cells, ints_len, bools_len, List.set, List.flatMap, mkI, mkB, ints, bools]))) rfl ?_
      refine wl_stA h rfl so (fun q => ef_storeA (by rw [len24]; exact sz24) rfl rfl (one24 _) q) ?_; intro w29 h so
      refine wl_val (at_assign rfl) rfl ?_
      refine wl_nil ?_
      refine wk_prune [(4, .pointer (some (⟨b1, 0, none⟩ : Addr))), (5, .int .i64 44)] ⟨rfl, rfl, trivial⟩ (fun f1 => ?_)
      refine wk_then ?_
      refine wc_ret ?_
      refine wk_thenR ?_
      obtain ⟨x31, q30, h⟩ := h
      exact wk_retR2 (x := (x31, 44)) rfl ⟨by decide, _, rfl, loadVar_agg (cs := (c24 x31)) Try.underlying24 rfl (by rw [len24]; exact sz24) q30⟩ ⟨by decide, rfl⟩ rfl so h
    · refine wc_skip ?_
      refine wk_prune [(4, .pointer (some (⟨b1, 0, none⟩ : Addr))), (6, .pointer x3)] ⟨rfl, rfl, trivial⟩ (fun f1 => ?_)
      refine wk_then ?_
      refine wc_seq ?_
      refine wc_region ?_
      refine wl_val (at_move rfl) rfl ?_
      refine wl_val (at_nilCheck (congrArg Value.pointer q26)) rfl ?_
      refine wl_val (at_fieldAddr Try.underlying47 rfl rfl sz24 (by decide) rfl) rfl ?_
      obtain ⟨x32, q33, h⟩ := h
      refine wl_val (at_loadA (cs := (c24 x32)) Try.underlying24 rfl (by rw [len24]; exact sz24) rfl q33) rfl ?_
      refine wl_stA h rfl so (fun q => ef_storeA (by rw [len24]; exact sz24) rfl rfl (one24 _) q) ?_; intro w34 h so
      refine wl_val (at_assign rfl) rfl ?_
      refine wl_nil ?_
      refine wk_prune [(4, .pointer (some (⟨b1, 0, none⟩ : Addr))), (5, .int .i64 0)] ⟨rfl, rfl, trivial⟩ (fun f1 => ?_)
      refine wk_then ?_
      refine wc_ret ?_
      obtain ⟨x36, q35, h⟩ := h
      exact wk_retR2 (x := (x36, 0)) rfl ⟨by decide, _, rfl, loadVar_agg (cs := (c24 x36)) Try.underlying24 rfl (by rw [len24]; exact sz24) q35⟩ ⟨by decide, rfl⟩ rfl so h
end Go.Proofs.Ythblohaffipkhaa.G
