import Derived.Test.YtcjmcmkohfaleaaGF
import Derived.Test.YtcjmcmkohfaleaaKbits
import Derived.Test.YtcjmcmkohfaleaaKmosaicref01
namespace Go.Proofs.Ytcjmcmkohfaleaa.G
open Go.RowKit
set_option linter.unusedVariables false
set_option linter.unusedSimpArgs false
/-- mosaic/mosaiclaw01.write -/
def mosaiclaw01_write.enc : Bool → Value := fun r => .bool r
def mosaiclaw01_write.s (a0 : Option Addr) (a1 : Option Addr) (a2_0 : Int) (a2_1 : Int) (a2_2 : Int) (H0 : Hp) (Q : Bool → Hp → Prop) : Prop :=
  Gn [] H0 (fun (b1 : Nat) (H2 : Hp) => Join (fun (s4 : Unit) (H5 : Hp) => Q true H5) (fun (J3 : Unit → Hp → Prop) => if (a2_0 == 8) = true then (bits_Sink_Put.s a0 a2_1 a2_2 H2 (fun x6 H7 => Pv [b1] H2 H7 ∧ (mosaicref01_Sink_Put.s a1 a2_1 a2_2 H7 (fun x9 H10 => Q (x6 == x9) H10)))) else (if (a2_0 == 9) = true then (bits_Sink_Len.s a0 H2 (fun x11 H12 => mosaicref01_Sink_Len.s a1 H12 (fun x13 H14 => Q (x11 == x13) H14))) else (if (a2_0 == 10) = true then (bits_Sink_Pad.s a0 H2 (fun _ H16 => mosaicref01_Sink_Pad.s a1 H16 (fun _ H18 => J3 () H18))) else (if (a2_0 == 11) = true then (bits_Sink_Text.s a0 H2 (fun x19 H20 => mosaicref01_Sink_Text.s a1 H20 (fun x21 H22 => Q (x19.toList == x21.toList) H22))) else (J3 () H2))))))
set_option maxRecDepth 20000 in
set_option maxHeartbeats 4000000 in
theorem mosaiclaw01_write.calls (a0 : Option Addr) (a1 : Option Addr) (a2_0 : Int) (a2_1 : Int) (a2_2 : Int) (w0 : World) (Q : Bool → Hp → Prop) (h : mosaiclaw01_write.s a0 a1 a2_0 a2_1 a2_2 w0.heap Q) :
    Ca Try.prog 10 #[.pointer a0, .pointer a1, .agg (c29 a2_0 a2_1 a2_2).toArray] w0 (Rt mosaiclaw01_write.enc Q w0) := by
  refine ca_start (c := _) Try.func10 rfl Try.ntmps10 rfl ?_
  have so : Sm w0 w0 := Sm.refl w0
  unfold mosaiclaw01_write.s at h
  refine wc_prune [(0, .pointer a0), (1, .pointer a1), (2, .agg (c29 a2_0 a2_1 a2_2).toArray)] ⟨rfl, rfl, rfl, trivial⟩ (fun f1 => ?_)
  refine wc_seq ?_
  refine wc_region ?_
  refine wl_newT (T := 29) (cs := (c29 a2_0 a2_1 a2_2)) (ef_box rfl rfl) rfl so ?_; intro b1 w2 hb_b1 t_b1 k_b1 so
  have g_b1 := Nat.le_of_eq hb_b1.symm
  have hc := k_b1.ch (F := [])
  refine wl_val (at_assign rfl) rfl ?_
  refine wl_nil ?_
  refine wk_prune [(0, .pointer a0), (1, .pointer a1), (5, .pointer (some (⟨b1, 0, none⟩ : Addr)))] ⟨rfl, rfl, rfl, trivial⟩ (fun f1 => ?_)
  refine wk_then ?_
  replace h := h b1 _ hc g_b1 t_b1.lt; clear hc
  refine wc_seq ?_
  refine wc_join (w0 := w0) (fun (s4 : Unit) => []) h ?_ ?_
  · rintro s4 w5 f1 h so; refine wk_then ?_
    refine wc_seq ?_
    refine wc_region ?_
    refine wl_val (at_assign rfl) rfl ?_
    refine wl_nil ?_
    refine wk_prune [(6, .bool true)] ⟨rfl, trivial⟩ (fun f1 => ?_)
    refine wk_then ?_
    refine wc_ret ?_
    exact wk_ret1 (x := true) rfl (by decide) rfl so h
  · intro J3 h hJ3
    refine wc_seq ?_
    refine wc_region ?_
    refine wl_val (at_fieldAddr Try.underlying29 rfl rfl sz3 (by decide) rfl) rfl ?_
    refine wl_val (at_load (v := .int .i64 a2_0) Try.underlying3 rfl rfl ((t_b1.cell 0).trans (by first | rfl | simp [List.getElem?_append, ints_len, bools_len]))) rfl ?_
    refine wl_nil ?_
    refine wk_prune [(0, .pointer a0), (1, .pointer a1), (5, .pointer (some (⟨b1, 0, none⟩ : Addr))), (9, .int .i64 a2_0)] ⟨rfl, rfl, rfl, rfl, trivial⟩ (fun f1 => ?_)
    refine wk_then ?_
    refine wc_block ?_
    refine wc_seq ?_
    refine wc_region ?_
    refine wl_val (at_eql rfl rfl) rfl ?_
    refine wl_val (at_assign rfl) rfl ?_
    refine wl_nil ?_
    refine wk_prune [(0, .pointer a0), (1, .pointer a1), (5, .pointer (some (⟨b1, 0, none⟩ : Addr))), (9, .int .i64 a2_0), (10, .bool (a2_0 == 8))] ⟨rfl, rfl, rfl, rfl, rfl, trivial⟩ (fun f1 => ?_)
    refine wk_then ?_
    refine wc_cond rfl h (fun h => ?_) (fun h => ?_)
    · refine wc_seq ?_
      refine wc_region ?_
      refine wl_val (at_move rfl) rfl ?_
      refine wl_val (at_fieldAddr Try.underlying29 rfl rfl sz3 (by decide) rfl) rfl ?_
      refine wl_val (at_load (v := .int .i64 a2_1) Try.underlying3 rfl rfl ((t_b1.cell 1).trans (by first | rfl | simp [List.getElem?_append, ints_len, bools_len]))) rfl ?_
      refine wl_val (at_fieldAddr Try.underlying29 rfl rfl sz3 (by decide) rfl) rfl ?_
      refine wl_val (at_load (v := .int .i64 a2_2) Try.underlying3 rfl rfl ((t_b1.cell 2).trans (by first | rfl | simp [List.getElem?_append, ints_len, bools_len]))) rfl ?_
      refine wl_callF (bits_Sink_Put.calls _ _ _ _ _ h) enter28 rfl trivial so ?_; intro x6 w7 h so
      obtain ⟨q8, h⟩ := h
      replace t_b1 := pv_bk q8 t_b1 (by simp)
      refine wl_val (at_assign rfl) rfl ?_
      refine wl_nil ?_
      refine wk_prune [(1, .pointer a1), (5, .pointer (some (⟨b1, 0, none⟩ : Addr))), (7, .bool x6)] ⟨rfl, rfl, rfl, trivial⟩ (fun f1 => ?_)
      refine wk_then ?_
      refine wc_seq ?_
      refine wc_region ?_
      refine wl_val (at_move rfl) rfl ?_
      refine wl_val (at_move rfl) rfl ?_
      refine wl_val (at_fieldAddr Try.underlying29 rfl rfl sz3 (by decide) rfl) rfl ?_
      refine wl_val (at_load (v := .int .i64 a2_1) Try.underlying3 rfl rfl ((t_b1.cell 1).trans (by first | rfl | simp [List.getElem?_append, ints_len, bools_len]))) rfl ?_
      refine wl_val (at_fieldAddr Try.underlying29 rfl rfl sz3 (by decide) rfl) rfl ?_
      refine wl_val (at_load (v := .int .i64 a2_2) Try.underlying3 rfl rfl ((t_b1.cell 2).trans (by first | rfl | simp [List.getElem?_append, ints_len, bools_len]))) rfl ?_
      refine wl_callF (mosaicref01_Sink_Put.calls _ _ _ _ _ h) enter30 rfl trivial so ?_; intro x9 w10 h so
      refine wl_val (at_eqlB Try.underlying4 rfl rfl) rfl ?_
      refine wl_val (at_assign rfl) rfl ?_
      refine wl_nil ?_
      refine wk_prune [(6, .bool (x6 == x9))] ⟨rfl, trivial⟩ (fun f1 => ?_)
      refine wk_then ?_
      refine wc_ret ?_
      refine wk_blkR ?_
      refine wk_thenR ?_
      exact wk_ret1 (x := (x6 == x9)) rfl (by decide) rfl so h
    · refine wc_seq ?_
      refine wc_region ?_
      refine wl_val (at_eql rfl rfl) rfl ?_
      refine wl_val (at_assign rfl) rfl ?_
      refine wl_nil ?_
      refine wk_prune [(0, .pointer a0), (1, .pointer a1), (9, .int .i64 a2_0), (26, .bool (a2_0 == 9))] ⟨rfl, rfl, rfl, rfl, trivial⟩ (fun f1 => ?_)
      refine wk_then ?_
      refine wc_cond rfl h (fun h => ?_) (fun h => ?_)
      · refine wc_seq ?_
        refine wc_region ?_
        refine wl_val (at_move rfl) rfl ?_
        refine wl_callF (bits_Sink_Len.calls _ _ _ h) enter11 rfl trivial so ?_; intro x11 w12 h so
        refine wl_val (at_move rfl) rfl ?_
        refine wl_callF (mosaicref01_Sink_Len.calls _ _ _ h) enter12 rfl trivial so ?_; intro x13 w14 h so
        refine wl_val (at_eql rfl rfl) rfl ?_
        refine wl_val (at_assign rfl) rfl ?_
        refine wl_nil ?_
        refine wk_prune [(6, .bool (x11 == x13))] ⟨rfl, trivial⟩ (fun f1 => ?_)
        refine wk_then ?_
        refine wc_ret ?_
        refine wk_blkR ?_
        refine wk_thenR ?_
        exact wk_ret1 (x := (x11 == x13)) rfl (by decide) rfl so h
      · refine wc_seq ?_
        refine wc_region ?_
        refine wl_val (at_eql rfl rfl) rfl ?_
        refine wl_val (at_assign rfl) rfl ?_
        refine wl_nil ?_
        refine wk_prune [(0, .pointer a0), (1, .pointer a1), (9, .int .i64 a2_0), (33, .bool (a2_0 == 10))] ⟨rfl, rfl, rfl, rfl, trivial⟩ (fun f1 => ?_)
        refine wk_then ?_
        refine wc_cond rfl h (fun h => ?_) (fun h => ?_)
        · refine wc_seq ?_
          refine wc_region ?_
          refine wl_val (at_move rfl) rfl ?_
          refine wl_callF (bits_Sink_Pad.calls _ _ _ h) enter29 rfl trivial so ?_; intro x15 w16 h so
          refine wl_nil ?_
          refine wk_prune [(1, .pointer a1)] ⟨rfl, trivial⟩ (fun f1 => ?_)
          refine wk_then ?_
          refine wc_region ?_
          refine wl_val (at_move rfl) rfl ?_
          refine wl_callF (mosaicref01_Sink_Pad.calls _ _ _ h) enter31 rfl trivial so ?_; intro x17 w18 h so
          refine wl_nil ?_
          refine wk_blkN ?_
          exact wk_prune [] trivial (fun f1 => hJ3 () _ f1 h so)
        · refine wc_seq ?_
          refine wc_region ?_
          refine wl_val (at_eql rfl rfl) rfl ?_
          refine wl_val (at_assign rfl) rfl ?_
          refine wl_nil ?_
          refine wk_prune [(0, .pointer a0), (1, .pointer a1), (39, .bool (a2_0 == 11))] ⟨rfl, rfl, rfl, trivial⟩ (fun f1 => ?_)
          refine wk_then ?_
          refine wc_cond rfl h (fun h => ?_) (fun h => ?_)
          · refine wc_seq ?_
            refine wc_region ?_
            refine wl_val (at_move rfl) rfl ?_
            refine wl_callF (bits_Sink_Text.calls _ _ _ h) enter13 rfl trivial so ?_; intro x19 w20 h so
            refine wl_val (at_move rfl) rfl ?_
            refine wl_callF (mosaicref01_Sink_Text.calls _ _ _ h) enter14 rfl trivial so ?_; intro x21 w22 h so
            refine wl_val (at_eqlS rfl rfl) rfl ?_
            refine wl_val (at_assign rfl) rfl ?_
            refine wl_nil ?_
            refine wk_prune [(6, .bool (x19.toList == x21.toList))] ⟨rfl, trivial⟩ (fun f1 => ?_)
            refine wk_then ?_
            refine wc_ret ?_
            refine wk_blkR ?_
            refine wk_thenR ?_
            exact wk_ret1 (x := (x19.toList == x21.toList)) rfl (by decide) rfl so h
          · refine wc_skip ?_
            refine wk_blkN ?_
            exact wk_prune [] trivial (fun f1 => hJ3 () _ f1 h so)

/-- mosaic/mosaiclaw01.read -/
def mosaiclaw01_read.enc : Bool → Value := fun r => .bool r
def mosaiclaw01_read.s (a0 : Option Addr) (a1 : Option Addr) (a2_0 : Int) (a2_1 : Int) (a2_2 : Int) (H0 : Hp) (Q : Bool → Hp → Prop) : Prop :=
  Gn [] H0 (fun (b1 : Nat) (H2 : Hp) => if (a2_0 == 1) = true then (bits_Source_Next.s a0 a2_2 H2 (fun x3 H4 => Pv [b1] H2 H4 ∧ (mosaicref01_Source_Next.s a1 a2_2 H4 (fun x6 H7 => Join (fun (s9 : Bool) (H10 : Hp) => Q s9 H10) (fun (J8 : Bool → Hp → Prop) => if (x3.1 == x6.1) = true then (J8 ((x3.2 == x6.2)) H7) else (J8 (false) H7)))))) else (if (a2_0 == 2) = true then (bits_Source_Peek.s a0 a2_2 H2 (fun x11 H12 => Pv [b1] H2 H12 ∧ (mosaicref01_Source_Peek.s a1 a2_2 H12 (fun x14 H15 => Join (fun (s17 : Bool) (H18 : Hp) => Q s17 H18) (fun (J16 : Bool → Hp → Prop) => if (x11.1 == x14.1) = true then (J16 ((x11.2 == x14.2)) H15) else (J16 (false) H15)))))) else (if (a2_0 == 3) = true then (bits_Source_Skip.s a0 a2_2 H2 (fun x19 H20 => Pv [b1] H2 H20 ∧ (mosaicref01_Source_Skip.s a1 a2_2 H20 (fun x22 H23 => Q (x19 == x22) H23)))) else (if (a2_0 == 4) = true then (bits_Source_Left.s a0 H2 (fun x24 H25 => mosaicref01_Source_Left.s a1 H25 (fun x26 H27 => Q (x24 == x26) H27))) else (if (a2_0 == 5) = true then (bits_Source_Used.s a0 H2 (fun x28 H29 => mosaicref01_Source_Used.s a1 H29 (fun x30 H31 => Q (x28 == x30) H31))) else (if (a2_0 == 6) = true then (bits_Source_At.s a0 H2 (fun x32 H33 => mosaicref01_Source_At.s a1 H33 (fun x34 H35 => Q (x32 == x34) H35))) else (if (a2_0 == 7) = true then (bits_Source_Padded.s a0 H2 (fun x36 H37 => mosaicref01_Source_Padded.s a1 H37 (fun x38 H39 => Q (x36 == x38) H39))) else (Q true H2))))))))
set_option maxRecDepth 20000 in
set_option maxHeartbeats 4000000 in
theorem mosaiclaw01_read.calls (a0 : Option Addr) (a1 : Option Addr) (a2_0 : Int) (a2_1 : Int) (a2_2 : Int) (w0 : World) (Q : Bool → Hp → Prop) (h : mosaiclaw01_read.s a0 a1 a2_0 a2_1 a2_2 w0.heap Q) :
    Ca Try.prog 17 #[.pointer a0, .pointer a1, .agg (c29 a2_0 a2_1 a2_2).toArray] w0 (Rt mosaiclaw01_read.enc Q w0) := by
  refine ca_start (c := _) Try.func17 rfl Try.ntmps17 rfl ?_
  have so : Sm w0 w0 := Sm.refl w0
  unfold mosaiclaw01_read.s at h
  refine wc_prune [(0, .pointer a0), (1, .pointer a1), (2, .agg (c29 a2_0 a2_1 a2_2).toArray)] ⟨rfl, rfl, rfl, trivial⟩ (fun f1 => ?_)
  refine wc_seq ?_
  refine wc_region ?_
  refine wl_newT (T := 29) (cs := (c29 a2_0 a2_1 a2_2)) (ef_box rfl rfl) rfl so ?_; intro b1 w2 hb_b1 t_b1 k_b1 so
  have g_b1 := Nat.le_of_eq hb_b1.symm
  have hc := k_b1.ch (F := [])
  refine wl_val (at_assign rfl) rfl ?_
  refine wl_nil ?_
  refine wk_prune [(0, .pointer a0), (1, .pointer a1), (5, .pointer (some (⟨b1, 0, none⟩ : Addr)))] ⟨rfl, rfl, rfl, trivial⟩ (fun f1 => ?_)
  refine wk_then ?_
  refine wc_seq ?_
  refine wc_seq ?_
  refine wc_region ?_
  refine wl_val (at_fieldAddr Try.underlying29 rfl rfl sz3 (by decide) rfl) rfl ?_
  refine wl_val (at_load (v := .int .i64 a2_0) Try.underlying3 rfl rfl ((t_b1.cell 0).trans (by first | rfl | simp [List.getElem?_append, ints_len, bools_len]))) rfl ?_
  refine wl_nil ?_
  refine wk_prune [(0, .pointer a0), (1, .pointer a1), (5, .pointer (some (⟨b1, 0, none⟩ : Addr))), (17, .int .i64 a2_0)] ⟨rfl, rfl, rfl, rfl, trivial⟩ (fun f1 => ?_)
  refine wk_then ?_
  refine wc_block ?_
  refine wc_seq ?_
  refine wc_region ?_
  refine wl_val (at_eql rfl rfl) rfl ?_
  refine wl_val (at_assign rfl) rfl ?_
  refine wl_nil ?_
  refine wk_prune [(0, .pointer a0), (1, .pointer a1), (5, .pointer (some (⟨b1, 0, none⟩ : Addr))), (17, .int .i64 a2_0), (18, .bool (a2_0 == 1))] ⟨rfl, rfl, rfl, rfl, rfl, trivial⟩ (fun f1 => ?_)
  refine wk_then ?_
  replace h := h b1 _ hc g_b1 t_b1.lt; clear hc
  refine wc_cond rfl h (fun h => ?_) (fun h => ?_)
  · refine wc_seq ?_
    refine wc_region ?_
    refine wl_val (at_move rfl) rfl ?_
    refine wl_val (at_fieldAddr Try.underlying29 rfl rfl sz3 (by decide) rfl) rfl ?_
    refine wl_val (at_load (v := .int .i64 a2_2) Try.underlying3 rfl rfl ((t_b1.cell 2).trans (by first | rfl | simp [List.getElem?_append, ints_len, bools_len]))) rfl ?_
    refine wl_callF (bits_Source_Next.calls _ _ _ _ h) enter25 rfl trivial so ?_; intro x3 w4 h so
    obtain ⟨q5, h⟩ := h
    replace t_b1 := pv_bk q5 t_b1 (by simp)
    refine wl_val (at_move rfl) rfl ?_
    refine wl_val (at_extract rfl rfl) rfl ?_
    refine wl_val (at_extract rfl rfl) rfl ?_
    refine wl_val (at_assign rfl) rfl ?_
    refine wl_val (at_assign rfl) rfl ?_
    refine wl_nil ?_
    refine wk_prune [(1, .pointer a1), (5, .pointer (some (⟨b1, 0, none⟩ : Addr))), (7, .int .i64 x3.1), (8, .bool x3.2)] ⟨rfl, rfl, rfl, rfl, trivial⟩ (fun f1 => ?_)
    refine wk_then ?_
    refine wc_seq ?_
    refine wc_region ?_
    refine wl_val (at_move rfl) rfl ?_
    refine wl_val (at_fieldAddr Try.underlying29 rfl rfl sz3 (by decide) rfl) rfl ?_
    refine wl_val (at_load (v := .int .i64 a2_2) Try.underlying3 rfl rfl ((t_b1.cell 2).trans (by first | rfl | simp [List.getElem?_append, ints_len, bools_len]))) rfl ?_
    refine wl_callF (mosaicref01_Source_Next.calls _ _ _ _ h) enter36 rfl trivial so ?_; intro x6 w7 h so
    refine wl_val (at_move rfl) rfl ?_
    refine wl_val (at_extract rfl rfl) rfl ?_
    refine wl_val (at_extract rfl rfl) rfl ?_
    refine wl_val (at_assign rfl) rfl ?_
    refine wl_val (at_assign rfl) rfl ?_
    refine wl_nil ?_
    refine wk_prune [(7, .int .i64 x3.1), (8, .bool x3.2), (9, .int .i64 x6.1), (10, .bool x6.2)] ⟨rfl, rfl, rfl, rfl, trivial⟩ (fun f1 => ?_)
    refine wk_then ?_
    refine wc_seq ?_
    refine wc_join (w0 := w0) (fun (s9 : Bool) => [(6, .bool s9)]) h ?_ ?_
    · rintro s9 w10 f1 h so; refine wk_then ?_
      refine wc_ret ?_
      refine wk_blkR ?_
      refine wk_thenR ?_
      exact wk_ret1 (x := s9) rfl (by decide) rfl so h
    · intro J8 h hJ8
      refine wc_region ?_
      refine wl_val (at_move rfl) rfl ?_
      refine wl_val (at_move rfl) rfl ?_
      refine wl_val (at_eql rfl rfl) rfl ?_
      refine wl_val (at_move rfl) rfl ?_
      refine bif_ h (fun hb h => ?_) (fun hb h => ?_)
      · refine wl_set (t := 37) (v := .bool true) (congrArg Value.bool hb) ?_; clear hb
        refine wl_on (t := 37) rfl (by decide) rfl ?_
        refine wl_val (at_move rfl) rfl ?_
        refine wl_on (t := 37) rfl (by decide) rfl ?_
        refine wl_val (at_move rfl) rfl ?_
        refine wl_on (t := 37) rfl (by decide) rfl ?_
        refine wl_val (at_eqlB Try.underlying4 rfl rfl) rfl ?_
        refine wl_val (at_pick_t rfl rfl) rfl ?_
        refine wl_val (at_assign rfl) rfl ?_
        refine wl_nil ?_
        exact wk_prune [(6, .bool (x3.2 == x6.2))] ⟨rfl, trivial⟩ (fun f1 => hJ8 ((x3.2 == x6.2)) _ f1 h so)
      · refine wl_set (t := 37) (v := .bool false) (congrArg Value.bool hb) ?_; clear hb
        refine wl_off (t := 37) rfl (by decide) rfl ?_
        refine wl_off (t := 37) rfl (by decide) rfl ?_
        refine wl_off (t := 37) rfl (by decide) rfl ?_
        refine wl_val (at_pick_f rfl rfl) rfl ?_
        refine wl_val (at_assign rfl) rfl ?_
        refine wl_nil ?_
        exact wk_prune [(6, .bool false)] ⟨rfl, trivial⟩ (fun f1 => hJ8 (false) _ f1 h so)
  · refine wc_seq ?_
    refine wc_region ?_
    refine wl_val (at_eql rfl rfl) rfl ?_
    refine wl_val (at_assign rfl) rfl ?_
    refine wl_nil ?_
    refine wk_prune [(0, .pointer a0), (1, .pointer a1), (5, .pointer (some (⟨b1, 0, none⟩ : Addr))), (17, .int .i64 a2_0), (42, .bool (a2_0 == 2))] ⟨rfl, rfl, rfl, rfl, rfl, trivial⟩ (fun f1 => ?_)
    refine wk_then ?_
    refine wc_cond rfl h (fun h => ?_) (fun h => ?_)
    · refine wc_seq ?_
      refine wc_region ?_
      refine wl_val (at_move rfl) rfl ?_
      refine wl_val (at_fieldAddr Try.underlying29 rfl rfl sz3 (by decide) rfl) rfl ?_
      refine wl_val (at_load (v := .int .i64 a2_2) Try.underlying3 rfl rfl ((t_b1.cell 2).trans (by first | rfl | simp [List.getElem?_append, ints_len, bools_len]))) rfl ?_
      refine wl_callF (bits_Source_Peek.calls _ _ _ _ h) enter24 rfl trivial so ?_; intro x11 w12 h so
      obtain ⟨q13, h⟩ := h
      replace t_b1 := pv_bk q13 t_b1 (by simp)
      refine wl_val (at_move rfl) rfl ?_
      refine wl_val (at_extract rfl rfl) rfl ?_
      refine wl_val (at_extract rfl rfl) rfl ?_
      refine wl_val (at_assign rfl) rfl ?_
      refine wl_val (at_assign rfl) rfl ?_
      refine wl_nil ?_
      refine wk_prune [(1, .pointer a1), (5, .pointer (some (⟨b1, 0, none⟩ : Addr))), (11, .int .i64 x11.1), (12, .bool x11.2)] ⟨rfl, rfl, rfl, rfl, trivial⟩ (fun f1 => ?_)
      refine wk_then ?_
      refine wc_seq ?_
      refine wc_region ?_
      refine wl_val (at_move rfl) rfl ?_
      refine wl_val (at_fieldAddr Try.underlying29 rfl rfl sz3 (by decide) rfl) rfl ?_
      refine wl_val (at_load (v := .int .i64 a2_2) Try.underlying3 rfl rfl ((t_b1.cell 2).trans (by first | rfl | simp [List.getElem?_append, ints_len, bools_len]))) rfl ?_
      refine wl_callF (mosaicref01_Source_Peek.calls _ _ _ _ h) enter37 rfl trivial so ?_; intro x14 w15 h so
      refine wl_val (at_move rfl) rfl ?_
      refine wl_val (at_extract rfl rfl) rfl ?_
      refine wl_val (at_extract rfl rfl) rfl ?_
      refine wl_val (at_assign rfl) rfl ?_
      refine wl_val (at_assign rfl) rfl ?_
      refine wl_nil ?_
      refine wk_prune [(11, .int .i64 x11.1), (12, .bool x11.2), (13, .int .i64 x14.1), (14, .bool x14.2)] ⟨rfl, rfl, rfl, rfl, trivial⟩ (fun f1 => ?_)
      refine wk_then ?_
      refine wc_seq ?_
      refine wc_join (w0 := w0) (fun (s17 : Bool) => [(6, .bool s17)]) h ?_ ?_
      · rintro s17 w18 f1 h so; refine wk_then ?_
        refine wc_ret ?_
        refine wk_blkR ?_
        refine wk_thenR ?_
        exact wk_ret1 (x := s17) rfl (by decide) rfl so h
      · intro J16 h hJ16
        refine wc_region ?_
        refine wl_val (at_move rfl) rfl ?_
        refine wl_val (at_move rfl) rfl ?_
        refine wl_val (at_eql rfl rfl) rfl ?_
        refine wl_val (at_move rfl) rfl ?_
        refine bif_ h (fun hb h => ?_) (fun hb h => ?_)
        · refine wl_set (t := 61) (v := .bool true) (congrArg Value.bool hb) ?_; clear hb
          refine wl_on (t := 61) rfl (by decide) rfl ?_
          refine wl_val (at_move rfl) rfl ?_
          refine wl_on (t := 61) rfl (by decide) rfl ?_
          refine wl_val (at_move rfl) rfl ?_
          refine wl_on (t := 61) rfl (by decide) rfl ?_
          refine wl_val (at_eqlB Try.underlying4 rfl rfl) rfl ?_
          refine wl_val (at_pick_t rfl rfl) rfl ?_
          refine wl_val (at_assign rfl) rfl ?_
          refine wl_nil ?_
          exact wk_prune [(6, .bool (x11.2 == x14.2))] ⟨rfl, trivial⟩ (fun f1 => hJ16 ((x11.2 == x14.2)) _ f1 h so)
        · refine wl_set (t := 61) (v := .bool false) (congrArg Value.bool hb) ?_; clear hb
          refine wl_off (t := 61) rfl (by decide) rfl ?_
          refine wl_off (t := 61) rfl (by decide) rfl ?_
          refine wl_off (t := 61) rfl (by decide) rfl ?_
          refine wl_val (at_pick_f rfl rfl) rfl ?_
          refine wl_val (at_assign rfl) rfl ?_
          refine wl_nil ?_
          exact wk_prune [(6, .bool false)] ⟨rfl, trivial⟩ (fun f1 => hJ16 (false) _ f1 h so)
    · refine wc_seq ?_
      refine wc_region ?_
      refine wl_val (at_eql rfl rfl) rfl ?_
      refine wl_val (at_assign rfl) rfl ?_
      refine wl_nil ?_
      refine wk_prune [(0, .pointer a0), (1, .pointer a1), (5, .pointer (some (⟨b1, 0, none⟩ : Addr))), (17, .int .i64 a2_0), (66, .bool (a2_0 == 3))] ⟨rfl, rfl, rfl, rfl, rfl, trivial⟩ (fun f1 => ?_)
      refine wk_then ?_
      refine wc_cond rfl h (fun h => ?_) (fun h => ?_)
      · refine wc_seq ?_
        refine wc_region ?_
        refine wl_val (at_move rfl) rfl ?_
        refine wl_val (at_fieldAddr Try.underlying29 rfl rfl sz3 (by decide) rfl) rfl ?_
        refine wl_val (at_load (v := .int .i64 a2_2) Try.underlying3 rfl rfl ((t_b1.cell 2).trans (by first | rfl | simp [List.getElem?_append, ints_len, bools_len]))) rfl ?_
        refine wl_callF (bits_Source_Skip.calls _ _ _ _ h) enter21 rfl trivial so ?_; intro x19 w20 h so
        obtain ⟨q21, h⟩ := h
        replace t_b1 := pv_bk q21 t_b1 (by simp)
        refine wl_val (at_assign rfl) rfl ?_
        refine wl_nil ?_
        refine wk_prune [(1, .pointer a1), (5, .pointer (some (⟨b1, 0, none⟩ : Addr))), (15, .bool x19)] ⟨rfl, rfl, rfl, trivial⟩ (fun f1 => ?_)
        refine wk_then ?_
        refine wc_seq ?_
        refine wc_region ?_
        refine wl_val (at_move rfl) rfl ?_
        refine wl_val (at_move rfl) rfl ?_
        refine wl_val (at_fieldAddr Try.underlying29 rfl rfl sz3 (by decide) rfl) rfl ?_
        refine wl_val (at_load (v := .int .i64 a2_2) Try.underlying3 rfl rfl ((t_b1.cell 2).trans (by first | rfl | simp [List.getElem?_append, ints_len, bools_len]))) rfl ?_
        refine wl_callF (mosaicref01_Source_Skip.calls _ _ _ _ h) enter38 rfl trivial so ?_; intro x22 w23 h so
        refine wl_val (at_eqlB Try.underlying4 rfl rfl) rfl ?_
        refine wl_val (at_assign rfl) rfl ?_
        refine wl_nil ?_
        refine wk_prune [(6, .bool (x19 == x22))] ⟨rfl, trivial⟩ (fun f1 => ?_)
        refine wk_then ?_
        refine wc_ret ?_
        refine wk_blkR ?_
        refine wk_thenR ?_
        exact wk_ret1 (x := (x19 == x22)) rfl (by decide) rfl so h
      · refine wc_seq ?_
        refine wc_region ?_
        refine wl_val (at_eql rfl rfl) rfl ?_
        refine wl_val (at_assign rfl) rfl ?_
        refine wl_nil ?_
        refine wk_prune [(0, .pointer a0), (1, .pointer a1), (17, .int .i64 a2_0), (78, .bool (a2_0 == 4))] ⟨rfl, rfl, rfl, rfl, trivial⟩ (fun f1 => ?_)
        refine wk_then ?_
        refine wc_cond rfl h (fun h => ?_) (fun h => ?_)
        · refine wc_seq ?_
          refine wc_region ?_
          refine wl_val (at_move rfl) rfl ?_
          refine wl_callF (bits_Source_Left.calls _ _ _ h) enter20 rfl trivial so ?_; intro x24 w25 h so
          refine wl_val (at_move rfl) rfl ?_
          refine wl_callF (mosaicref01_Source_Left.calls _ _ _ h) enter39 rfl trivial so ?_; intro x26 w27 h so
          refine wl_val (at_eql rfl rfl) rfl ?_
          refine wl_val (at_assign rfl) rfl ?_
          refine wl_nil ?_
          refine wk_prune [(6, .bool (x24 == x26))] ⟨rfl, trivial⟩ (fun f1 => ?_)
          refine wk_then ?_
          refine wc_ret ?_
          refine wk_blkR ?_
          refine wk_thenR ?_
          exact wk_ret1 (x := (x24 == x26)) rfl (by decide) rfl so h
        · refine wc_seq ?_
          refine wc_region ?_
          refine wl_val (at_eql rfl rfl) rfl ?_
          refine wl_val (at_assign rfl) rfl ?_
          refine wl_nil ?_
          refine wk_prune [(0, .pointer a0), (1, .pointer a1), (17, .int .i64 a2_0), (85, .bool (a2_0 == 5))] ⟨rfl, rfl, rfl, rfl, trivial⟩ (fun f1 => ?_)
          refine wk_then ?_
          refine wc_cond rfl h (fun h => ?_) (fun h => ?_)
          · refine wc_seq ?_
            refine wc_region ?_
            refine wl_val (at_move rfl) rfl ?_
            refine wl_callF (bits_Source_Used.calls _ _ _ h) enter22 rfl trivial so ?_; intro x28 w29 h so
            refine wl_val (at_move rfl) rfl ?_
            refine wl_callF (mosaicref01_Source_Used.calls _ _ _ h) enter40 rfl trivial so ?_; intro x30 w31 h so
            refine wl_val (at_eql rfl rfl) rfl ?_
            refine wl_val (at_assign rfl) rfl ?_
            refine wl_nil ?_
            refine wk_prune [(6, .bool (x28 == x30))] ⟨rfl, trivial⟩ (fun f1 => ?_)
            refine wk_then ?_
            refine wc_ret ?_
            refine wk_blkR ?_
            refine wk_thenR ?_
            exact wk_ret1 (x := (x28 == x30)) rfl (by decide) rfl so h
          · refine wc_seq ?_
            refine wc_region ?_
            refine wl_val (at_eql rfl rfl) rfl ?_
            refine wl_val (at_assign rfl) rfl ?_
            refine wl_nil ?_
            refine wk_prune [(0, .pointer a0), (1, .pointer a1), (17, .int .i64 a2_0), (92, .bool (a2_0 == 6))] ⟨rfl, rfl, rfl, rfl, trivial⟩ (fun f1 => ?_)
            refine wk_then ?_
            refine wc_cond rfl h (fun h => ?_) (fun h => ?_)
            · refine wc_seq ?_
              refine wc_region ?_
              refine wl_val (at_move rfl) rfl ?_
              refine wl_callF (bits_Source_At.calls _ _ _ h) enter26 rfl trivial so ?_; intro x32 w33 h so
              refine wl_val (at_move rfl) rfl ?_
              refine wl_callF (mosaicref01_Source_At.calls _ _ _ h) enter41 rfl trivial so ?_; intro x34 w35 h so
              refine wl_val (at_eql rfl rfl) rfl ?_
              refine wl_val (at_assign rfl) rfl ?_
              refine wl_nil ?_
              refine wk_prune [(6, .bool (x32 == x34))] ⟨rfl, trivial⟩ (fun f1 => ?_)
              refine wk_then ?_
              refine wc_ret ?_
              refine wk_blkR ?_
              refine wk_thenR ?_
              exact wk_ret1 (x := (x32 == x34)) rfl (by decide) rfl so h
            · refine wc_seq ?_
              refine wc_region ?_
              refine wl_val (at_eql rfl rfl) rfl ?_
              refine wl_val (at_assign rfl) rfl ?_
              refine wl_nil ?_
              refine wk_prune [(0, .pointer a0), (1, .pointer a1), (99, .bool (a2_0 == 7))] ⟨rfl, rfl, rfl, trivial⟩ (fun f1 => ?_)
              refine wk_then ?_
              refine wc_cond rfl h (fun h => ?_) (fun h => ?_)
              · refine wc_seq ?_
                refine wc_region ?_
                refine wl_val (at_move rfl) rfl ?_
                refine wl_callF (bits_Source_Padded.calls _ _ _ h) enter27 rfl trivial so ?_; intro x36 w37 h so
                refine wl_val (at_move rfl) rfl ?_
                refine wl_callF (mosaicref01_Source_Padded.calls _ _ _ h) enter42 rfl trivial so ?_; intro x38 w39 h so
                refine wl_val (at_eqlB Try.underlying4 rfl rfl) rfl ?_
                refine wl_val (at_assign rfl) rfl ?_
                refine wl_nil ?_
                refine wk_prune [(6, .bool (x36 == x38))] ⟨rfl, trivial⟩ (fun f1 => ?_)
                refine wk_then ?_
                refine wc_ret ?_
                refine wk_blkR ?_
                refine wk_thenR ?_
                exact wk_ret1 (x := (x36 == x38)) rfl (by decide) rfl so h
              · refine wc_skip ?_
                refine wk_blkN ?_
                refine wk_prune [] trivial (fun f1 => ?_)
                refine wk_then ?_
                refine wc_seq ?_
                refine wc_region ?_
                refine wl_val (at_assign rfl) rfl ?_
                refine wl_nil ?_
                refine wk_prune [(6, .bool true)] ⟨rfl, trivial⟩ (fun f1 => ?_)
                refine wk_then ?_
                refine wc_ret ?_
                exact wk_ret1 (x := true) rfl (by decide) rfl so h

/-- mosaic/mosaiclaw01.rest -/
def mosaiclaw01_rest.enc : Bool → Value := fun r => .bool r
def mosaiclaw01_rest.s (a0 : Option Addr) (a1 : Option Addr) (H0 : Hp) (Q : Bool → Hp → Prop) : Prop :=
  Join (fun (s2 : Bool) (H3 : Hp) => if s2 = true then (Q false H3) else (∃ k4, Fix (fun (rec9 : Unit → Hp → Prop) (s6 : Unit) (H7 : Hp) => mosaicref01_Source_Left.s a1 H7 (fun x10 H11 => if decide ((0 : Int) < x10) = true then (Join (fun (s13 : Bool) (H14 : Hp) => if (!s13) = true then (Q false H14) else (rec9 () H14)) (fun (J12 : Bool → Hp → Prop) => mosaiclaw01_read.s a0 a1 1 0 1 H11 (fun x15 H16 => if x15 = true then (mosaiclaw01_read.s a0 a1 6 0 0 H16 (fun x17 H18 => J12 (x17) H18)) else (J12 (false) H16)))) else (bits_Source_Left.s a0 H11 (fun x19 H20 => if (x19 == 0) = true then (bits_Source_Padded.s a0 H20 (fun x21 H22 => if x21 = true then (bits_Source_Used.s a0 H22 (fun x23 H24 => mosaicref01_Source_Used.s a1 H24 (fun x25 H26 => Q (x23 == x25) H26))) else (Q false H22))) else (Q false H20))))) k4 () H3)) (fun (J1 : Bool → Hp → Prop) => bits_Source_Left.s a0 H0 (fun x27 H28 => mosaicref01_Source_Left.s a1 H28 (fun x29 H30 => if (x27 != x29) = true then (J1 (true) H30) else (bits_Source_Used.s a0 H30 (fun x31 H32 => mosaicref01_Source_Used.s a1 H32 (fun x33 H34 => if (x31 != x33) = true then (J1 (true) H34) else (bits_Source_At.s a0 H34 (fun x35 H36 => mosaicref01_Source_At.s a1 H36 (fun x37 H38 => if (x35 != x37) = true then (J1 (true) H38) else (bits_Source_Padded.s a0 H38 (fun x39 H40 => mosaicref01_Source_Padded.s a1 H40 (fun x41 H42 => J1 ((!(x39 == x41))) H42))))))))))))
set_option maxRecDepth 20000 in
set_option maxHeartbeats 4000000 in
theorem mosaiclaw01_rest.calls (a0 : Option Addr) (a1 : Option Addr) (w0 : World) (Q : Bool → Hp → Prop) (h : mosaiclaw01_rest.s a0 a1 w0.heap Q) :
    Ca Try.prog 18 #[.pointer a0, .pointer a1] w0 (Rt mosaiclaw01_rest.enc Q w0) := by
  refine ca_start (c := _) Try.func18 rfl Try.ntmps18 rfl ?_
  have so : Sm w0 w0 := Sm.refl w0
  unfold mosaiclaw01_rest.s at h
  refine wc_prune [(0, .pointer a0), (1, .pointer a1)] ⟨rfl, rfl, trivial⟩ (fun f1 => ?_)
  refine wc_seq ?_
  refine wc_region ?_
  refine wl_val (at_assign rfl) rfl ?_
  refine wl_nil ?_
  refine wk_prune [(0, .pointer a0), (1, .pointer a1)] ⟨rfl, rfl, trivial⟩ (fun f1 => ?_)
  refine wk_then ?_
  refine wc_seq ?_
  refine wc_seq ?_
  refine wc_join (w0 := w0) (fun (s2 : Bool) => [(0, .pointer a0), (1, .pointer a1), (31, .bool s2)]) h ?_ ?_
  · rintro s2 w3 f1 h so; refine wk_then ?_
    refine wc_cond rfl h (fun h => ?_) (fun h => ?_)
    · refine wc_seq ?_
      refine wc_region ?_
      refine wl_val (at_assign rfl) rfl ?_
      refine wl_nil ?_
      refine wk_prune [(4, .bool false)] ⟨rfl, trivial⟩ (fun f1 => ?_)
      refine wk_then ?_
      refine wc_ret ?_
      refine wk_thenR ?_
      exact wk_ret1 (x := false) rfl (by decide) rfl so h
    · refine wc_skip ?_
      refine wk_prune [(0, .pointer a0), (1, .pointer a1)] ⟨rfl, rfl, trivial⟩ (fun f1 => ?_)
      refine wk_then ?_
      refine wc_seq ?_
      refine wc_block ?_
      obtain ⟨k4, h⟩ := h
      refine wc_loop (fun k a w => ∃ (s6 : Unit) (f1 : Nat → Value), a = ac 61 (en f1 [(0, .pointer a0), (1, .pointer a1)]) [] ∧ Sm w0 w ∧ Fix _ k s6 w.heap) k4 ⟨(), _, ac_again ⟨rfl, rfl, trivial⟩, so, h⟩ ?_
      rintro k5 a8 w7 ⟨s6, f1, rfl, so, h⟩
      rcases k5 with _ | k5
      · exact h.elim
      replace h := Fix.un h; refine wc_in ?_
      refine wc_seq ?_
      refine wc_seq ?_
      refine wc_region ?_
      refine wl_val (at_move rfl) rfl ?_
      refine wl_callF (mosaicref01_Source_Left.calls _ _ _ h) enter39 rfl trivial so ?_; intro x10 w11 h so
      refine wl_val (at_gtr rfl rfl) rfl ?_
      refine wl_nil ?_
      refine wk_prune [(0, .pointer a0), (1, .pointer a1), (34, .bool (decide ((0 : Int) < x10)))] ⟨rfl, rfl, rfl, trivial⟩ (fun f1 => ?_)
      refine wk_then ?_
      refine wc_cond rfl h (fun h => ?_) (fun h => ?_)
      · refine wc_skip ?_
        refine wk_prune [(0, .pointer a0), (1, .pointer a1)] ⟨rfl, rfl, trivial⟩ (fun f1 => ?_)
        refine wk_then ?_
        refine wc_block ?_
        refine wc_seq ?_
        refine wc_join (w0 := w0) (fun (s13 : Bool) => [(0, .pointer a0), (1, .pointer a1), (5, .bool s13)]) h ?_ ?_
        · rintro s13 w14 f1 h so; refine wk_then ?_
          refine wc_seq ?_
          refine wc_region ?_
          refine wl_val (at_move rfl) rfl ?_
          refine wl_val (at_not rfl) rfl ?_
          refine wl_nil ?_
          refine wk_prune [(0, .pointer a0), (1, .pointer a1), (46, .bool (!s13))] ⟨rfl, rfl, rfl, trivial⟩ (fun f1 => ?_)
          refine wk_then ?_
          refine wc_cond rfl h (fun h => ?_) (fun h => ?_)
          · refine wc_seq ?_
            refine wc_region ?_
            refine wl_val (at_assign rfl) rfl ?_
            refine wl_nil ?_
            refine wk_prune [(4, .bool false)] ⟨rfl, trivial⟩ (fun f1 => ?_)
            refine wk_then ?_
            refine wc_ret ?_
            refine wk_blkR ?_
            refine wk_thenR ?_
            refine wk_blkR ?_
            refine wk_thenR ?_
            exact wk_ret1 (x := false) rfl (by decide) rfl so h
          · refine wc_skip ?_
            refine wk_blkN ?_
            exact wk_again ⟨(), _, ac_again ⟨rfl, rfl, trivial⟩, so, h⟩
        · intro J12 h hJ12
          refine wc_region ?_
          refine wl_val (at_move rfl) rfl ?_
          refine wl_val (at_move rfl) rfl ?_
          refine wl_val (at_build (cs := (c29 1 0 1)) (ps := [(0, .int .i64 1), (2, .int .i64 1)]) rfl (fun w => by simp [Instr.build, Instr.fill, go_sem, Try.underlying29, z29])) rfl ?_
          refine wl_callF (mosaiclaw01_read.calls _ _ _ _ _ _ _ h) enter17 rfl trivial so ?_; intro x15 w16 h so
          refine wl_val (at_move rfl) rfl ?_
          refine bif_ h (fun hb h => ?_) (fun hb h => ?_)
          · refine wl_set (t := 39) (v := .bool true) (congrArg Value.bool hb) ?_; clear hb
            refine wl_on (t := 39) rfl (by decide) rfl ?_
            refine wl_val (at_move rfl) rfl ?_
            refine wl_on (t := 39) rfl (by decide) rfl ?_
            refine wl_val (at_move rfl) rfl ?_
            refine wl_on (t := 39) rfl (by decide) rfl ?_
            refine wl_val (at_build (cs := (c29 6 0 0)) (ps := [(0, .int .i64 6)]) rfl (fun w => by simp [Instr.build, Instr.fill, go_sem, Try.underlying29, z29])) rfl ?_
            refine wl_on (t := 39) rfl (by decide) rfl ?_
            refine wl_callF (mosaiclaw01_read.calls _ _ _ _ _ _ _ h) enter17 rfl trivial so ?_; intro x17 w18 h so
            refine wl_val (at_pick_t rfl rfl) rfl ?_
            refine wl_val (at_assign rfl) rfl ?_
            refine wl_nil ?_
            exact wk_prune [(0, .pointer a0), (1, .pointer a1), (5, .bool x17)] ⟨rfl, rfl, rfl, trivial⟩ (fun f1 => hJ12 (x17) _ f1 h so)
          · refine wl_set (t := 39) (v := .bool false) (congrArg Value.bool hb) ?_; clear hb
            refine wl_off (t := 39) rfl (by decide) rfl ?_
            refine wl_off (t := 39) rfl (by decide) rfl ?_
            refine wl_off (t := 39) rfl (by decide) rfl ?_
            refine wl_off (t := 39) rfl (by decide) rfl ?_
            refine wl_val (at_pick_f rfl rfl) rfl ?_
            refine wl_val (at_assign rfl) rfl ?_
            refine wl_nil ?_
            exact wk_prune [(0, .pointer a0), (1, .pointer a1), (5, .bool false)] ⟨rfl, rfl, rfl, trivial⟩ (fun f1 => hJ12 (false) _ f1 h so)
      · refine wc_exit ?_
        refine wk_thenE ?_
        refine wk_thenE ?_
        refine wk_blkE ?_
        refine wk_prune [(0, .pointer a0), (1, .pointer a1)] ⟨rfl, rfl, trivial⟩ (fun f1 => ?_)
        refine wk_then ?_
        refine wc_seq ?_
        refine wc_region ?_
        refine wl_val (at_move rfl) rfl ?_
        refine wl_callF (bits_Source_Left.calls _ _ _ h) enter20 rfl trivial so ?_; intro x19 w20 h so
        refine wl_val (at_eql rfl rfl) rfl ?_
        refine wl_val (at_move rfl) rfl ?_
        refine bif_ h (fun hb h => ?_) (fun hb h => ?_)
        · refine wl_set (t := 50) (v := .bool true) (congrArg Value.bool hb) ?_; clear hb
          refine wl_on (t := 50) rfl (by decide) rfl ?_
          refine wl_val (at_move rfl) rfl ?_
          refine wl_on (t := 50) rfl (by decide) rfl ?_
          refine wl_callF (bits_Source_Padded.calls _ _ _ h) enter27 rfl trivial so ?_; intro x21 w22 h so
          refine wl_val (at_pick_t rfl rfl) rfl ?_
          refine wl_val (at_move rfl) rfl ?_
          refine bif_ h (fun hb h => ?_) (fun hb h => ?_)
          · refine wl_set (t := 54) (v := .bool true) (congrArg Value.bool hb) ?_; clear hb
            refine wl_on (t := 54) rfl (by decide) rfl ?_
            refine wl_val (at_move rfl) rfl ?_
            refine wl_on (t := 54) rfl (by decide) rfl ?_
            refine wl_callF (bits_Source_Used.calls _ _ _ h) enter22 rfl trivial so ?_; intro x23 w24 h so
            refine wl_on (t := 54) rfl (by decide) rfl ?_
            refine wl_val (at_move rfl) rfl ?_
            refine wl_on (t := 54) rfl (by decide) rfl ?_
            refine wl_callF (mosaicref01_Source_Used.calls _ _ _ h) enter40 rfl trivial so ?_; intro x25 w26 h so
            refine wl_on (t := 54) rfl (by decide) rfl ?_
            refine wl_val (at_eql rfl rfl) rfl ?_
            refine wl_val (at_pick_t rfl rfl) rfl ?_
            refine wl_val (at_assign rfl) rfl ?_
            refine wl_nil ?_
            refine wk_prune [(4, .bool (x23 == x25))] ⟨rfl, trivial⟩ (fun f1 => ?_)
            refine wk_then ?_
            refine wc_ret ?_
            exact wk_ret1 (x := (x23 == x25)) rfl (by decide) rfl so h
          · refine wl_set (t := 54) (v := .bool false) (congrArg Value.bool hb) ?_; clear hb
            refine wl_off (t := 54) rfl (by decide) rfl ?_
            refine wl_off (t := 54) rfl (by decide) rfl ?_
            refine wl_off (t := 54) rfl (by decide) rfl ?_
            refine wl_off (t := 54) rfl (by decide) rfl ?_
            refine wl_off (t := 54) rfl (by decide) rfl ?_
            refine wl_val (at_pick_f rfl rfl) rfl ?_
            refine wl_val (at_assign rfl) rfl ?_
            refine wl_nil ?_
            refine wk_prune [(4, .bool false)] ⟨rfl, trivial⟩ (fun f1 => ?_)
            refine wk_then ?_
            refine wc_ret ?_
            exact wk_ret1 (x := false) rfl (by decide) rfl so h
        · refine wl_set (t := 50) (v := .bool false) (congrArg Value.bool hb) ?_; clear hb
          refine wl_off (t := 50) rfl (by decide) rfl ?_
          refine wl_off (t := 50) rfl (by decide) rfl ?_
          refine wl_val (at_pick_f rfl rfl) rfl ?_
          refine wl_val (at_move rfl) rfl ?_
          refine wl_off (t := 54) rfl (by decide) rfl ?_
          refine wl_off (t := 54) rfl (by decide) rfl ?_
          refine wl_off (t := 54) rfl (by decide) rfl ?_
          refine wl_off (t := 54) rfl (by decide) rfl ?_
          refine wl_off (t := 54) rfl (by decide) rfl ?_
          refine wl_val (at_pick_f rfl rfl) rfl ?_
          refine wl_val (at_assign rfl) rfl ?_
          refine wl_nil ?_
          refine wk_prune [(4, .bool false)] ⟨rfl, trivial⟩ (fun f1 => ?_)
          refine wk_then ?_
          refine wc_ret ?_
          exact wk_ret1 (x := false) rfl (by decide) rfl so h
  · intro J1 h hJ1
    refine wc_region ?_
    refine wl_val (at_move rfl) rfl ?_
    refine wl_callF (bits_Source_Left.calls _ _ _ h) enter20 rfl trivial so ?_; intro x27 w28 h so
    refine wl_val (at_move rfl) rfl ?_
    refine wl_callF (mosaicref01_Source_Left.calls _ _ _ h) enter39 rfl trivial so ?_; intro x29 w30 h so
    refine wl_val (at_neq rfl rfl) rfl ?_
    refine wl_val (at_move rfl) rfl ?_
    refine bif_ h (fun hb h => ?_) (fun hb h => ?_)
    · refine wl_set (t := 11) (v := .bool true) (congrArg Value.bool hb) ?_; clear hb
      refine wl_off (t := 11) rfl (by decide) rfl ?_
      refine wl_off (t := 11) rfl (by decide) rfl ?_
      refine wl_off (t := 11) rfl (by decide) rfl ?_
      refine wl_off (t := 11) rfl (by decide) rfl ?_
      refine wl_off (t := 11) rfl (by decide) rfl ?_
      refine wl_val (at_pick_t rfl rfl) rfl ?_
      refine wl_val (at_move rfl) rfl ?_
      refine wl_off (t := 18) rfl (by decide) rfl ?_
      refine wl_off (t := 18) rfl (by decide) rfl ?_
      refine wl_off (t := 18) rfl (by decide) rfl ?_
      refine wl_off (t := 18) rfl (by decide) rfl ?_
      refine wl_off (t := 18) rfl (by decide) rfl ?_
      refine wl_val (at_pick_t rfl rfl) rfl ?_
      refine wl_val (at_move rfl) rfl ?_
      refine wl_off (t := 25) rfl (by decide) rfl ?_
      refine wl_off (t := 25) rfl (by decide) rfl ?_
      refine wl_off (t := 25) rfl (by decide) rfl ?_
      refine wl_off (t := 25) rfl (by decide) rfl ?_
      refine wl_off (t := 25) rfl (by decide) rfl ?_
      refine wl_val (at_pick_t rfl rfl) rfl ?_
      refine wl_nil ?_
      exact wk_prune [(0, .pointer a0), (1, .pointer a1), (31, .bool true)] ⟨rfl, rfl, rfl, trivial⟩ (fun f1 => hJ1 (true) _ f1 h so)
    · refine wl_set (t := 11) (v := .bool false) (congrArg Value.bool hb) ?_; clear hb
      refine wl_on (t := 11) rfl (by decide) rfl ?_
      refine wl_val (at_move rfl) rfl ?_
      refine wl_on (t := 11) rfl (by decide) rfl ?_
      refine wl_callF (bits_Source_Used.calls _ _ _ h) enter22 rfl trivial so ?_; intro x31 w32 h so
      refine wl_on (t := 11) rfl (by decide) rfl ?_
      refine wl_val (at_move rfl) rfl ?_
      refine wl_on (t := 11) rfl (by decide) rfl ?_
      refine wl_callF (mosaicref01_Source_Used.calls _ _ _ h) enter40 rfl trivial so ?_; intro x33 w34 h so
      refine wl_on (t := 11) rfl (by decide) rfl ?_
      refine wl_val (at_neq rfl rfl) rfl ?_
      refine wl_val (at_pick_f rfl rfl) rfl ?_
      refine wl_val (at_move rfl) rfl ?_
      refine bif_ h (fun hb h => ?_) (fun hb h => ?_)
      · refine wl_set (t := 18) (v := .bool true) (congrArg Value.bool hb) ?_; clear hb
        refine wl_off (t := 18) rfl (by decide) rfl ?_
        refine wl_off (t := 18) rfl (by decide) rfl ?_
        refine wl_off (t := 18) rfl (by decide) rfl ?_
        refine wl_off (t := 18) rfl (by decide) rfl ?_
        refine wl_off (t := 18) rfl (by decide) rfl ?_
        refine wl_val (at_pick_t rfl rfl) rfl ?_
        refine wl_val (at_move rfl) rfl ?_
        refine wl_off (t := 25) rfl (by decide) rfl ?_
        refine wl_off (t := 25) rfl (by decide) rfl ?_
        refine wl_off (t := 25) rfl (by decide) rfl ?_
        refine wl_off (t := 25) rfl (by decide) rfl ?_
        refine wl_off (t := 25) rfl (by decide) rfl ?_
        refine wl_val (at_pick_t rfl rfl) rfl ?_
        refine wl_nil ?_
        exact wk_prune [(0, .pointer a0), (1, .pointer a1), (31, .bool true)] ⟨rfl, rfl, rfl, trivial⟩ (fun f1 => hJ1 (true) _ f1 h so)
      · refine wl_set (t := 18) (v := .bool false) (congrArg Value.bool hb) ?_; clear hb
        refine wl_on (t := 18) rfl (by decide) rfl ?_
        refine wl_val (at_move rfl) rfl ?_
        refine wl_on (t := 18) rfl (by decide) rfl ?_
        refine wl_callF (bits_Source_At.calls _ _ _ h) enter26 rfl trivial so ?_; intro x35 w36 h so
        refine wl_on (t := 18) rfl (by decide) rfl ?_
        refine wl_val (at_move rfl) rfl ?_
        refine wl_on (t := 18) rfl (by decide) rfl ?_
        refine wl_callF (mosaicref01_Source_At.calls _ _ _ h) enter41 rfl trivial so ?_; intro x37 w38 h so
        refine wl_on (t := 18) rfl (by decide) rfl ?_
        refine wl_val (at_neq rfl rfl) rfl ?_
        refine wl_val (at_pick_f rfl rfl) rfl ?_
        refine wl_val (at_move rfl) rfl ?_
        refine bif_ h (fun hb h => ?_) (fun hb h => ?_)
        · refine wl_set (t := 25) (v := .bool true) (congrArg Value.bool hb) ?_; clear hb
          refine wl_off (t := 25) rfl (by decide) rfl ?_
          refine wl_off (t := 25) rfl (by decide) rfl ?_
          refine wl_off (t := 25) rfl (by decide) rfl ?_
          refine wl_off (t := 25) rfl (by decide) rfl ?_
          refine wl_off (t := 25) rfl (by decide) rfl ?_
          refine wl_val (at_pick_t rfl rfl) rfl ?_
          refine wl_nil ?_
          exact wk_prune [(0, .pointer a0), (1, .pointer a1), (31, .bool true)] ⟨rfl, rfl, rfl, trivial⟩ (fun f1 => hJ1 (true) _ f1 h so)
        · refine wl_set (t := 25) (v := .bool false) (congrArg Value.bool hb) ?_; clear hb
          refine wl_on (t := 25) rfl (by decide) rfl ?_
          refine wl_val (at_move rfl) rfl ?_
          refine wl_on (t := 25) rfl (by decide) rfl ?_
          refine wl_callF (bits_Source_Padded.calls _ _ _ h) enter27 rfl trivial so ?_; intro x39 w40 h so
          refine wl_on (t := 25) rfl (by decide) rfl ?_
          refine wl_val (at_move rfl) rfl ?_
          refine wl_on (t := 25) rfl (by decide) rfl ?_
          refine wl_callF (mosaicref01_Source_Padded.calls _ _ _ h) enter42 rfl trivial so ?_; intro x41 w42 h so
          refine wl_on (t := 25) rfl (by decide) rfl ?_
          refine wl_val (at_neqB Try.underlying4 rfl rfl) rfl ?_
          refine wl_val (at_pick_f rfl rfl) rfl ?_
          refine wl_nil ?_
          exact wk_prune [(0, .pointer a0), (1, .pointer a1), (31, .bool (!(x39 == x41)))] ⟨rfl, rfl, rfl, trivial⟩ (fun f1 => hJ1 ((!(x39 == x41))) _ f1 h so)

/-- mosaic/mosaiclaw01.alive -/
def mosaiclaw01_alive.enc : Bool → Value := fun r => .bool r
def mosaiclaw01_alive.s (H0 : Hp) (Q : Bool → Hp → Prop) : Prop :=
  bits_Open.s (⟨#[165, 255, 0, 60, 255, 217]⟩ : ByteArray) 0 6 H0 (fun x1 H2 => bits_New.s H2 (fun x3 H4 => Join (fun (s6 : Bool) (H7 : Hp) => if s6 = true then (Q false H7) else (bits_Source_Next.s x1 12 H7 (fun x8 H9 => bits_Sink_Put.s x3 5 3 H9 (fun x10 H11 => if x8.2 = true then (if (x8.1 == 2655) = true then (bits_Source_Left.s x1 H11 (fun x12 H13 => if (x12 == 12) = true then (bits_Source_At.s x1 H13 (fun x14 H15 => if (x14 == 1) = true then (if x10 = true then (bits_Sink_Len.s x3 H15 (fun x16 H17 => Q (x16 == 3) H17)) else (Q false H15)) else (Q false H15))) else (Q false H13))) else (Q false H11)) else (Q false H11))))) (fun (J5 : Bool → Hp → Prop) => if x1.isNone = true then (J5 (true) H4) else (J5 (x3.isNone) H4))))
set_option maxRecDepth 20000 in
set_option maxHeartbeats 4000000 in
theorem mosaiclaw01_alive.calls (w0 : World) (Q : Bool → Hp → Prop) (h : mosaiclaw01_alive.s w0.heap Q) :
    Ca Try.prog 19 #[] w0 (Rt mosaiclaw01_alive.enc Q w0) := by
  refine ca_start (c := _) Try.func19 rfl Try.ntmps19 rfl ?_
  have so : Sm w0 w0 := Sm.refl w0
  unfold mosaiclaw01_alive.s at h
  refine wc_prune [] trivial (fun f1 => ?_)
  refine wc_seq ?_
  refine wc_region ?_
  refine wl_val (at_assign rfl) rfl ?_
  refine wl_nil ?_
  refine wk_prune [] trivial (fun f1 => ?_)
  refine wk_then ?_
  refine wc_seq ?_
  refine wc_region ?_
  refine wl_callF (bits_Open.calls _ _ _ _ _ h) enter15 rfl trivial so ?_; intro x1 w2 h so
  refine wl_val (at_assign rfl) rfl ?_
  refine wl_nil ?_
  refine wk_prune [(1, .pointer x1)] ⟨rfl, trivial⟩ (fun f1 => ?_)
  refine wk_then ?_
  refine wc_seq ?_
  refine wc_region ?_
  refine wl_callF (bits_New.calls _ _ h) enter8 rfl trivial so ?_; intro x3 w4 h so
  refine wl_val (at_assign rfl) rfl ?_
  refine wl_nil ?_
  refine wk_prune [(1, .pointer x1), (2, .pointer x3)] ⟨rfl, rfl, trivial⟩ (fun f1 => ?_)
  refine wk_then ?_
  refine wc_seq ?_
  refine wc_seq ?_
  refine wc_join (w0 := w0) (fun (s6 : Bool) => [(1, .pointer x1), (2, .pointer x3), (13, .bool s6)]) h ?_ ?_
  · rintro s6 w7 f1 h so; refine wk_then ?_
    refine wc_cond rfl h (fun h => ?_) (fun h => ?_)
    · refine wc_seq ?_
      refine wc_region ?_
      refine wl_val (at_assign rfl) rfl ?_
      refine wl_nil ?_
      refine wk_prune [(0, .bool false)] ⟨rfl, trivial⟩ (fun f1 => ?_)
      refine wk_then ?_
      refine wc_ret ?_
      refine wk_thenR ?_
      exact wk_ret1 (x := false) rfl (by decide) rfl so h
    · refine wc_skip ?_
      refine wk_prune [(1, .pointer x1), (2, .pointer x3)] ⟨rfl, rfl, trivial⟩ (fun f1 => ?_)
      refine wk_then ?_
      refine wc_seq ?_
      refine wc_region ?_
      refine wl_val (at_move rfl) rfl ?_
      refine wl_callF (bits_Source_Next.calls _ _ _ _ h) enter25 rfl trivial so ?_; intro x8 w9 h so
      refine wl_val (at_move rfl) rfl ?_
      refine wl_val (at_extract rfl rfl) rfl ?_
      refine wl_val (at_extract rfl rfl) rfl ?_
      refine wl_val (at_assign rfl) rfl ?_
      refine wl_val (at_assign rfl) rfl ?_
      refine wl_nil ?_
      refine wk_prune [(1, .pointer x1), (2, .pointer x3), (3, .int .i64 x8.1), (4, .bool x8.2)] ⟨rfl, rfl, rfl, rfl, trivial⟩ (fun f1 => ?_)
      refine wk_then ?_
      refine wc_seq ?_
      refine wc_region ?_
      refine wl_val (at_move rfl) rfl ?_
      refine wl_callF (bits_Sink_Put.calls _ _ _ _ _ h) enter28 rfl trivial so ?_; intro x10 w11 h so
      refine wl_val (at_assign rfl) rfl ?_
      refine wl_nil ?_
      refine wk_prune [(1, .pointer x1), (2, .pointer x3), (3, .int .i64 x8.1), (4, .bool x8.2), (5, .bool x10)] ⟨rfl, rfl, rfl, rfl, rfl, trivial⟩ (fun f1 => ?_)
      refine wk_then ?_
      refine wc_seq ?_
      refine wc_region ?_
      refine wl_val (at_move rfl) rfl ?_
      refine wl_val (at_move rfl) rfl ?_
      refine bif_ h (fun hb h => ?_) (fun hb h => ?_)
      · refine wl_set (t := 22) (v := .bool true) (congrArg Value.bool hb) ?_; clear hb
        refine wl_on (t := 22) rfl (by decide) rfl ?_
        refine wl_val (at_move rfl) rfl ?_
        refine wl_on (t := 22) rfl (by decide) rfl ?_
        refine wl_val (at_eql rfl rfl) rfl ?_
        refine wl_val (at_pick_t rfl rfl) rfl ?_
        refine wl_val (at_move rfl) rfl ?_
        refine bif_ h (fun hb h => ?_) (fun hb h => ?_)
        · refine wl_set (t := 26) (v := .bool true) (congrArg Value.bool hb) ?_; clear hb
          refine wl_on (t := 26) rfl (by decide) rfl ?_
          refine wl_val (at_move rfl) rfl ?_
          refine wl_on (t := 26) rfl (by decide) rfl ?_
          refine wl_callF (bits_Source_Left.calls _ _ _ h) enter20 rfl trivial so ?_; intro x12 w13 h so
          refine wl_on (t := 26) rfl (by decide) rfl ?_
          refine wl_val (at_eql rfl rfl) rfl ?_
          refine wl_val (at_pick_t rfl rfl) rfl ?_
          refine wl_val (at_move rfl) rfl ?_
          refine bif_ h (fun hb h => ?_) (fun hb h => ?_)
          · refine wl_set (t := 31) (v := .bool true) (congrArg Value.bool hb) ?_; clear hb
            refine wl_on (t := 31) rfl (by decide) rfl ?_
            refine wl_val (at_move rfl) rfl ?_
            refine wl_on (t := 31) rfl (by decide) rfl ?_
            refine wl_callF (bits_Source_At.calls _ _ _ h) enter26 rfl trivial so ?_; intro x14 w15 h so
            refine wl_on (t := 31) rfl (by decide) rfl ?_
            refine wl_val (at_eql rfl rfl) rfl ?_
            refine wl_val (at_pick_t rfl rfl) rfl ?_
            refine wl_val (at_move rfl) rfl ?_
            refine bif_ h (fun hb h => ?_) (fun hb h => ?_)
            · refine wl_set (t := 36) (v := .bool true) (congrArg Value.bool hb) ?_; clear hb
              refine wl_on (t := 36) rfl (by decide) rfl ?_
              refine wl_val (at_move rfl) rfl ?_
              refine wl_val (at_pick_t rfl rfl) rfl ?_
              refine wl_val (at_move rfl) rfl ?_
              refine bif_ h (fun hb h => ?_) (fun hb h => ?_)
              · refine wl_set (t := 39) (v := .bool true) (congrArg Value.bool hb) ?_; clear hb
                refine wl_on (t := 39) rfl (by decide) rfl ?_
                refine wl_val (at_move rfl) rfl ?_
                refine wl_on (t := 39) rfl (by decide) rfl ?_
                refine wl_callF (bits_Sink_Len.calls _ _ _ h) enter11 rfl trivial so ?_; intro x16 w17 h so
                refine wl_on (t := 39) rfl (by decide) rfl ?_
                refine wl_val (at_eql rfl rfl) rfl ?_
                refine wl_val (at_pick_t rfl rfl) rfl ?_
                refine wl_val (at_assign rfl) rfl ?_
                refine wl_nil ?_
                refine wk_prune [(0, .bool (x16 == 3))] ⟨rfl, trivial⟩ (fun f1 => ?_)
                refine wk_then ?_
                refine wc_ret ?_
                exact wk_ret1 (x := (x16 == 3)) rfl (by decide) rfl so h
              · refine wl_set (t := 39) (v := .bool false) (congrArg Value.bool hb) ?_; clear hb
                refine wl_off (t := 39) rfl (by decide) rfl ?_
                refine wl_off (t := 39) rfl (by decide) rfl ?_
                refine wl_off (t := 39) rfl (by decide) rfl ?_
                refine wl_val (at_pick_f rfl rfl) rfl ?_
                refine wl_val (at_assign rfl) rfl ?_
                refine wl_nil ?_
                refine wk_prune [(0, .bool false)] ⟨rfl, trivial⟩ (fun f1 => ?_)
                refine wk_then ?_
                refine wc_ret ?_
                exact wk_ret1 (x := false) rfl (by decide) rfl so h
            · refine wl_set (t := 36) (v := .bool false) (congrArg Value.bool hb) ?_; clear hb
              refine wl_off (t := 36) rfl (by decide) rfl ?_
              refine wl_val (at_pick_f rfl rfl) rfl ?_
              refine wl_val (at_move rfl) rfl ?_
              refine wl_off (t := 39) rfl (by decide) rfl ?_
              refine wl_off (t := 39) rfl (by decide) rfl ?_
              refine wl_off (t := 39) rfl (by decide) rfl ?_
              refine wl_val (at_pick_f rfl rfl) rfl ?_
              refine wl_val (at_assign rfl) rfl ?_
              refine wl_nil ?_
              refine wk_prune [(0, .bool false)] ⟨rfl, trivial⟩ (fun f1 => ?_)
              refine wk_then ?_
              refine wc_ret ?_
              exact wk_ret1 (x := false) rfl (by decide) rfl so h
          · refine wl_set (t := 31) (v := .bool false) (congrArg Value.bool hb) ?_; clear hb
            refine wl_off (t := 31) rfl (by decide) rfl ?_
            refine wl_off (t := 31) rfl (by decide) rfl ?_
            refine wl_off (t := 31) rfl (by decide) rfl ?_
            refine wl_val (at_pick_f rfl rfl) rfl ?_
            refine wl_val (at_move rfl) rfl ?_
            refine wl_off (t := 36) rfl (by decide) rfl ?_
            refine wl_val (at_pick_f rfl rfl) rfl ?_
            refine wl_val (at_move rfl) rfl ?_
            refine wl_off (t := 39) rfl (by decide) rfl ?_
            refine wl_off (t := 39) rfl (by decide) rfl ?_
            refine wl_off (t := 39) rfl (by decide) rfl ?_
            refine wl_val (at_pick_f rfl rfl) rfl ?_
            refine wl_val (at_assign rfl) rfl ?_
            refine wl_nil ?_
            refine wk_prune [(0, .bool false)] ⟨rfl, trivial⟩ (fun f1 => ?_)
            refine wk_then ?_
            refine wc_ret ?_
            exact wk_ret1 (x := false) rfl (by decide) rfl so h
        · refine wl_set (t := 26) (v := .bool false) (congrArg Value.bool hb) ?_; clear hb
          refine wl_off (t := 26) rfl (by decide) rfl ?_
          refine wl_off (t := 26) rfl (by decide) rfl ?_
          refine wl_off (t := 26) rfl (by decide) rfl ?_
          refine wl_val (at_pick_f rfl rfl) rfl ?_
          refine wl_val (at_move rfl) rfl ?_
          refine wl_off (t := 31) rfl (by decide) rfl ?_
          refine wl_off (t := 31) rfl (by decide) rfl ?_
          refine wl_off (t := 31) rfl (by decide) rfl ?_
          refine wl_val (at_pick_f rfl rfl) rfl ?_
          refine wl_val (at_move rfl) rfl ?_
          refine wl_off (t := 36) rfl (by decide) rfl ?_
          refine wl_val (at_pick_f rfl rfl) rfl ?_
          refine wl_val (at_move rfl) rfl ?_
          refine wl_off (t := 39) rfl (by decide) rfl ?_
          refine wl_off (t := 39) rfl (by decide) rfl ?_
          refine wl_off (t := 39) rfl (by decide) rfl ?_
          refine wl_val (at_pick_f rfl rfl) rfl ?_
          refine wl_val (at_assign rfl) rfl ?_
          refine wl_nil ?_
          refine wk_prune [(0, .bool false)] ⟨rfl, trivial⟩ (fun f1 => ?_)
          refine wk_then ?_
          refine wc_ret ?_
          exact wk_ret1 (x := false) rfl (by decide) rfl so h
      · refine wl_set (t := 22) (v := .bool false) (congrArg Value.bool hb) ?_; clear hb
        refine wl_off (t := 22) rfl (by decide) rfl ?_
        refine wl_off (t := 22) rfl (by decide) rfl ?_
        refine wl_val (at_pick_f rfl rfl) rfl ?_
        refine wl_val (at_move rfl) rfl ?_
        refine wl_off (t := 26) rfl (by decide) rfl ?_
        refine wl_off (t := 26) rfl (by decide) rfl ?_
        refine wl_off (t := 26) rfl (by decide) rfl ?_
        refine wl_val (at_pick_f rfl rfl) rfl ?_
        refine wl_val (at_move rfl) rfl ?_
        refine wl_off (t := 31) rfl (by decide) rfl ?_
        refine wl_off (t := 31) rfl (by decide) rfl ?_
        refine wl_off (t := 31) rfl (by decide) rfl ?_
        refine wl_val (at_pick_f rfl rfl) rfl ?_
        refine wl_val (at_move rfl) rfl ?_
        refine wl_off (t := 36) rfl (by decide) rfl ?_
        refine wl_val (at_pick_f rfl rfl) rfl ?_
        refine wl_val (at_move rfl) rfl ?_
        refine wl_off (t := 39) rfl (by decide) rfl ?_
        refine wl_off (t := 39) rfl (by decide) rfl ?_
        refine wl_off (t := 39) rfl (by decide) rfl ?_
        refine wl_val (at_pick_f rfl rfl) rfl ?_
        refine wl_val (at_assign rfl) rfl ?_
        refine wl_nil ?_
        refine wk_prune [(0, .bool false)] ⟨rfl, trivial⟩ (fun f1 => ?_)
        refine wk_then ?_
        refine wc_ret ?_
        exact wk_ret1 (x := false) rfl (by decide) rfl so h
  · intro J5 h hJ5
    refine wc_region ?_
    refine wl_val (at_move rfl) rfl ?_
    refine wl_val (at_eqlP Try.underlying35 rfl rfl) rfl ?_
    refine wl_val (at_move rfl) rfl ?_
    refine bif_ h (fun hb h => ?_) (fun hb h => ?_)
    · refine wl_set (t := 10) (v := .bool true) (congrArg Value.bool hb) ?_; clear hb
      refine wl_off (t := 10) rfl (by decide) rfl ?_
      refine wl_off (t := 10) rfl (by decide) rfl ?_
      refine wl_val (at_pick_t rfl rfl) rfl ?_
      refine wl_nil ?_
      exact wk_prune [(1, .pointer x1), (2, .pointer x3), (13, .bool true)] ⟨rfl, rfl, rfl, trivial⟩ (fun f1 => hJ5 (true) _ f1 h so)
    · refine wl_set (t := 10) (v := .bool false) (congrArg Value.bool hb) ?_; clear hb
      refine wl_on (t := 10) rfl (by decide) rfl ?_
      refine wl_val (at_move rfl) rfl ?_
      refine wl_on (t := 10) rfl (by decide) rfl ?_
      refine wl_val (at_eqlP Try.underlying23 rfl rfl) rfl ?_
      refine wl_val (at_pick_f rfl rfl) rfl ?_
      refine wl_nil ?_
      exact wk_prune [(1, .pointer x1), (2, .pointer x3), (13, .bool x3.isNone)] ⟨rfl, rfl, rfl, trivial⟩ (fun f1 => hJ5 (x3.isNone) _ f1 h so)

/-- mosaic/mosaiclaw01.clip -/
def mosaiclaw01_clip.enc : Int → Value := fun r => .int .i64 r
def mosaiclaw01_clip.s (a0 : Int) (H0 : Hp) (Q : Int → Hp → Prop) : Prop :=
  Join (fun (s2 : Int) (H3 : Hp) => Q s2 H3) (fun (J1 : Int → Hp → Prop) => if decide ((Int.tmod a0 17) < 0) = true then (J1 ((IntKind.wrap .i64 ((Int.tmod a0 17) + 17))) H0) else (J1 ((Int.tmod a0 17)) H0))
set_option maxRecDepth 20000 in
set_option maxHeartbeats 4000000 in
theorem mosaiclaw01_clip.calls (a0 : Int) (w0 : World) (Q : Int → Hp → Prop) (h : mosaiclaw01_clip.s a0 w0.heap Q) :
    Ca Try.prog 23 #[.int .i64 a0] w0 (Rt mosaiclaw01_clip.enc Q w0) := by
  refine ca_start (c := _) Try.func23 rfl Try.ntmps23 rfl ?_
  have so : Sm w0 w0 := Sm.refl w0
  unfold mosaiclaw01_clip.s at h
  refine wc_prune [(0, .int .i64 a0)] ⟨rfl, trivial⟩ (fun f1 => ?_)
  refine wc_seq ?_
  refine wc_region ?_
  refine wl_val (at_assign rfl) rfl ?_
  refine wl_nil ?_
  refine wk_prune [(0, .int .i64 a0)] ⟨rfl, trivial⟩ (fun f1 => ?_)
  refine wk_then ?_
  refine wc_seq ?_
  refine wc_region ?_
  refine wl_val (at_move rfl) rfl ?_
  refine wl_val (at_rem rfl rfl (by decide)) rfl ?_
  refine wl_val (at_assign rfl) rfl ?_
  refine wl_nil ?_
  refine wk_prune [(0, .int .i64 (Int.tmod a0 17))] ⟨rfl, trivial⟩ (fun f1 => ?_)
  refine wk_then ?_
  refine wc_seq ?_
  refine wc_join (w0 := w0) (fun (s2 : Int) => [(0, .int .i64 s2)]) h ?_ ?_
  · rintro s2 w3 f1 h so; refine wk_then ?_
    refine wc_seq ?_
    refine wc_region ?_
    refine wl_val (at_move rfl) rfl ?_
    refine wl_val (at_assign rfl) rfl ?_
    refine wl_nil ?_
    refine wk_prune [(2, .int .i64 s2)] ⟨rfl, trivial⟩ (fun f1 => ?_)
    refine wk_then ?_
    refine wc_ret ?_
    exact wk_ret1 (x := s2) rfl (by decide) rfl so h
  · intro J1 h hJ1
    refine wc_seq ?_
    refine wc_region ?_
    refine wl_val (at_move rfl) rfl ?_
    refine wl_val (at_lss rfl rfl) rfl ?_
    refine wl_nil ?_
    refine wk_prune [(0, .int .i64 (Int.tmod a0 17)), (6, .bool (decide ((Int.tmod a0 17) < 0)))] ⟨rfl, rfl, trivial⟩ (fun f1 => ?_)
    refine wk_then ?_
    refine wc_cond rfl h (fun h => ?_) (fun h => ?_)
    · refine wc_region ?_
      refine wl_val (at_move rfl) rfl ?_
      refine wl_val (at_add rfl rfl) rfl ?_
      refine wl_val (at_assign rfl) rfl ?_
      refine wl_nil ?_
      exact wk_prune [(0, .int .i64 (IntKind.wrap .i64 ((Int.tmod a0 17) + 17)))] ⟨rfl, trivial⟩ (fun f1 => hJ1 ((IntKind.wrap .i64 ((Int.tmod a0 17) + 17))) _ f1 h so)
    · refine wc_skip ?_
      exact wk_prune [(0, .int .i64 (Int.tmod a0 17))] ⟨rfl, trivial⟩ (fun f1 => hJ1 ((Int.tmod a0 17)) _ f1 h so)
end Go.Proofs.Ytcjmcmkohfaleaa.G
