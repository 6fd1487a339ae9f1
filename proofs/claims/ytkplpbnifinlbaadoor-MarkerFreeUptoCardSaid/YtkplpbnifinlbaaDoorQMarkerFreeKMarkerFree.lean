/- Of this text what the row needs. -/
import Derived.Test.YtkplpbnifinlbaaDoorQMarkerFreeKshelf
import Derived.Test.YtkplpbnifinlbaaDoorQMarkerFreeKmarker
import Derived.Test.YtkplpbnifinlbaaDoorQMarkerFreeKmosaiclaw02
namespace Go.Proofs.YtkplpbnifinlbaaDoor.G
open Go.RowKit
set_option linter.unusedVariables false
set_option linter.unusedSimpArgs false
def mosaiclaw02_MarkerFree.enc : Bool → Value := fun r => .bool r
def mosaiclaw02_MarkerFree.s (a0 : ByteArray) (a1 : ByteArray) (H0 : Hp) (Q : Bool → Hp → Prop) : Prop :=
  mosaiclaw02_alive.s H0 (fun x1 H2 => marker_Free.s a0 H2 (fun x3 H4 => marker_Free.s a1 H4 (fun x5 H6 => Join (fun (s8 : Bool) (H9 : Hp) => if s8 = true then (Q false H9) else (if (!x3) = true then (Q true H9) else (marker_Next.s a0 0 H9 (fun x10 H11 => Gn [] H11 (fun (b12 : Nat) (H14 : Hp) => marker_Next.s a1 0 H14 (fun x15 H16 => Gn [] H16 (fun (b17 : Nat) (H19 : Hp) => a0.size + a1.size ≤ 9223372036854775807 ∧ (marker_Next.s (a0 ++ a1) 0 H19 (fun x21 H22 => Pv [b17] H19 H22 ∧ (Gn [] H22 (fun (b24 : Nat) (H26 : Hp) => if (!x10.2.2.2) = true then (if (x15.2.2.2 == x21.2.2.2) = true then (if (!x15.2.2.2) = true then (Q true H26) else (if (x21.1 == (IntKind.wrap .i64 (x15.1 + (a0.size : Int)))) = true then (Q (x21.2.2.1 == x15.2.2.1) H26) else (Q false H26))) else (Q false H26)) else (Q false H26)))))))))))) (fun (J7 : Bool → Hp → Prop) => if (!x1) = true then (J7 (true) H6) else (if x3 = true then (if x5 = true then (a0.size + a1.size ≤ 9223372036854775807 ∧ (marker_Free.s (a0 ++ a1) H6 (fun x28 H29 => if (!x28) = true then (J7 (true) H29) else (if (!x3) = true then (mosaiclaw02_ffs.s a0 H29 (fun x30 H31 => J7 ((x30 == 0)) H31)) else (J7 (false) H29))))) else (if (!x3) = true then (mosaiclaw02_ffs.s a0 H6 (fun x32 H33 => J7 ((x32 == 0)) H33)) else (J7 (false) H6))) else (if (!x3) = true then (mosaiclaw02_ffs.s a0 H6 (fun x34 H35 => J7 ((x34 == 0)) H35)) else (J7 (false) H6)))))))
set_option maxRecDepth 20000 in
set_option maxHeartbeats 4000000 in
theorem mosaiclaw02_MarkerFree.calls (a0 : ByteArray) (a1 : ByteArray) (w0 : World) (Q : Bool → Hp → Prop) (h : mosaiclaw02_MarkerFree.s a0 a1 w0.heap Q) :
    Ca Tryd.prog 7 #[.string a0, .string a1] w0 (Rt mosaiclaw02_MarkerFree.enc Q w0) := by
  refine ca_start (c := _) Tryd.func7 rfl Tryd.ntmps7 rfl ?_
  have so : Sm w0 w0 := Sm.refl w0
  unfold mosaiclaw02_MarkerFree.s at h
  refine wc_prune [(0, .string a0), (1, .string a1)] ⟨rfl, rfl, trivial⟩ (fun f1 => ?_)
  refine wc_seq ?_
  refine wc_region ?_
  refine wl_val (at_assign rfl) rfl ?_
  refine wl_nil ?_
  refine wk_prune [(0, .string a0), (1, .string a1)] ⟨rfl, rfl, trivial⟩ (fun f1 => ?_)
  refine wk_then ?_
  refine wc_seq ?_
  refine wc_region ?_
  refine wl_callF (mosaiclaw02_alive.calls _ _ h) enter20 rfl trivial so ?_; intro x1 w2 h so
  refine wl_val (at_assign rfl) rfl ?_
  refine wl_nil ?_
  refine wk_prune [(0, .string a0), (1, .string a1), (5, .bool x1)] ⟨rfl, rfl, rfl, trivial⟩ (fun f1 => ?_)
  refine wk_then ?_
  refine wc_seq ?_
  refine wc_region ?_
  refine wl_val (at_move rfl) rfl ?_
  refine wl_callF (marker_Free.calls _ _ _ h) enter16 rfl trivial so ?_; intro x3 w4 h so
  refine wl_val (at_assign rfl) rfl ?_
  refine wl_nil ?_
  refine wk_prune [(0, .string a0), (1, .string a1), (5, .bool x1), (6, .bool x3)] ⟨rfl, rfl, rfl, rfl, trivial⟩ (fun f1 => ?_)
  refine wk_then ?_
  refine wc_seq ?_
  refine wc_region ?_
  refine wl_val (at_move rfl) rfl ?_
  refine wl_callF (marker_Free.calls _ _ _ h) enter16 rfl trivial so ?_; intro x5 w6 h so
  refine wl_val (at_assign rfl) rfl ?_
  refine wl_nil ?_
  refine wk_prune [(0, .string a0), (1, .string a1), (5, .bool x1), (6, .bool x3), (7, .bool x5)] ⟨rfl, rfl, rfl, rfl, rfl, trivial⟩ (fun f1 => ?_)
  refine wk_then ?_
  refine wc_seq ?_
  refine wc_seq ?_
  refine wc_join (w0 := w0) (fun (s8 : Bool) => [(0, .string a0), (1, .string a1), (6, .bool x3), (42, .bool s8)]) h ?_ ?_
  · rintro s8 w9 f1 h so; refine wk_then ?_
    refine wc_cond rfl h (fun h => ?_) (fun h => ?_)
    · refine wc_seq ?_
      refine wc_region ?_
      refine wl_val (at_assign rfl) rfl ?_
      refine wl_nil ?_
      refine wk_prune [(4, .bool false)] ⟨rfl, trivial⟩ (fun f1 => ?_)
      refine wk_then ?_
      refine wc_ret ?_
      refine wk_thenR ?_
      exact wk_ret1 (x := false) rfl (by decide) rfl so h
    · refine wc_skip ?_
      refine wk_prune [(0, .string a0), (1, .string a1), (6, .bool x3)] ⟨rfl, rfl, rfl, trivial⟩ (fun f1 => ?_)
      refine wk_then ?_
      refine wc_seq ?_
      refine wc_seq ?_
      refine wc_region ?_
      refine wl_val (at_move rfl) rfl ?_
      refine wl_val (at_not rfl) rfl ?_
      refine wl_nil ?_
      refine wk_prune [(0, .string a0), (1, .string a1), (44, .bool (!x3))] ⟨rfl, rfl, rfl, trivial⟩ (fun f1 => ?_)
      refine wk_then ?_
      refine wc_cond rfl h (fun h => ?_) (fun h => ?_)
      · refine wc_seq ?_
        refine wc_region ?_
        refine wl_val (at_assign rfl) rfl ?_
        refine wl_nil ?_
        refine wk_prune [(4, .bool true)] ⟨rfl, trivial⟩ (fun f1 => ?_)
        refine wk_then ?_
        refine wc_ret ?_
        refine wk_thenR ?_
        exact wk_ret1 (x := true) rfl (by decide) rfl so h
      · refine wc_skip ?_
        refine wk_prune [(0, .string a0), (1, .string a1)] ⟨rfl, rfl, trivial⟩ (fun f1 => ?_)
        refine wk_then ?_
        refine wc_seq ?_
        refine wc_region ?_
        refine wl_val (at_move rfl) rfl ?_
        refine wl_callF (marker_Next.calls _ _ _ _ h) enter21 rfl trivial so ?_; intro x10 w11 h so
        refine wl_val (at_move rfl) rfl ?_
        refine wl_val (at_extract rfl rfl) rfl ?_
        refine wl_val (at_extract rfl rfl) rfl ?_
        refine wl_newT (T := 32) (cs := (c32 0 0 0)) (ef_alloc zero32 rfl) rfl so ?_; intro b12 w13 hb_b12 t_b12 k_b12 so
        have g_b12 := Nat.le_of_eq hb_b12.symm
        have hc := k_b12.ch (F := [])
        refine wl_stWT (vs := (c32 x10.1 x10.2.1 x10.2.2.1)) t_b12 (by first | (rw [len32, len32]) | (rw [len32]) | rfl) rfl so (fun q => ef_storeA (p := (⟨b12, 0, none⟩ : Addr)) (cs := (c32 x10.1 x10.2.1 x10.2.2.1)) (by rw [len32]; exact sz32) rfl rfl (one32 _ _ _) q) ?_; intro w14 t_b12 s_w14 so
        replace hc := ch_same hc s_w14 (.inr g_b12)
        refine wl_val (at_assign rfl) rfl ?_
        refine wl_nil ?_
        refine wk_prune [(0, .string a0), (1, .string a1), (9, .bool x10.2.2.2)] ⟨rfl, rfl, rfl, trivial⟩ (fun f1 => ?_)
        refine wk_then ?_
        refine wc_seq ?_
        refine wc_region ?_
        refine wl_val (at_move rfl) rfl ?_
        replace h := h b12 _ hc g_b12 t_b12.lt; clear hc
        refine wl_callF (marker_Next.calls _ _ _ _ h) enter21 rfl trivial so ?_; intro x15 w16 h so
        refine wl_val (at_move rfl) rfl ?_
        refine wl_val (at_extract rfl rfl) rfl ?_
        refine wl_val (at_extract rfl rfl) rfl ?_
        refine wl_newT (T := 32) (cs := (c32 0 0 0)) (ef_alloc zero32 rfl) rfl so ?_; intro b17 w18 hb_b17 t_b17 k_b17 so
        have g_b17 := Nat.le_of_eq hb_b17.symm
        have hc := k_b17.ch (F := [])
        refine wl_stWT (vs := (c32 x15.1 x15.2.1 x15.2.2.1)) t_b17 (by first | (rw [len32, len32]) | (rw [len32]) | rfl) rfl so (fun q => ef_storeA (p := (⟨b17, 0, none⟩ : Addr)) (cs := (c32 x15.1 x15.2.1 x15.2.2.1)) (by rw [len32]; exact sz32) rfl rfl (one32 _ _ _) q) ?_; intro w19 t_b17 s_w19 so
        replace hc := ch_same hc s_w19 (.inr g_b17)
        refine wl_val (at_assign rfl) rfl ?_
        refine wl_nil ?_
        refine wk_prune [(0, .string a0), (1, .string a1), (9, .bool x10.2.2.2), (10, .pointer (some (⟨b17, 0, none⟩ : Addr))), (11, .bool x15.2.2.2)] ⟨rfl, rfl, rfl, rfl, rfl, trivial⟩ (fun f1 => ?_)
        refine wk_then ?_
        refine wc_seq ?_
        refine wc_region ?_
        refine wl_val (at_move rfl) rfl ?_
        refine wl_val (at_move rfl) rfl ?_
        replace h := h b17 _ hc g_b17 t_b17.lt; clear hc
        obtain ⟨q20, h⟩ := h
        refine wl_val (at_cat rfl rfl q20) rfl ?_
        refine wl_callF (marker_Next.calls _ _ _ _ h) enter21 rfl trivial so ?_; intro x21 w22 h so
        obtain ⟨q23, h⟩ := h
        replace t_b17 := pv_bk q23 t_b17 (by simp)
        refine wl_val (at_move rfl) rfl ?_
        refine wl_val (at_extract rfl rfl) rfl ?_
        refine wl_val (at_extract rfl rfl) rfl ?_
        refine wl_newT (T := 32) (cs := (c32 0 0 0)) (ef_alloc zero32 rfl) rfl so ?_; intro b24 w25 hb_b24 t_b24 k_b24 so
        have g_b24 := Nat.le_of_eq hb_b24.symm
        have hc := k_b24.ch (F := [])
        have n_b17_b24 : b17 ≠ b24 := fun e => by have := t_b17.lt; omega
        replace t_b17 := t_b17.keep k_b24
        refine wl_stWT (vs := (c32 x21.1 x21.2.1 x21.2.2.1)) t_b24 (by first | (rw [len32, len32]) | (rw [len32]) | rfl) rfl so (fun q => ef_storeA (p := (⟨b24, 0, none⟩ : Addr)) (cs := (c32 x21.1 x21.2.1 x21.2.2.1)) (by rw [len32]; exact sz32) rfl rfl (one32 _ _ _) q) ?_; intro w26 t_b24 s_w26 so
        replace t_b17 := t_b17.same s_w26 (n_b17_b24)
        replace hc := ch_same hc s_w26 (.inr g_b24)
        refine wl_val (at_assign rfl) rfl ?_
        refine wl_nil ?_
        refine wk_prune [(0, .string a0), (9, .bool x10.2.2.2), (10, .pointer (some (⟨b17, 0, none⟩ : Addr))), (11, .bool x15.2.2.2), (12, .pointer (some (⟨b24, 0, none⟩ : Addr))), (13, .bool x21.2.2.2)] ⟨rfl, rfl, rfl, rfl, rfl, rfl, trivial⟩ (fun f1 => ?_)
        refine wk_then ?_
        refine wc_seq ?_
        refine wc_region ?_
        refine wl_val (at_move rfl) rfl ?_
        refine wl_val (at_not rfl) rfl ?_
        refine wl_val (at_move rfl) rfl ?_
        replace h := h b24 _ hc g_b24 t_b24.lt; clear hc
        refine bif_ h (fun hb h => ?_) (fun hb h => ?_)
        · refine wl_set (t := 64) (v := .bool true) (congrArg Value.bool hb) ?_; clear hb
          refine wl_on (t := 64) rfl (by decide) rfl ?_
          refine wl_val (at_move rfl) rfl ?_
          refine wl_on (t := 64) rfl (by decide) rfl ?_
          refine wl_val (at_move rfl) rfl ?_
          refine wl_on (t := 64) rfl (by decide) rfl ?_
          refine wl_val (at_eqlB Tryd.underlying4 rfl rfl) rfl ?_
          refine wl_val (at_pick_t rfl rfl) rfl ?_
          refine wl_val (at_move rfl) rfl ?_
          refine bif_ h (fun hb h => ?_) (fun hb h => ?_)
          · refine wl_set (t := 69) (v := .bool true) (congrArg Value.bool hb) ?_; clear hb
            refine wl_on (t := 69) rfl (by decide) rfl ?_
            refine wl_val (at_move rfl) rfl ?_
            refine wl_on (t := 69) rfl (by decide) rfl ?_
            refine wl_val (at_not rfl) rfl ?_
            refine wl_on (t := 69) rfl (by decide) rfl ?_
            refine wl_val (at_move rfl) rfl ?_
            refine bif_ h (fun hb h => ?_) (fun hb h => ?_)
            · refine wl_set (t := 72) (v := .bool true) (congrArg Value.bool hb) ?_; clear hb
              refine wl_off (t := 72) rfl (by decide) rfl ?_
              refine wl_off (t := 72) rfl (by decide) rfl ?_
              refine wl_off (t := 72) rfl (by decide) rfl ?_
              refine wl_off (t := 72) rfl (by decide) rfl ?_
              refine wl_off (t := 72) rfl (by decide) rfl ?_
              refine wl_off (t := 72) rfl (by decide) rfl ?_
              refine wl_off (t := 72) rfl (by decide) rfl ?_
              refine wl_off (t := 72) rfl (by decide) rfl ?_
              refine wl_off (t := 72) rfl (by decide) rfl ?_
              refine wl_off' (t := 81) rfl (by decide) rfl ?_
              refine wl_off' (t := 81) rfl (by decide) rfl ?_
              refine wl_off' (t := 81) rfl (by decide) rfl ?_
              refine wl_off' (t := 81) rfl (by decide) rfl ?_
              refine wl_off' (t := 81) rfl (by decide) rfl ?_
              refine wl_off (t := 72) rfl (by decide) rfl ?_
              refine wl_on (t := 69) rfl (by decide) rfl ?_
              refine wl_val (at_pick_t rfl rfl) rfl ?_
              refine wl_val (at_pick_t rfl rfl) rfl ?_
              refine wl_val (at_assign rfl) rfl ?_
              refine wl_nil ?_
              refine wk_prune [(4, .bool true)] ⟨rfl, trivial⟩ (fun f1 => ?_)
              refine wk_then ?_
              refine wc_ret ?_
              exact wk_ret1 (x := true) rfl (by decide) rfl so h
            · refine wl_set (t := 72) (v := .bool false) (congrArg Value.bool hb) ?_; clear hb
              refine wl_on (t := 72) rfl (by decide) rfl ?_
              refine wl_val (at_fieldAddr Tryd.underlying32 rfl rfl sz3 (by decide) rfl) rfl ?_
              refine wl_on (t := 72) rfl (by decide) rfl ?_
              refine wl_val (at_load (v := .int .i64 x21.1) Tryd.underlying3 rfl rfl ((t_b24.cell 0).trans (by first | rfl | simp [List.getElem?_append, ints_len, bools_len]))) rfl ?_
              refine wl_on (t := 72) rfl (by decide) rfl ?_
              refine wl_val (at_fieldAddr Tryd.underlying32 rfl rfl sz3 (by decide) rfl) rfl ?_
              refine wl_on (t := 72) rfl (by decide) rfl ?_
              refine wl_val (at_load (v := .int .i64 x15.1) Tryd.underlying3 rfl rfl ((t_b17.cell 0).trans (by first | rfl | simp [List.getElem?_append, ints_len, bools_len]))) rfl ?_
              refine wl_on (t := 72) rfl (by decide) rfl ?_
              refine wl_val (at_move rfl) rfl ?_
              refine wl_on (t := 72) rfl (by decide) rfl ?_
              refine wl_val (at_lenS Tryd.underlying9 rfl) rfl ?_
              refine wl_on (t := 72) rfl (by decide) rfl ?_
              refine wl_val (at_add rfl rfl) rfl ?_
              refine wl_on (t := 72) rfl (by decide) rfl ?_
              refine wl_val (at_eql rfl rfl) rfl ?_
              refine wl_on (t := 72) rfl (by decide) rfl ?_
              refine wl_val (at_move rfl) rfl ?_
              refine bif_ h (fun hb h => ?_) (fun hb h => ?_)
              · refine wl_set (t := 81) (v := .bool true) (congrArg Value.bool hb) ?_; clear hb
                refine wl_on (t := 81) rfl (by decide) rfl ?_
                refine wl_val (at_fieldAddr Tryd.underlying32 rfl rfl sz5 (by decide) rfl) rfl ?_
                refine wl_on (t := 81) rfl (by decide) rfl ?_
                refine wl_val (at_load (v := .int .u8 x21.2.2.1) Tryd.underlying5 rfl rfl ((t_b24.cell 2).trans (by first | rfl | simp [List.getElem?_append, ints_len, bools_len]))) rfl ?_
                refine wl_on (t := 81) rfl (by decide) rfl ?_
                refine wl_val (at_fieldAddr Tryd.underlying32 rfl rfl sz5 (by decide) rfl) rfl ?_
                refine wl_on (t := 81) rfl (by decide) rfl ?_
                refine wl_val (at_load (v := .int .u8 x15.2.2.1) Tryd.underlying5 rfl rfl ((t_b17.cell 2).trans (by first | rfl | simp [List.getElem?_append, ints_len, bools_len]))) rfl ?_
                refine wl_on (t := 81) rfl (by decide) rfl ?_
                refine wl_val (at_eql rfl rfl) rfl ?_
                refine wl_on (t := 72) rfl (by decide) rfl ?_
                refine wl_val (at_pick_t rfl rfl) rfl ?_
                refine wl_on (t := 69) rfl (by decide) rfl ?_
                refine wl_val (at_pick_f rfl rfl) rfl ?_
                refine wl_val (at_pick_t rfl rfl) rfl ?_
                refine wl_val (at_assign rfl) rfl ?_
                refine wl_nil ?_
                refine wk_prune [(4, .bool (x21.2.2.1 == x15.2.2.1))] ⟨rfl, trivial⟩ (fun f1 => ?_)
                refine wk_then ?_
                refine wc_ret ?_
                exact wk_ret1 (x := (x21.2.2.1 == x15.2.2.1)) rfl (by decide) rfl so h
              · refine wl_set (t := 81) (v := .bool false) (congrArg Value.bool hb) ?_; clear hb
                refine wl_off (t := 81) rfl (by decide) rfl ?_
                refine wl_off (t := 81) rfl (by decide) rfl ?_
                refine wl_off (t := 81) rfl (by decide) rfl ?_
                refine wl_off (t := 81) rfl (by decide) rfl ?_
                refine wl_off (t := 81) rfl (by decide) rfl ?_
                refine wl_on (t := 72) rfl (by decide) rfl ?_
                refine wl_val (at_pick_f rfl rfl) rfl ?_
                refine wl_on (t := 69) rfl (by decide) rfl ?_
                refine wl_val (at_pick_f rfl rfl) rfl ?_
                refine wl_val (at_pick_t rfl rfl) rfl ?_
                refine wl_val (at_assign rfl) rfl ?_
                refine wl_nil ?_
                refine wk_prune [(4, .bool false)] ⟨rfl, trivial⟩ (fun f1 => ?_)
                refine wk_then ?_
                refine wc_ret ?_
                exact wk_ret1 (x := false) rfl (by decide) rfl so h
          · refine wl_set (t := 69) (v := .bool false) (congrArg Value.bool hb) ?_; clear hb
            refine wl_off (t := 69) rfl (by decide) rfl ?_
            refine wl_off (t := 69) rfl (by decide) rfl ?_
            refine wl_off (t := 69) rfl (by decide) rfl ?_
            refine wl_off' (t := 72) rfl (by decide) rfl ?_
            refine wl_off' (t := 72) rfl (by decide) rfl ?_
            refine wl_off' (t := 72) rfl (by decide) rfl ?_
            refine wl_off' (t := 72) rfl (by decide) rfl ?_
            refine wl_off' (t := 72) rfl (by decide) rfl ?_
            refine wl_off' (t := 72) rfl (by decide) rfl ?_
            refine wl_off' (t := 72) rfl (by decide) rfl ?_
            refine wl_off' (t := 72) rfl (by decide) rfl ?_
            refine wl_off' (t := 72) rfl (by decide) rfl ?_
            refine wl_off' (t := 81) rfl (by decide) rfl ?_
            refine wl_off' (t := 81) rfl (by decide) rfl ?_
            refine wl_off' (t := 81) rfl (by decide) rfl ?_
            refine wl_off' (t := 81) rfl (by decide) rfl ?_
            refine wl_off' (t := 81) rfl (by decide) rfl ?_
            refine wl_off' (t := 72) rfl (by decide) rfl ?_
            refine wl_off (t := 69) rfl (by decide) rfl ?_
            refine wl_val (at_pick_f rfl rfl) rfl ?_
            refine wl_val (at_assign rfl) rfl ?_
            refine wl_nil ?_
            refine wk_prune [(4, .bool false)] ⟨rfl, trivial⟩ (fun f1 => ?_)
            refine wk_then ?_
            refine wc_ret ?_
            exact wk_ret1 (x := false) rfl (by decide) rfl so h
        · refine wl_set (t := 64) (v := .bool false) (congrArg Value.bool hb) ?_; clear hb
          refine wl_off (t := 64) rfl (by decide) rfl ?_
          refine wl_off (t := 64) rfl (by decide) rfl ?_
          refine wl_off (t := 64) rfl (by decide) rfl ?_
          refine wl_val (at_pick_f rfl rfl) rfl ?_
          refine wl_val (at_move rfl) rfl ?_
          refine wl_off (t := 69) rfl (by decide) rfl ?_
          refine wl_off (t := 69) rfl (by decide) rfl ?_
          refine wl_off (t := 69) rfl (by decide) rfl ?_
          refine wl_off' (t := 72) rfl (by decide) rfl ?_
          refine wl_off' (t := 72) rfl (by decide) rfl ?_
          refine wl_off' (t := 72) rfl (by decide) rfl ?_
          refine wl_off' (t := 72) rfl (by decide) rfl ?_
          refine wl_off' (t := 72) rfl (by decide) rfl ?_
          refine wl_off' (t := 72) rfl (by decide) rfl ?_
          refine wl_off' (t := 72) rfl (by decide) rfl ?_
          refine wl_off' (t := 72) rfl (by decide) rfl ?_
          refine wl_off' (t := 72) rfl (by decide) rfl ?_
          refine wl_off' (t := 81) rfl (by decide) rfl ?_
          refine wl_off' (t := 81) rfl (by decide) rfl ?_
          refine wl_off' (t := 81) rfl (by decide) rfl ?_
          refine wl_off' (t := 81) rfl (by decide) rfl ?_
          refine wl_off' (t := 81) rfl (by decide) rfl ?_
          refine wl_off' (t := 72) rfl (by decide) rfl ?_
          refine wl_off (t := 69) rfl (by decide) rfl ?_
          refine wl_val (at_pick_f rfl rfl) rfl ?_
          refine wl_val (at_assign rfl) rfl ?_
          refine wl_nil ?_
          refine wk_prune [(4, .bool false)] ⟨rfl, trivial⟩ (fun f1 => ?_)
          refine wk_then ?_
          refine wc_ret ?_
          exact wk_ret1 (x := false) rfl (by decide) rfl so h
  · intro J7 h hJ7
    refine wc_region ?_
    refine wl_val (at_move rfl) rfl ?_
    refine wl_val (at_not rfl) rfl ?_
    refine wl_val (at_move rfl) rfl ?_
    refine bif_ h (fun hb h => ?_) (fun hb h => ?_)
    · refine wl_set (t := 21) (v := .bool true) (congrArg Value.bool hb) ?_; clear hb
      refine wl_off (t := 21) rfl (by decide) rfl ?_
      refine wl_off (t := 21) rfl (by decide) rfl ?_
      refine wl_off' (t := 23) rfl (by decide) rfl ?_
      refine wl_off (t := 21) rfl (by decide) rfl ?_
      refine wl_off (t := 21) rfl (by decide) rfl ?_
      refine wl_off' (t := 26) rfl (by decide) rfl ?_
      refine wl_off' (t := 26) rfl (by decide) rfl ?_
      refine wl_off' (t := 26) rfl (by decide) rfl ?_
      refine wl_off' (t := 26) rfl (by decide) rfl ?_
      refine wl_off' (t := 26) rfl (by decide) rfl ?_
      refine wl_off (t := 21) rfl (by decide) rfl ?_
      refine wl_val (at_pick_t rfl rfl) rfl ?_
      refine wl_val (at_move rfl) rfl ?_
      refine wl_off (t := 34) rfl (by decide) rfl ?_
      refine wl_off (t := 34) rfl (by decide) rfl ?_
      refine wl_off (t := 34) rfl (by decide) rfl ?_
      refine wl_off' (t := 37) rfl (by decide) rfl ?_
      refine wl_off' (t := 37) rfl (by decide) rfl ?_
      refine wl_off' (t := 37) rfl (by decide) rfl ?_
      refine wl_off (t := 34) rfl (by decide) rfl ?_
      refine wl_val (at_pick_t rfl rfl) rfl ?_
      refine wl_nil ?_
      exact wk_prune [(0, .string a0), (1, .string a1), (6, .bool x3), (42, .bool true)] ⟨rfl, rfl, rfl, rfl, trivial⟩ (fun f1 => hJ7 (true) _ f1 h so)
    · refine wl_set (t := 21) (v := .bool false) (congrArg Value.bool hb) ?_; clear hb
      refine wl_on (t := 21) rfl (by decide) rfl ?_
      refine wl_val (at_move rfl) rfl ?_
      refine wl_on (t := 21) rfl (by decide) rfl ?_
      refine wl_val (at_move rfl) rfl ?_
      refine bif_ h (fun hb h => ?_) (fun hb h => ?_)
      · refine wl_set (t := 23) (v := .bool true) (congrArg Value.bool hb) ?_; clear hb
        refine wl_on (t := 23) rfl (by decide) rfl ?_
        refine wl_val (at_move rfl) rfl ?_
        refine wl_on (t := 21) rfl (by decide) rfl ?_
        refine wl_val (at_pick_t rfl rfl) rfl ?_
        refine wl_on (t := 21) rfl (by decide) rfl ?_
        refine wl_val (at_move rfl) rfl ?_
        refine bif_ h (fun hb h => ?_) (fun hb h => ?_)
        · refine wl_set (t := 26) (v := .bool true) (congrArg Value.bool hb) ?_; clear hb
          refine wl_on (t := 26) rfl (by decide) rfl ?_
          refine wl_val (at_move rfl) rfl ?_
          refine wl_on (t := 26) rfl (by decide) rfl ?_
          refine wl_val (at_move rfl) rfl ?_
          refine wl_on (t := 26) rfl (by decide) rfl ?_
          obtain ⟨q27, h⟩ := h
          refine wl_val (at_cat rfl rfl q27) rfl ?_
          refine wl_on (t := 26) rfl (by decide) rfl ?_
          refine wl_callF (marker_Free.calls _ _ _ h) enter16 rfl trivial so ?_; intro x28 w29 h so
          refine wl_on (t := 26) rfl (by decide) rfl ?_
          refine wl_val (at_not rfl) rfl ?_
          refine wl_on (t := 21) rfl (by decide) rfl ?_
          refine wl_val (at_pick_t rfl rfl) rfl ?_
          refine wl_val (at_pick_f rfl rfl) rfl ?_
          refine wl_val (at_move rfl) rfl ?_
          refine bif_ h (fun hb h => ?_) (fun hb h => ?_)
          · refine wl_set (t := 34) (v := .bool true) (congrArg Value.bool hb) ?_; clear hb
            refine wl_off (t := 34) rfl (by decide) rfl ?_
            refine wl_off (t := 34) rfl (by decide) rfl ?_
            refine wl_off (t := 34) rfl (by decide) rfl ?_
            refine wl_off' (t := 37) rfl (by decide) rfl ?_
            refine wl_off' (t := 37) rfl (by decide) rfl ?_
            refine wl_off' (t := 37) rfl (by decide) rfl ?_
            refine wl_off (t := 34) rfl (by decide) rfl ?_
            refine wl_val (at_pick_t rfl rfl) rfl ?_
            refine wl_nil ?_
            exact wk_prune [(0, .string a0), (1, .string a1), (6, .bool x3), (42, .bool true)] ⟨rfl, rfl, rfl, rfl, trivial⟩ (fun f1 => hJ7 (true) _ f1 h so)
          · refine wl_set (t := 34) (v := .bool false) (congrArg Value.bool hb) ?_; clear hb
            refine wl_on (t := 34) rfl (by decide) rfl ?_
            refine wl_val (at_move rfl) rfl ?_
            refine wl_on (t := 34) rfl (by decide) rfl ?_
            refine wl_val (at_not rfl) rfl ?_
            refine wl_on (t := 34) rfl (by decide) rfl ?_
            refine wl_val (at_move rfl) rfl ?_
            refine bif_ h (fun hb h => ?_) (fun hb h => ?_)
            · refine wl_set (t := 37) (v := .bool true) (congrArg Value.bool hb) ?_; clear hb
              refine wl_on (t := 37) rfl (by decide) rfl ?_
              refine wl_val (at_move rfl) rfl ?_
              refine wl_on (t := 37) rfl (by decide) rfl ?_
              refine wl_callF (mosaiclaw02_ffs.calls _ _ _ h) enter22 rfl trivial so ?_; intro x30 w31 h so
              refine wl_on (t := 37) rfl (by decide) rfl ?_
              refine wl_val (at_eql rfl rfl) rfl ?_
              refine wl_on (t := 34) rfl (by decide) rfl ?_
              refine wl_val (at_pick_t rfl rfl) rfl ?_
              refine wl_val (at_pick_f rfl rfl) rfl ?_
              refine wl_nil ?_
              exact wk_prune [(0, .string a0), (1, .string a1), (6, .bool x3), (42, .bool (x30 == 0))] ⟨rfl, rfl, rfl, rfl, trivial⟩ (fun f1 => hJ7 ((x30 == 0)) _ f1 h so)
            · refine wl_set (t := 37) (v := .bool false) (congrArg Value.bool hb) ?_; clear hb
              refine wl_off (t := 37) rfl (by decide) rfl ?_
              refine wl_off (t := 37) rfl (by decide) rfl ?_
              refine wl_off (t := 37) rfl (by decide) rfl ?_
              refine wl_on (t := 34) rfl (by decide) rfl ?_
              refine wl_val (at_pick_f rfl rfl) rfl ?_
              refine wl_val (at_pick_f rfl rfl) rfl ?_
              refine wl_nil ?_
              exact wk_prune [(0, .string a0), (1, .string a1), (6, .bool x3), (42, .bool false)] ⟨rfl, rfl, rfl, rfl, trivial⟩ (fun f1 => hJ7 (false) _ f1 h so)
        · refine wl_set (t := 26) (v := .bool false) (congrArg Value.bool hb) ?_; clear hb
          refine wl_off (t := 26) rfl (by decide) rfl ?_
          refine wl_off (t := 26) rfl (by decide) rfl ?_
          refine wl_off (t := 26) rfl (by decide) rfl ?_
          refine wl_off (t := 26) rfl (by decide) rfl ?_
          refine wl_off (t := 26) rfl (by decide) rfl ?_
          refine wl_on (t := 21) rfl (by decide) rfl ?_
          refine wl_val (at_pick_f rfl rfl) rfl ?_
          refine wl_val (at_pick_f rfl rfl) rfl ?_
          refine wl_val (at_move rfl) rfl ?_
          refine wl_on (t := 34) rfl (by decide) rfl ?_
          refine wl_val (at_move rfl) rfl ?_
          refine wl_on (t := 34) rfl (by decide) rfl ?_
          refine wl_val (at_not rfl) rfl ?_
          refine wl_on (t := 34) rfl (by decide) rfl ?_
          refine wl_val (at_move rfl) rfl ?_
          refine bif_ h (fun hb h => ?_) (fun hb h => ?_)
          · refine wl_set (t := 37) (v := .bool true) (congrArg Value.bool hb) ?_; clear hb
            refine wl_on (t := 37) rfl (by decide) rfl ?_
            refine wl_val (at_move rfl) rfl ?_
            refine wl_on (t := 37) rfl (by decide) rfl ?_
            refine wl_callF (mosaiclaw02_ffs.calls _ _ _ h) enter22 rfl trivial so ?_; intro x32 w33 h so
            refine wl_on (t := 37) rfl (by decide) rfl ?_
            refine wl_val (at_eql rfl rfl) rfl ?_
            refine wl_on (t := 34) rfl (by decide) rfl ?_
            refine wl_val (at_pick_t rfl rfl) rfl ?_
            refine wl_val (at_pick_f rfl rfl) rfl ?_
            refine wl_nil ?_
            exact wk_prune [(0, .string a0), (1, .string a1), (6, .bool x3), (42, .bool (x32 == 0))] ⟨rfl, rfl, rfl, rfl, trivial⟩ (fun f1 => hJ7 ((x32 == 0)) _ f1 h so)
          · refine wl_set (t := 37) (v := .bool false) (congrArg Value.bool hb) ?_; clear hb
            refine wl_off (t := 37) rfl (by decide) rfl ?_
            refine wl_off (t := 37) rfl (by decide) rfl ?_
            refine wl_off (t := 37) rfl (by decide) rfl ?_
            refine wl_on (t := 34) rfl (by decide) rfl ?_
            refine wl_val (at_pick_f rfl rfl) rfl ?_
            refine wl_val (at_pick_f rfl rfl) rfl ?_
            refine wl_nil ?_
            exact wk_prune [(0, .string a0), (1, .string a1), (6, .bool x3), (42, .bool false)] ⟨rfl, rfl, rfl, rfl, trivial⟩ (fun f1 => hJ7 (false) _ f1 h so)
      · refine wl_set (t := 23) (v := .bool false) (congrArg Value.bool hb) ?_; clear hb
        refine wl_off (t := 23) rfl (by decide) rfl ?_
        refine wl_on (t := 21) rfl (by decide) rfl ?_
        refine wl_val (at_pick_f rfl rfl) rfl ?_
        refine wl_on (t := 21) rfl (by decide) rfl ?_
        refine wl_val (at_move rfl) rfl ?_
        refine wl_off (t := 26) rfl (by decide) rfl ?_
        refine wl_off (t := 26) rfl (by decide) rfl ?_
        refine wl_off (t := 26) rfl (by decide) rfl ?_
        refine wl_off (t := 26) rfl (by decide) rfl ?_
        refine wl_off (t := 26) rfl (by decide) rfl ?_
        refine wl_on (t := 21) rfl (by decide) rfl ?_
        refine wl_val (at_pick_f rfl rfl) rfl ?_
        refine wl_val (at_pick_f rfl rfl) rfl ?_
        refine wl_val (at_move rfl) rfl ?_
        refine wl_on (t := 34) rfl (by decide) rfl ?_
        refine wl_val (at_move rfl) rfl ?_
        refine wl_on (t := 34) rfl (by decide) rfl ?_
        refine wl_val (at_not rfl) rfl ?_
        refine wl_on (t := 34) rfl (by decide) rfl ?_
        refine wl_val (at_move rfl) rfl ?_
        refine bif_ h (fun hb h => ?_) (fun hb h => ?_)
        · refine wl_set (t := 37) (v := .bool true) (congrArg Value.bool hb) ?_; clear hb
          refine wl_on (t := 37) rfl (by decide) rfl ?_
          refine wl_val (at_move rfl) rfl ?_
          refine wl_on (t := 37) rfl (by decide) rfl ?_
          refine wl_callF (mosaiclaw02_ffs.calls _ _ _ h) enter22 rfl trivial so ?_; intro x34 w35 h so
          refine wl_on (t := 37) rfl (by decide) rfl ?_
          refine wl_val (at_eql rfl rfl) rfl ?_
          refine wl_on (t := 34) rfl (by decide) rfl ?_
          refine wl_val (at_pick_t rfl rfl) rfl ?_
          refine wl_val (at_pick_f rfl rfl) rfl ?_
          refine wl_nil ?_
          exact wk_prune [(0, .string a0), (1, .string a1), (6, .bool x3), (42, .bool (x34 == 0))] ⟨rfl, rfl, rfl, rfl, trivial⟩ (fun f1 => hJ7 ((x34 == 0)) _ f1 h so)
        · refine wl_set (t := 37) (v := .bool false) (congrArg Value.bool hb) ?_; clear hb
          refine wl_off (t := 37) rfl (by decide) rfl ?_
          refine wl_off (t := 37) rfl (by decide) rfl ?_
          refine wl_off (t := 37) rfl (by decide) rfl ?_
          refine wl_on (t := 34) rfl (by decide) rfl ?_
          refine wl_val (at_pick_f rfl rfl) rfl ?_
          refine wl_val (at_pick_f rfl rfl) rfl ?_
          refine wl_nil ?_
          exact wk_prune [(0, .string a0), (1, .string a1), (6, .bool x3), (42, .bool false)] ⟨rfl, rfl, rfl, rfl, trivial⟩ (fun f1 => hJ7 (false) _ f1 h so)
end Go.Proofs.YtkplpbnifinlbaaDoor.G
