/- Of this text what the row needs. -/
import Derived.Test.YtkplpbnifinlbaaDoorQMarkerRisesKshelf
import Derived.Test.YtkplpbnifinlbaaDoorQMarkerRisesKmarker
import Derived.Test.YtkplpbnifinlbaaDoorQMarkerRisesKmosaiclaw02
namespace Go.Proofs.YtkplpbnifinlbaaDoor.G
open Go.RowKit
set_option linter.unusedVariables false
set_option linter.unusedSimpArgs false
def mosaiclaw02_MarkerRises.enc : Bool → Value := fun r => .bool r
def mosaiclaw02_MarkerRises.s (a0 : ByteArray) (a1 : Int) (H0 : Hp) (Q : Bool → Hp → Prop) : Prop :=
  mosaiclaw02_alive.s H0 (fun x1 H2 => marker_Next.s a0 a1 H2 (fun x3 H4 => Gn [] H4 (fun (b5 : Nat) (H7 : Hp) => Join (fun (s9 : Int) (H10 : Hp) => ∃ k11, Fix (fun (rec16 : Int → Hp → Prop) (s13 : Int) (H14 : Hp) => if decide (s13 < s9) = true then (Join (fun (s18 : Bool) (H19 : Hp) => if s18 = true then (Q false H19) else (rec16 ((IntKind.wrap .i64 (s13 + 1))) H19)) (fun (J17 : Bool → Hp → Prop) => 0 ≤ s13 ∧ s13 < (a0.size : Int) ∧ (if ((bt a0 s13) == 255) = true then (0 ≤ (IntKind.wrap .i64 (s13 + 1)) ∧ (IntKind.wrap .i64 (s13 + 1)) < (a0.size : Int) ∧ (if ((bt a0 (IntKind.wrap .i64 (s13 + 1))) != 0) = true then (0 ≤ (IntKind.wrap .i64 (s13 + 1)) ∧ (IntKind.wrap .i64 (s13 + 1)) < (a0.size : Int) ∧ (J17 (((bt a0 (IntKind.wrap .i64 (s13 + 1))) != 255)) H14)) else (J17 (false) H14))) else (J17 (false) H14)))) else (marker_Next.s a0 x3.1 H14 (fun x26 H27 => Pv [b5] H14 H27 ∧ (Gn [] H27 (fun (b29 : Nat) (H31 : Hp) => if x1 = true then (if (!x3.2.2.2) = true then (if ((x3.1 == 0) && ((x3.2.1 == 0) && (x3.2.2.1 == 0))) = true then (Q true H31) else (if x3.2.2.2 = true then (if x26.2.2.2 = true then (Q ((x26.1 == x3.1) && ((x26.2.1 == x3.2.1) && (x26.2.2.1 == x3.2.2.1))) H31) else (Q false H31)) else (Q false H31))) else (if x3.2.2.2 = true then (if x26.2.2.2 = true then (Q ((x26.1 == x3.1) && ((x26.2.1 == x3.2.1) && (x26.2.2.1 == x3.2.2.1))) H31) else (Q false H31)) else (Q false H31))) else (Q false H31)))))) k11 ((if a1 < 0 then 0 else a1)) H10) (fun (J8 : Int → Hp → Prop) => if x3.2.2.2 = true then (Join (fun (s33 : Bool) (H34 : Hp) => if s33 = true then (Q false H34) else (J8 (x3.1) H34)) (fun (J32 : Bool → Hp → Prop) => if decide (x3.1 < (if a1 < 0 then 0 else a1)) = true then (J32 (true) H7) else (if decide ((a0.size : Int) ≤ (IntKind.wrap .i64 (x3.1 + 1))) = true then (J32 (true) H7) else (if (x3.2.1 != (IntKind.wrap .i64 (x3.1 + 2))) = true then (J32 (true) H7) else (0 ≤ x3.1 ∧ x3.1 < (a0.size : Int) ∧ (if ((bt a0 x3.1) != 255) = true then (J32 (true) H7) else (0 ≤ (IntKind.wrap .i64 (x3.1 + 1)) ∧ (IntKind.wrap .i64 (x3.1 + 1)) < (a0.size : Int) ∧ (if ((bt a0 (IntKind.wrap .i64 (x3.1 + 1))) != x3.2.2.1) = true then (J32 (true) H7) else (if (x3.2.2.1 == 0) = true then (J32 (true) H7) else (J32 ((x3.2.2.1 == 255)) H7)))))))))) else (J8 ((IntKind.wrap .i64 ((a0.size : Int) - 1))) H7)))))
set_option maxRecDepth 20000 in
set_option maxHeartbeats 4000000 in
theorem mosaiclaw02_MarkerRises.calls (a0 : ByteArray) (a1 : Int) (w0 : World) (Q : Bool → Hp → Prop) (h : mosaiclaw02_MarkerRises.s a0 a1 w0.heap Q) :
    Ca Tryd.prog 6 #[.string a0, .int .i64 a1] w0 (Rt mosaiclaw02_MarkerRises.enc Q w0) := by
  refine ca_start (c := _) Tryd.func6 rfl Tryd.ntmps6 rfl ?_
  have so : Sm w0 w0 := Sm.refl w0
  unfold mosaiclaw02_MarkerRises.s at h
  refine wc_prune [(0, .string a0), (1, .int .i64 a1)] ⟨rfl, rfl, trivial⟩ (fun f1 => ?_)
  refine wc_seq ?_
  refine wc_region ?_
  refine wl_val (at_assign rfl) rfl ?_
  refine wl_nil ?_
  refine wk_prune [(0, .string a0), (1, .int .i64 a1)] ⟨rfl, rfl, trivial⟩ (fun f1 => ?_)
  refine wk_then ?_
  refine wc_seq ?_
  refine wc_region ?_
  refine wl_callF (mosaiclaw02_alive.calls _ _ h) enter20 rfl trivial so ?_; intro x1 w2 h so
  refine wl_val (at_assign rfl) rfl ?_
  refine wl_nil ?_
  refine wk_prune [(0, .string a0), (1, .int .i64 a1), (5, .bool x1)] ⟨rfl, rfl, rfl, trivial⟩ (fun f1 => ?_)
  refine wk_then ?_
  refine wc_seq ?_
  refine wc_region ?_
  refine wl_val (at_move rfl) rfl ?_
  refine wl_val (at_move rfl) rfl ?_
  refine wl_callF (marker_Next.calls _ _ _ _ h) enter21 rfl trivial so ?_; intro x3 w4 h so
  refine wl_val (at_move rfl) rfl ?_
  refine wl_val (at_extract rfl rfl) rfl ?_
  refine wl_val (at_extract rfl rfl) rfl ?_
  refine wl_newT (T := 32) (cs := (c32 0 0 0)) (ef_alloc zero32 rfl) rfl so ?_; intro b5 w6 hb_b5 t_b5 k_b5 so
  have g_b5 := Nat.le_of_eq hb_b5.symm
  have hc := k_b5.ch (F := [])
  refine wl_stWT (vs := (c32 x3.1 x3.2.1 x3.2.2.1)) t_b5 (by first | (rw [len32, len32]) | (rw [len32]) | rfl) rfl so (fun q => ef_storeA (p := (⟨b5, 0, none⟩ : Addr)) (cs := (c32 x3.1 x3.2.1 x3.2.2.1)) (by rw [len32]; exact sz32) rfl rfl (one32 _ _ _) q) ?_; intro w7 t_b5 s_w7 so
  replace hc := ch_same hc s_w7 (.inr g_b5)
  refine wl_val (at_assign rfl) rfl ?_
  refine wl_nil ?_
  refine wk_prune [(0, .string a0), (1, .int .i64 a1), (5, .bool x1), (6, .pointer (some (⟨b5, 0, none⟩ : Addr))), (7, .bool x3.2.2.2)] ⟨rfl, rfl, rfl, rfl, rfl, trivial⟩ (fun f1 => ?_)
  refine wk_then ?_
  refine wc_seq ?_
  refine wc_region ?_
  refine wl_val (at_move rfl) rfl ?_
  refine wl_val (at_max rfl rfl) rfl ?_
  refine wl_val (at_assign rfl) rfl ?_
  refine wl_nil ?_
  refine wk_prune [(0, .string a0), (5, .bool x1), (6, .pointer (some (⟨b5, 0, none⟩ : Addr))), (7, .bool x3.2.2.2), (8, .int .i64 (if a1 < 0 then 0 else a1))] ⟨rfl, rfl, rfl, rfl, rfl, trivial⟩ (fun f1 => ?_)
  refine wk_then ?_
  refine wc_seq ?_
  refine wc_region ?_
  refine wl_val (at_move rfl) rfl ?_
  refine wl_val (at_lenS Tryd.underlying9 rfl) rfl ?_
  refine wl_val (at_sub rfl rfl) rfl ?_
  refine wl_val (at_assign rfl) rfl ?_
  refine wl_nil ?_
  refine wk_prune [(0, .string a0), (5, .bool x1), (6, .pointer (some (⟨b5, 0, none⟩ : Addr))), (7, .bool x3.2.2.2), (8, .int .i64 (if a1 < 0 then 0 else a1)), (9, .int .i64 (IntKind.wrap .i64 ((a0.size : Int) - 1)))] ⟨rfl, rfl, rfl, rfl, rfl, rfl, trivial⟩ (fun f1 => ?_)
  refine wk_then ?_
  replace h := h b5 _ hc g_b5 t_b5.lt; clear hc
  refine wc_seq ?_
  refine wc_joinG (w0 := w0) (fun (H : Hp) => Bk H b5 32 (c32 x3.1 x3.2.1 x3.2.2.1) ∧ True) (fun (s9 : Int) => [(0, .string a0), (5, .bool x1), (6, .pointer (some (⟨b5, 0, none⟩ : Addr))), (7, .bool x3.2.2.2), (8, .int .i64 (if a1 < 0 then 0 else a1)), (9, .int .i64 s9)]) (fun (s9 : Int) => []) h ?_ ?_
  · rintro s9 w10 f1 h ⟨t_b5, _⟩ so; refine wk_then ?_
    refine wc_seq ?_
    refine wc_seq ?_
    refine wc_region ?_
    refine wl_val (at_move rfl) rfl ?_
    refine wl_val (at_assign rfl) rfl ?_
    refine wl_nil ?_
    refine wk_prune [(0, .string a0), (5, .bool x1), (6, .pointer (some (⟨b5, 0, none⟩ : Addr))), (7, .bool x3.2.2.2), (9, .int .i64 s9), (10, .int .i64 (if a1 < 0 then 0 else a1))] ⟨rfl, rfl, rfl, rfl, rfl, rfl, trivial⟩ (fun f1 => ?_)
    refine wk_then ?_
    refine wc_block ?_
    obtain ⟨k11, h⟩ := h
    refine wc_loop (fun k a w => ∃ (s13 : Int) (f1 : Nat → Value), a = ac 127 (en f1 [(0, .string a0), (5, .bool x1), (6, .pointer (some (⟨b5, 0, none⟩ : Addr))), (7, .bool x3.2.2.2), (9, .int .i64 s9), (10, .int .i64 s13)]) [] ∧ Sm w0 w ∧ (Bk w.heap b5 32 (c32 x3.1 x3.2.1 x3.2.2.1) ∧ True) ∧ Fix _ k s13 w.heap) k11 ⟨((if a1 < 0 then 0 else a1)), _, ac_again ⟨rfl, rfl, rfl, rfl, rfl, rfl, trivial⟩, so, ⟨t_b5, trivial⟩, h⟩ ?_
    rintro k12 a15 w14 ⟨s13, f1, rfl, so, ⟨t_b5, _⟩, h⟩
    rcases k12 with _ | k12
    · exact h.elim
    replace h := Fix.un h; refine wc_in ?_
    refine wc_seq ?_
    refine wc_seq ?_
    refine wc_region ?_
    refine wl_val (at_move rfl) rfl ?_
    refine wl_val (at_move rfl) rfl ?_
    refine wl_val (at_lss rfl rfl) rfl ?_
    refine wl_nil ?_
    refine wk_prune [(0, .string a0), (5, .bool x1), (6, .pointer (some (⟨b5, 0, none⟩ : Addr))), (7, .bool x3.2.2.2), (9, .int .i64 s9), (10, .int .i64 s13), (78, .bool (decide (s13 < s9)))] ⟨rfl, rfl, rfl, rfl, rfl, rfl, rfl, trivial⟩ (fun f1 => ?_)
    refine wk_then ?_
    refine wc_cond rfl h (fun h => ?_) (fun h => ?_)
    · refine wc_skip ?_
      refine wk_prune [(0, .string a0), (5, .bool x1), (6, .pointer (some (⟨b5, 0, none⟩ : Addr))), (7, .bool x3.2.2.2), (9, .int .i64 s9), (10, .int .i64 s13)] ⟨rfl, rfl, rfl, rfl, rfl, rfl, trivial⟩ (fun f1 => ?_)
      refine wk_then ?_
      refine wc_seq ?_
      refine wc_block ?_
      refine wc_seq ?_
      refine wc_joinG (w0 := w0) (fun (H : Hp) => Bk H b5 32 (c32 x3.1 x3.2.1 x3.2.2.1) ∧ True) (fun (s18 : Bool) => [(0, .string a0), (5, .bool x1), (6, .pointer (some (⟨b5, 0, none⟩ : Addr))), (7, .bool x3.2.2.2), (9, .int .i64 s9), (10, .int .i64 s13), (98, .bool s18)]) (fun (s18 : Bool) => []) h ?_ ?_
      · rintro s18 w19 f1 h ⟨t_b5, _⟩ so; refine wk_then ?_
        refine wc_cond rfl h (fun h => ?_) (fun h => ?_)
        · refine wc_seq ?_
          refine wc_region ?_
          refine wl_val (at_assign rfl) rfl ?_
          refine wl_nil ?_
          refine wk_prune [(4, .bool false)] ⟨rfl, trivial⟩ (fun f1 => ?_)
          refine wk_then ?_
          refine wc_ret ?_
          refine wk_blkR ?_
          refine wk_thenR ?_
          refine wk_thenR ?_
          refine wk_blkR ?_
          refine wk_thenR ?_
          exact wk_ret1 (x := false) rfl (by decide) rfl so h
        · refine wc_skip ?_
          refine wk_blkN ?_
          refine wk_prune [(0, .string a0), (5, .bool x1), (6, .pointer (some (⟨b5, 0, none⟩ : Addr))), (7, .bool x3.2.2.2), (9, .int .i64 s9), (10, .int .i64 s13)] ⟨rfl, rfl, rfl, rfl, rfl, rfl, trivial⟩ (fun f1 => ?_)
          refine wk_then ?_
          refine wc_region ?_
          refine wl_val (at_move rfl) rfl ?_
          refine wl_val (at_add rfl rfl) rfl ?_
          refine wl_val (at_assign rfl) rfl ?_
          refine wl_nil ?_
          exact wk_again ⟨((IntKind.wrap .i64 (s13 + 1))), _, ac_again ⟨rfl, rfl, rfl, rfl, rfl, rfl, trivial⟩, so, ⟨t_b5, trivial⟩, h⟩
      · intro J17 h hJ17
        refine wc_region ?_
        refine wl_val (at_move rfl) rfl ?_
        refine wl_val (at_move rfl) rfl ?_
        obtain ⟨q20, q21, h⟩ := h
        refine wl_val (at_ixS Tryd.underlying9 rfl rfl q20 q21) rfl ?_
        refine wl_val (at_eql rfl rfl) rfl ?_
        refine wl_val (at_move rfl) rfl ?_
        refine bif_ h (fun hb h => ?_) (fun hb h => ?_)
        · refine wl_set (t := 85) (v := .bool true) (congrArg Value.bool hb) ?_; clear hb
          refine wl_on (t := 85) rfl (by decide) rfl ?_
          refine wl_val (at_move rfl) rfl ?_
          refine wl_on (t := 85) rfl (by decide) rfl ?_
          refine wl_val (at_move rfl) rfl ?_
          refine wl_on (t := 85) rfl (by decide) rfl ?_
          refine wl_val (at_add rfl rfl) rfl ?_
          refine wl_on (t := 85) rfl (by decide) rfl ?_
          obtain ⟨q22, q23, h⟩ := h
          refine wl_val (at_ixS Tryd.underlying9 rfl rfl q22 q23) rfl ?_
          refine wl_on (t := 85) rfl (by decide) rfl ?_
          refine wl_val (at_neq rfl rfl) rfl ?_
          refine wl_val (at_pick_t rfl rfl) rfl ?_
          refine wl_val (at_move rfl) rfl ?_
          refine bif_ h (fun hb h => ?_) (fun hb h => ?_)
          · refine wl_set (t := 92) (v := .bool true) (congrArg Value.bool hb) ?_; clear hb
            refine wl_on (t := 92) rfl (by decide) rfl ?_
            refine wl_val (at_move rfl) rfl ?_
            refine wl_on (t := 92) rfl (by decide) rfl ?_
            refine wl_val (at_move rfl) rfl ?_
            refine wl_on (t := 92) rfl (by decide) rfl ?_
            refine wl_val (at_add rfl rfl) rfl ?_
            refine wl_on (t := 92) rfl (by decide) rfl ?_
            obtain ⟨q24, q25, h⟩ := h
            refine wl_val (at_ixS Tryd.underlying9 rfl rfl q24 q25) rfl ?_
            refine wl_on (t := 92) rfl (by decide) rfl ?_
            refine wl_val (at_neq rfl rfl) rfl ?_
            refine wl_val (at_pick_t rfl rfl) rfl ?_
            refine wl_nil ?_
            exact wk_prune [(0, .string a0), (5, .bool x1), (6, .pointer (some (⟨b5, 0, none⟩ : Addr))), (7, .bool x3.2.2.2), (9, .int .i64 s9), (10, .int .i64 s13), (98, .bool ((bt a0 (IntKind.wrap .i64 (s13 + 1))) != 255))] ⟨rfl, rfl, rfl, rfl, rfl, rfl, rfl, trivial⟩ (fun f1 => hJ17 (((bt a0 (IntKind.wrap .i64 (s13 + 1))) != 255)) _ f1 h ⟨t_b5, trivial⟩ so)
          · refine wl_set (t := 92) (v := .bool false) (congrArg Value.bool hb) ?_; clear hb
            refine wl_off (t := 92) rfl (by decide) rfl ?_
            refine wl_off (t := 92) rfl (by decide) rfl ?_
            refine wl_off (t := 92) rfl (by decide) rfl ?_
            refine wl_off (t := 92) rfl (by decide) rfl ?_
            refine wl_off (t := 92) rfl (by decide) rfl ?_
            refine wl_val (at_pick_f rfl rfl) rfl ?_
            refine wl_nil ?_
            exact wk_prune [(0, .string a0), (5, .bool x1), (6, .pointer (some (⟨b5, 0, none⟩ : Addr))), (7, .bool x3.2.2.2), (9, .int .i64 s9), (10, .int .i64 s13), (98, .bool false)] ⟨rfl, rfl, rfl, rfl, rfl, rfl, rfl, trivial⟩ (fun f1 => hJ17 (false) _ f1 h ⟨t_b5, trivial⟩ so)
        · refine wl_set (t := 85) (v := .bool false) (congrArg Value.bool hb) ?_; clear hb
          refine wl_off (t := 85) rfl (by decide) rfl ?_
          refine wl_off (t := 85) rfl (by decide) rfl ?_
          refine wl_off (t := 85) rfl (by decide) rfl ?_
          refine wl_off (t := 85) rfl (by decide) rfl ?_
          refine wl_off (t := 85) rfl (by decide) rfl ?_
          refine wl_val (at_pick_f rfl rfl) rfl ?_
          refine wl_val (at_move rfl) rfl ?_
          refine wl_off (t := 92) rfl (by decide) rfl ?_
          refine wl_off (t := 92) rfl (by decide) rfl ?_
          refine wl_off (t := 92) rfl (by decide) rfl ?_
          refine wl_off (t := 92) rfl (by decide) rfl ?_
          refine wl_off (t := 92) rfl (by decide) rfl ?_
          refine wl_val (at_pick_f rfl rfl) rfl ?_
          refine wl_nil ?_
          exact wk_prune [(0, .string a0), (5, .bool x1), (6, .pointer (some (⟨b5, 0, none⟩ : Addr))), (7, .bool x3.2.2.2), (9, .int .i64 s9), (10, .int .i64 s13), (98, .bool false)] ⟨rfl, rfl, rfl, rfl, rfl, rfl, rfl, trivial⟩ (fun f1 => hJ17 (false) _ f1 h ⟨t_b5, trivial⟩ so)
    · refine wc_exit ?_
      refine wk_thenE ?_
      refine wk_thenE ?_
      refine wk_blkE ?_
      refine wk_prune [(0, .string a0), (5, .bool x1), (6, .pointer (some (⟨b5, 0, none⟩ : Addr))), (7, .bool x3.2.2.2)] ⟨rfl, rfl, rfl, rfl, trivial⟩ (fun f1 => ?_)
      refine wk_then ?_
      refine wc_seq ?_
      refine wc_region ?_
      refine wl_val (at_move rfl) rfl ?_
      refine wl_val (at_fieldAddr Tryd.underlying32 rfl rfl sz3 (by decide) rfl) rfl ?_
      refine wl_val (at_load (v := .int .i64 x3.1) Tryd.underlying3 rfl rfl ((t_b5.cell 0).trans (by first | rfl | simp [List.getElem?_append, ints_len, bools_len]))) rfl ?_
      refine wl_callF (marker_Next.calls _ _ _ _ h) enter21 rfl trivial so ?_; intro x26 w27 h so
      obtain ⟨q28, h⟩ := h
      replace t_b5 := pv_bk q28 t_b5 (by simp)
      refine wl_val (at_move rfl) rfl ?_
      refine wl_val (at_extract rfl rfl) rfl ?_
      refine wl_val (at_extract rfl rfl) rfl ?_
      refine wl_newT (T := 32) (cs := (c32 0 0 0)) (ef_alloc zero32 rfl) rfl so ?_; intro b29 w30 hb_b29 t_b29 k_b29 so
      have g_b29 := Nat.le_of_eq hb_b29.symm
      have hc := k_b29.ch (F := [])
      have n_b5_b29 : b5 ≠ b29 := fun e => by have := t_b5.lt; omega
      replace t_b5 := t_b5.keep k_b29
      refine wl_stWT (vs := (c32 x26.1 x26.2.1 x26.2.2.1)) t_b29 (by first | (rw [len32, len32]) | (rw [len32]) | rfl) rfl so (fun q => ef_storeA (p := (⟨b29, 0, none⟩ : Addr)) (cs := (c32 x26.1 x26.2.1 x26.2.2.1)) (by rw [len32]; exact sz32) rfl rfl (one32 _ _ _) q) ?_; intro w31 t_b29 s_w31 so
      replace t_b5 := t_b5.same s_w31 (n_b5_b29)
      replace hc := ch_same hc s_w31 (.inr g_b29)
      refine wl_val (at_assign rfl) rfl ?_
      refine wl_nil ?_
      refine wk_prune [(5, .bool x1), (6, .pointer (some (⟨b5, 0, none⟩ : Addr))), (7, .bool x3.2.2.2), (11, .pointer (some (⟨b29, 0, none⟩ : Addr))), (12, .bool x26.2.2.2)] ⟨rfl, rfl, rfl, rfl, rfl, trivial⟩ (fun f1 => ?_)
      refine wk_then ?_
      refine wc_seq ?_
      refine wc_region ?_
      refine wl_val (at_move rfl) rfl ?_
      refine wl_val (at_move rfl) rfl ?_
      replace h := h b29 _ hc g_b29 t_b29.lt; clear hc
      refine bif_ h (fun hb h => ?_) (fun hb h => ?_)
      · refine wl_set (t := 107) (v := .bool true) (congrArg Value.bool hb) ?_; clear hb
        refine wl_on (t := 107) rfl (by decide) rfl ?_
        refine wl_val (at_move rfl) rfl ?_
        refine wl_on (t := 107) rfl (by decide) rfl ?_
        refine wl_val (at_not rfl) rfl ?_
        refine wl_on (t := 107) rfl (by decide) rfl ?_
        refine wl_val (at_move rfl) rfl ?_
        refine bif_ h (fun hb h => ?_) (fun hb h => ?_)
        · refine wl_set (t := 110) (v := .bool true) (congrArg Value.bool hb) ?_; clear hb
          refine wl_on (t := 110) rfl (by decide) rfl ?_
          refine wl_val (at_loadA (cs := (c32 x3.1 x3.2.1 x3.2.2.1)) Tryd.underlying32 rfl (by rw [len32]; exact sz32) rfl (ldA_full t_b5)) rfl ?_
          refine wl_on (t := 110) rfl (by decide) rfl ?_
          refine wl_val (at_build (cs := (c32 0 0 0)) (ps := []) rfl (fun w => by simp [Instr.build, Instr.fill, go_sem, Tryd.underlying32, z32] <;> rfl)) rfl ?_
          refine wl_on (t := 110) rfl (by decide) rfl ?_
          refine wl_val (at_eqlA (xs := (c32 x3.1 x3.2.1 x3.2.2.1)) (ys := (c32 0 0 0)) rfl rfl (by kernel_rfl) (eqv_struct Tryd.underlying32 (by kernel_rfl) (eqf_cons rfl (pt_one (v := .int .i64 x3.1) Tryd.underlying3 rfl rfl) (pt_one (v := .int .i64 0) Tryd.underlying3 rfl rfl) (eqv_int Tryd.underlying3) (eqf_cons rfl (pt_one (v := .int .i64 x3.2.1) Tryd.underlying3 rfl rfl) (pt_one (v := .int .i64 0) Tryd.underlying3 rfl rfl) (eqv_int Tryd.underlying3) (eqf_last rfl (pt_one (v := .int .u8 x3.2.2.1) Tryd.underlying5 rfl rfl) (pt_one (v := .int .u8 0) Tryd.underlying5 rfl rfl) (eqv_int Tryd.underlying5)))))) rfl ?_
          refine wl_on (t := 107) rfl (by decide) rfl ?_
          refine wl_val (at_pick_t rfl rfl) rfl ?_
          refine wl_on (t := 107) rfl (by decide) rfl ?_
          refine wl_val (at_move rfl) rfl ?_
          refine bif_ h (fun hb h => ?_) (fun hb h => ?_)
          · refine wl_set (t := 115) (v := .bool true) (congrArg Value.bool hb) ?_; clear hb
            refine wl_off (t := 115) rfl (by decide) rfl ?_
            refine wl_off (t := 115) rfl (by decide) rfl ?_
            refine wl_off' (t := 117) rfl (by decide) rfl ?_
            refine wl_off (t := 115) rfl (by decide) rfl ?_
            refine wl_off (t := 115) rfl (by decide) rfl ?_
            refine wl_off' (t := 120) rfl (by decide) rfl ?_
            refine wl_off' (t := 120) rfl (by decide) rfl ?_
            refine wl_off' (t := 120) rfl (by decide) rfl ?_
            refine wl_off (t := 115) rfl (by decide) rfl ?_
            refine wl_on (t := 107) rfl (by decide) rfl ?_
            refine wl_val (at_pick_t rfl rfl) rfl ?_
            refine wl_val (at_pick_t rfl rfl) rfl ?_
            refine wl_val (at_assign rfl) rfl ?_
            refine wl_nil ?_
            refine wk_prune [(4, .bool true)] ⟨rfl, trivial⟩ (fun f1 => ?_)
            refine wk_then ?_
            refine wc_ret ?_
            exact wk_ret1 (x := true) rfl (by decide) rfl so h
          · refine wl_set (t := 115) (v := .bool false) (congrArg Value.bool hb) ?_; clear hb
            refine wl_on (t := 115) rfl (by decide) rfl ?_
            refine wl_val (at_move rfl) rfl ?_
            refine wl_on (t := 115) rfl (by decide) rfl ?_
            refine wl_val (at_move rfl) rfl ?_
            refine bif_ h (fun hb h => ?_) (fun hb h => ?_)
            · refine wl_set (t := 117) (v := .bool true) (congrArg Value.bool hb) ?_; clear hb
              refine wl_on (t := 117) rfl (by decide) rfl ?_
              refine wl_val (at_move rfl) rfl ?_
              refine wl_on (t := 115) rfl (by decide) rfl ?_
              refine wl_val (at_pick_t rfl rfl) rfl ?_
              refine wl_on (t := 115) rfl (by decide) rfl ?_
              refine wl_val (at_move rfl) rfl ?_
              refine bif_ h (fun hb h => ?_) (fun hb h => ?_)
              · refine wl_set (t := 120) (v := .bool true) (congrArg Value.bool hb) ?_; clear hb
                refine wl_on (t := 120) rfl (by decide) rfl ?_
                refine wl_val (at_loadA (cs := (c32 x26.1 x26.2.1 x26.2.2.1)) Tryd.underlying32 rfl (by rw [len32]; exact sz32) rfl (ldA_full t_b29)) rfl ?_
                refine wl_on (t := 120) rfl (by decide) rfl ?_
                refine wl_val (at_loadA (cs := (c32 x3.1 x3.2.1 x3.2.2.1)) Tryd.underlying32 rfl (by rw [len32]; exact sz32) rfl (ldA_full t_b5)) rfl ?_
                refine wl_on (t := 120) rfl (by decide) rfl ?_
                refine wl_val (at_eqlA (xs := (c32 x26.1 x26.2.1 x26.2.2.1)) (ys := (c32 x3.1 x3.2.1 x3.2.2.1)) rfl rfl (by kernel_rfl) (eqv_struct Tryd.underlying32 (by kernel_rfl) (eqf_cons rfl (pt_one (v := .int .i64 x26.1) Tryd.underlying3 rfl rfl) (pt_one (v := .int .i64 x3.1) Tryd.underlying3 rfl rfl) (eqv_int Tryd.underlying3) (eqf_cons rfl (pt_one (v := .int .i64 x26.2.1) Tryd.underlying3 rfl rfl) (pt_one (v := .int .i64 x3.2.1) Tryd.underlying3 rfl rfl) (eqv_int Tryd.underlying3) (eqf_last rfl (pt_one (v := .int .u8 x26.2.2.1) Tryd.underlying5 rfl rfl) (pt_one (v := .int .u8 x3.2.2.1) Tryd.underlying5 rfl rfl) (eqv_int Tryd.underlying5)))))) rfl ?_
                refine wl_on (t := 115) rfl (by decide) rfl ?_
                refine wl_val (at_pick_t rfl rfl) rfl ?_
                refine wl_on (t := 107) rfl (by decide) rfl ?_
                refine wl_val (at_pick_f rfl rfl) rfl ?_
                refine wl_val (at_pick_t rfl rfl) rfl ?_
                refine wl_val (at_assign rfl) rfl ?_
                refine wl_nil ?_
                refine wk_prune [(4, .bool ((x26.1 == x3.1) && ((x26.2.1 == x3.2.1) && (x26.2.2.1 == x3.2.2.1))))] ⟨rfl, trivial⟩ (fun f1 => ?_)
                refine wk_then ?_
                refine wc_ret ?_
                exact wk_ret1 (x := ((x26.1 == x3.1) && ((x26.2.1 == x3.2.1) && (x26.2.2.1 == x3.2.2.1)))) rfl (by decide) rfl so h
              · refine wl_set (t := 120) (v := .bool false) (congrArg Value.bool hb) ?_; clear hb
                refine wl_off (t := 120) rfl (by decide) rfl ?_
                refine wl_off (t := 120) rfl (by decide) rfl ?_
                refine wl_off (t := 120) rfl (by decide) rfl ?_
                refine wl_on (t := 115) rfl (by decide) rfl ?_
                refine wl_val (at_pick_f rfl rfl) rfl ?_
                refine wl_on (t := 107) rfl (by decide) rfl ?_
                refine wl_val (at_pick_f rfl rfl) rfl ?_
                refine wl_val (at_pick_t rfl rfl) rfl ?_
                refine wl_val (at_assign rfl) rfl ?_
                refine wl_nil ?_
                refine wk_prune [(4, .bool false)] ⟨rfl, trivial⟩ (fun f1 => ?_)
                refine wk_then ?_
                refine wc_ret ?_
                exact wk_ret1 (x := false) rfl (by decide) rfl so h
            · refine wl_set (t := 117) (v := .bool false) (congrArg Value.bool hb) ?_; clear hb
              refine wl_off (t := 117) rfl (by decide) rfl ?_
              refine wl_on (t := 115) rfl (by decide) rfl ?_
              refine wl_val (at_pick_f rfl rfl) rfl ?_
              refine wl_on (t := 115) rfl (by decide) rfl ?_
              refine wl_val (at_move rfl) rfl ?_
              refine wl_off (t := 120) rfl (by decide) rfl ?_
              refine wl_off (t := 120) rfl (by decide) rfl ?_
              refine wl_off (t := 120) rfl (by decide) rfl ?_
              refine wl_on (t := 115) rfl (by decide) rfl ?_
              refine wl_val (at_pick_f rfl rfl) rfl ?_
              refine wl_on (t := 107) rfl (by decide) rfl ?_
              refine wl_val (at_pick_f rfl rfl) rfl ?_
              refine wl_val (at_pick_t rfl rfl) rfl ?_
              refine wl_val (at_assign rfl) rfl ?_
              refine wl_nil ?_
              refine wk_prune [(4, .bool false)] ⟨rfl, trivial⟩ (fun f1 => ?_)
              refine wk_then ?_
              refine wc_ret ?_
              exact wk_ret1 (x := false) rfl (by decide) rfl so h
        · refine wl_set (t := 110) (v := .bool false) (congrArg Value.bool hb) ?_; clear hb
          refine wl_off (t := 110) rfl (by decide) rfl ?_
          refine wl_off (t := 110) rfl (by decide) rfl ?_
          refine wl_off (t := 110) rfl (by decide) rfl ?_
          refine wl_on (t := 107) rfl (by decide) rfl ?_
          refine wl_val (at_pick_f rfl rfl) rfl ?_
          refine wl_on (t := 107) rfl (by decide) rfl ?_
          refine wl_val (at_move rfl) rfl ?_
          refine wl_on (t := 115) rfl (by decide) rfl ?_
          refine wl_val (at_move rfl) rfl ?_
          refine wl_on (t := 115) rfl (by decide) rfl ?_
          refine wl_val (at_move rfl) rfl ?_
          refine bif_ h (fun hb h => ?_) (fun hb h => ?_)
          · refine wl_set (t := 117) (v := .bool true) (congrArg Value.bool hb) ?_; clear hb
            refine wl_on (t := 117) rfl (by decide) rfl ?_
            refine wl_val (at_move rfl) rfl ?_
            refine wl_on (t := 115) rfl (by decide) rfl ?_
            refine wl_val (at_pick_t rfl rfl) rfl ?_
            refine wl_on (t := 115) rfl (by decide) rfl ?_
            refine wl_val (at_move rfl) rfl ?_
            refine bif_ h (fun hb h => ?_) (fun hb h => ?_)
            · refine wl_set (t := 120) (v := .bool true) (congrArg Value.bool hb) ?_; clear hb
              refine wl_on (t := 120) rfl (by decide) rfl ?_
              refine wl_val (at_loadA (cs := (c32 x26.1 x26.2.1 x26.2.2.1)) Tryd.underlying32 rfl (by rw [len32]; exact sz32) rfl (ldA_full t_b29)) rfl ?_
              refine wl_on (t := 120) rfl (by decide) rfl ?_
              refine wl_val (at_loadA (cs := (c32 x3.1 x3.2.1 x3.2.2.1)) Tryd.underlying32 rfl (by rw [len32]; exact sz32) rfl (ldA_full t_b5)) rfl ?_
              refine wl_on (t := 120) rfl (by decide) rfl ?_
              refine wl_val (at_eqlA (xs := (c32 x26.1 x26.2.1 x26.2.2.1)) (ys := (c32 x3.1 x3.2.1 x3.2.2.1)) rfl rfl (by kernel_rfl) (eqv_struct Tryd.underlying32 (by kernel_rfl) (eqf_cons rfl (pt_one (v := .int .i64 x26.1) Tryd.underlying3 rfl rfl) (pt_one (v := .int .i64 x3.1) Tryd.underlying3 rfl rfl) (eqv_int Tryd.underlying3) (eqf_cons rfl (pt_one (v := .int .i64 x26.2.1) Tryd.underlying3 rfl rfl) (pt_one (v := .int .i64 x3.2.1) Tryd.underlying3 rfl rfl) (eqv_int Tryd.underlying3) (eqf_last rfl (pt_one (v := .int .u8 x26.2.2.1) Tryd.underlying5 rfl rfl) (pt_one (v := .int .u8 x3.2.2.1) Tryd.underlying5 rfl rfl) (eqv_int Tryd.underlying5)))))) rfl ?_
              refine wl_on (t := 115) rfl (by decide) rfl ?_
              refine wl_val (at_pick_t rfl rfl) rfl ?_
              refine wl_on (t := 107) rfl (by decide) rfl ?_
              refine wl_val (at_pick_f rfl rfl) rfl ?_
              refine wl_val (at_pick_t rfl rfl) rfl ?_
              refine wl_val (at_assign rfl) rfl ?_
              refine wl_nil ?_
              refine wk_prune [(4, .bool ((x26.1 == x3.1) && ((x26.2.1 == x3.2.1) && (x26.2.2.1 == x3.2.2.1))))] ⟨rfl, trivial⟩ (fun f1 => ?_)
              refine wk_then ?_
              refine wc_ret ?_
              exact wk_ret1 (x := ((x26.1 == x3.1) && ((x26.2.1 == x3.2.1) && (x26.2.2.1 == x3.2.2.1)))) rfl (by decide) rfl so h
            · refine wl_set (t := 120) (v := .bool false) (congrArg Value.bool hb) ?_; clear hb
              refine wl_off (t := 120) rfl (by decide) rfl ?_
              refine wl_off (t := 120) rfl (by decide) rfl ?_
              refine wl_off (t := 120) rfl (by decide) rfl ?_
              refine wl_on (t := 115) rfl (by decide) rfl ?_
              refine wl_val (at_pick_f rfl rfl) rfl ?_
              refine wl_on (t := 107) rfl (by decide) rfl ?_
              refine wl_val (at_pick_f rfl rfl) rfl ?_
              refine wl_val (at_pick_t rfl rfl) rfl ?_
              refine wl_val (at_assign rfl) rfl ?_
              refine wl_nil ?_
              refine wk_prune [(4, .bool false)] ⟨rfl, trivial⟩ (fun f1 => ?_)
              refine wk_then ?_
              refine wc_ret ?_
              exact wk_ret1 (x := false) rfl (by decide) rfl so h
          · refine wl_set (t := 117) (v := .bool false) (congrArg Value.bool hb) ?_; clear hb
            refine wl_off (t := 117) rfl (by decide) rfl ?_
            refine wl_on (t := 115) rfl (by decide) rfl ?_
            refine wl_val (at_pick_f rfl rfl) rfl ?_
            refine wl_on (t := 115) rfl (by decide) rfl ?_
            refine wl_val (at_move rfl) rfl ?_
            refine wl_off (t := 120) rfl (by decide) rfl ?_
            refine wl_off (t := 120) rfl (by decide) rfl ?_
            refine wl_off (t := 120) rfl (by decide) rfl ?_
            refine wl_on (t := 115) rfl (by decide) rfl ?_
            refine wl_val (at_pick_f rfl rfl) rfl ?_
            refine wl_on (t := 107) rfl (by decide) rfl ?_
            refine wl_val (at_pick_f rfl rfl) rfl ?_
            refine wl_val (at_pick_t rfl rfl) rfl ?_
            refine wl_val (at_assign rfl) rfl ?_
            refine wl_nil ?_
            refine wk_prune [(4, .bool false)] ⟨rfl, trivial⟩ (fun f1 => ?_)
            refine wk_then ?_
            refine wc_ret ?_
            exact wk_ret1 (x := false) rfl (by decide) rfl so h
      · refine wl_set (t := 107) (v := .bool false) (congrArg Value.bool hb) ?_; clear hb
        refine wl_off (t := 107) rfl (by decide) rfl ?_
        refine wl_off (t := 107) rfl (by decide) rfl ?_
        refine wl_off (t := 107) rfl (by decide) rfl ?_
        refine wl_off' (t := 110) rfl (by decide) rfl ?_
        refine wl_off' (t := 110) rfl (by decide) rfl ?_
        refine wl_off' (t := 110) rfl (by decide) rfl ?_
        refine wl_off (t := 107) rfl (by decide) rfl ?_
        refine wl_off (t := 107) rfl (by decide) rfl ?_
        refine wl_off' (t := 115) rfl (by decide) rfl ?_
        refine wl_off' (t := 115) rfl (by decide) rfl ?_
        refine wl_off' (t := 117) rfl (by decide) rfl ?_
        refine wl_off' (t := 115) rfl (by decide) rfl ?_
        refine wl_off' (t := 115) rfl (by decide) rfl ?_
        refine wl_off' (t := 120) rfl (by decide) rfl ?_
        refine wl_off' (t := 120) rfl (by decide) rfl ?_
        refine wl_off' (t := 120) rfl (by decide) rfl ?_
        refine wl_off' (t := 115) rfl (by decide) rfl ?_
        refine wl_off (t := 107) rfl (by decide) rfl ?_
        refine wl_val (at_pick_f rfl rfl) rfl ?_
        refine wl_val (at_assign rfl) rfl ?_
        refine wl_nil ?_
        refine wk_prune [(4, .bool false)] ⟨rfl, trivial⟩ (fun f1 => ?_)
        refine wk_then ?_
        refine wc_ret ?_
        exact wk_ret1 (x := false) rfl (by decide) rfl so h
  · intro J8 h hJ8
    refine wc_seq ?_
    refine wc_region ?_
    refine wl_val (at_move rfl) rfl ?_
    refine wl_nil ?_
    refine wk_prune [(0, .string a0), (5, .bool x1), (6, .pointer (some (⟨b5, 0, none⟩ : Addr))), (7, .bool x3.2.2.2), (8, .int .i64 (if a1 < 0 then 0 else a1)), (9, .int .i64 (IntKind.wrap .i64 ((a0.size : Int) - 1))), (25, .bool x3.2.2.2)] ⟨rfl, rfl, rfl, rfl, rfl, rfl, rfl, trivial⟩ (fun f1 => ?_)
    refine wk_then ?_
    refine wc_cond rfl h (fun h => ?_) (fun h => ?_)
    · refine wc_seq ?_
      refine wc_seq ?_
      refine wc_joinG (w0 := w0) (fun (H : Hp) => Bk H b5 32 (c32 x3.1 x3.2.1 x3.2.2.1) ∧ True) (fun (s33 : Bool) => [(0, .string a0), (5, .bool x1), (6, .pointer (some (⟨b5, 0, none⟩ : Addr))), (7, .bool x3.2.2.2), (8, .int .i64 (if a1 < 0 then 0 else a1)), (72, .bool s33)]) (fun (s33 : Bool) => []) h ?_ ?_
      · rintro s33 w34 f1 h ⟨t_b5, _⟩ so; refine wk_then ?_
        refine wc_cond rfl h (fun h => ?_) (fun h => ?_)
        · refine wc_seq ?_
          refine wc_region ?_
          refine wl_val (at_assign rfl) rfl ?_
          refine wl_nil ?_
          refine wk_prune [(4, .bool false)] ⟨rfl, trivial⟩ (fun f1 => ?_)
          refine wk_then ?_
          refine wc_ret ?_
          refine wk_thenR ?_
          refine wk_thenR ?_
          exact wk_ret1 (x := false) rfl (by decide) rfl so h
        · refine wc_skip ?_
          refine wk_prune [(0, .string a0), (5, .bool x1), (6, .pointer (some (⟨b5, 0, none⟩ : Addr))), (7, .bool x3.2.2.2), (8, .int .i64 (if a1 < 0 then 0 else a1))] ⟨rfl, rfl, rfl, rfl, rfl, trivial⟩ (fun f1 => ?_)
          refine wk_then ?_
          refine wc_region ?_
          refine wl_val (at_fieldAddr Tryd.underlying32 rfl rfl sz3 (by decide) rfl) rfl ?_
          refine wl_val (at_load (v := .int .i64 x3.1) Tryd.underlying3 rfl rfl ((t_b5.cell 0).trans (by first | rfl | simp [List.getElem?_append, ints_len, bools_len]))) rfl ?_
          refine wl_val (at_assign rfl) rfl ?_
          refine wl_nil ?_
          exact wk_prune [(0, .string a0), (5, .bool x1), (6, .pointer (some (⟨b5, 0, none⟩ : Addr))), (7, .bool x3.2.2.2), (8, .int .i64 (if a1 < 0 then 0 else a1)), (9, .int .i64 x3.1)] ⟨rfl, rfl, rfl, rfl, rfl, rfl, trivial⟩ (fun f1 => hJ8 (x3.1) _ f1 h ⟨t_b5, trivial⟩ so)
      · intro J32 h hJ32
        refine wc_wo [0, 1, 0, 7, 15, 31, 63, 127, 31, 287, 1023, 2047, 4095, 8191, 16383, 8191, 40959, 106495, 262143, 524287, 1048575, 2097151, 2097151, 6291455, 16777215, 33554431, 67108863, 134217727, 268435455, 268435455, 805306367, 1879048191, 4294967295, 268435455, 8858370047, 34359738367, 68719476735, 137438953471, 274877906943, 549755813887, 1099511627775, 2199023255551, 4398046511103, 8796093022207, 17592186044415, 35184372088831, 70368744177663] mixed (by kernel_rfl) so ?_; intro w35 hw so; rw [← hw] at h t_b5; clear hw
        refine wo_pure (m' := 1) 0 rfl (by kernel_rfl) rfl rfl (fun H => at_fieldAddr Tryd.underlying32 rfl rfl sz3 (by decide) rfl) ?_
        refine wo_pure (m' := 5) 2 rfl (by kernel_rfl) rfl rfl (fun H => at_move rfl) ?_
        have q36 : cellAt w35.heap (⟨b5, 0, none⟩ : Addr) = some (.int .i64 x3.1) := (t_b5.cell 0).trans (by first | rfl | simp [List.getElem?_append, ints_len, bools_len])
        refine wo_load (m' := 7) 1 (fun H => cellAt H (⟨b5, 0, none⟩ : Addr) = some (.int .i64 x3.1)) rfl (by kernel_rfl) rfl rfl (fun H q36 => at_load (v := .int .i64 x3.1) Tryd.underlying3 rfl rfl (q36)) q36 ?_
        refine wo_pure (m' := 15) 3 rfl (by kernel_rfl) rfl rfl (fun H => at_lss rfl rfl) ?_
        refine wo_pure (m' := 31) 4 rfl (by kernel_rfl) rfl rfl (fun H => at_move rfl) ?_
        refine bif_ h (fun hb h => ?_) (fun hb h => ?_)
        · refine wo_set (t := 30) (v := .bool true) (congrArg Value.bool hb) ?_; clear hb
          refine wo_off (m' := 63) 5 rfl (by kernel_rfl) rfl (t := 30) rfl (by decide) rfl ?_
          refine wo_off (m' := 127) 6 rfl (by kernel_rfl) rfl (t := 30) rfl (by decide) rfl ?_
          refine wo_off (m' := 255) 7 rfl (by kernel_rfl) rfl (t := 30) rfl (by decide) rfl ?_
          refine wo_off (m' := 511) 8 rfl (by kernel_rfl) rfl (t := 30) rfl (by decide) rfl ?_
          refine wo_off (m' := 1023) 9 rfl (by kernel_rfl) rfl (t := 30) rfl (by decide) rfl ?_
          refine wo_off (m' := 2047) 10 rfl (by kernel_rfl) rfl (t := 30) rfl (by decide) rfl ?_
          refine wo_pure (m' := 4095) 11 rfl (by kernel_rfl) rfl rfl (fun H => at_pick_t rfl rfl) ?_
          refine wo_pure (m' := 8191) 12 rfl (by kernel_rfl) rfl rfl (fun H => at_move rfl) ?_
          refine wo_off (m' := 16383) 13 rfl (by kernel_rfl) rfl (t := 38) rfl (by decide) rfl ?_
          refine wo_off (m' := 32767) 14 rfl (by kernel_rfl) rfl (t := 38) rfl (by decide) rfl ?_
          refine wo_off (m' := 65535) 15 rfl (by kernel_rfl) rfl (t := 38) rfl (by decide) rfl ?_
          refine wo_off (m' := 131071) 16 rfl (by kernel_rfl) rfl (t := 38) rfl (by decide) rfl ?_
          refine wo_off (m' := 262143) 17 rfl (by kernel_rfl) rfl (t := 38) rfl (by decide) rfl ?_
          refine wo_off (m' := 524287) 18 rfl (by kernel_rfl) rfl (t := 38) rfl (by decide) rfl ?_
          refine wo_pure (m' := 1048575) 19 rfl (by kernel_rfl) rfl rfl (fun H => at_pick_t rfl rfl) ?_
          refine wo_pure (m' := 2097151) 20 rfl (by kernel_rfl) rfl rfl (fun H => at_move rfl) ?_
          refine wo_off (m' := 4194303) 21 rfl (by kernel_rfl) rfl (t := 46) rfl (by decide) rfl ?_
          refine wo_off (m' := 8388607) 22 rfl (by kernel_rfl) rfl (t := 46) rfl (by decide) rfl ?_
          refine wo_off (m' := 16777215) 23 rfl (by kernel_rfl) rfl (t := 46) rfl (by decide) rfl ?_
          refine wo_off (m' := 33554431) 24 rfl (by kernel_rfl) rfl (t := 46) rfl (by decide) rfl ?_
          refine wo_off (m' := 67108863) 25 rfl (by kernel_rfl) rfl (t := 46) rfl (by decide) rfl ?_
          refine wo_pure (m' := 134217727) 26 rfl (by kernel_rfl) rfl rfl (fun H => at_pick_t rfl rfl) ?_
          refine wo_pure (m' := 268435455) 27 rfl (by kernel_rfl) rfl rfl (fun H => at_move rfl) ?_
          refine wo_off (m' := 536870911) 28 rfl (by kernel_rfl) rfl (t := 53) rfl (by decide) rfl ?_
          refine wo_off (m' := 1073741823) 29 rfl (by kernel_rfl) rfl (t := 53) rfl (by decide) rfl ?_
          refine wo_off (m' := 2147483647) 30 rfl (by kernel_rfl) rfl (t := 53) rfl (by decide) rfl ?_
          refine wo_off (m' := 4294967295) 31 rfl (by kernel_rfl) rfl (t := 53) rfl (by decide) rfl ?_
          refine wo_off (m' := 8589934591) 32 rfl (by kernel_rfl) rfl (t := 53) rfl (by decide) rfl ?_
          refine wo_off (m' := 17179869183) 33 rfl (by kernel_rfl) rfl (t := 53) rfl (by decide) rfl ?_
          refine wo_off (m' := 34359738367) 34 rfl (by kernel_rfl) rfl (t := 53) rfl (by decide) rfl ?_
          refine wo_off (m' := 68719476735) 35 rfl (by kernel_rfl) rfl (t := 53) rfl (by decide) rfl ?_
          refine wo_pure (m' := 137438953471) 36 rfl (by kernel_rfl) rfl rfl (fun H => at_pick_t rfl rfl) ?_
          refine wo_pure (m' := 274877906943) 37 rfl (by kernel_rfl) rfl rfl (fun H => at_move rfl) ?_
          refine wo_off (m' := 549755813887) 38 rfl (by kernel_rfl) rfl (t := 63) rfl (by decide) rfl ?_
          refine wo_off (m' := 1099511627775) 39 rfl (by kernel_rfl) rfl (t := 63) rfl (by decide) rfl ?_
          refine wo_off (m' := 2199023255551) 40 rfl (by kernel_rfl) rfl (t := 63) rfl (by decide) rfl ?_
          refine wo_pure (m' := 4398046511103) 41 rfl (by kernel_rfl) rfl rfl (fun H => at_pick_t rfl rfl) ?_
          refine wo_pure (m' := 8796093022207) 42 rfl (by kernel_rfl) rfl rfl (fun H => at_move rfl) ?_
          refine wo_off (m' := 17592186044415) 43 rfl (by kernel_rfl) rfl (t := 68) rfl (by decide) rfl ?_
          refine wo_off (m' := 35184372088831) 44 rfl (by kernel_rfl) rfl (t := 68) rfl (by decide) rfl ?_
          refine wo_off (m' := 70368744177663) 45 rfl (by kernel_rfl) rfl (t := 68) rfl (by decide) rfl ?_
          refine wo_pure (m' := 140737488355327) 46 rfl (by kernel_rfl) rfl rfl (fun H => at_pick_t rfl rfl) ?_
          refine wo_done (by kernel_rfl) ?_
          exact wk_prune [(0, .string a0), (5, .bool x1), (6, .pointer (some (⟨b5, 0, none⟩ : Addr))), (7, .bool x3.2.2.2), (8, .int .i64 (if a1 < 0 then 0 else a1)), (72, .bool true)] ⟨rfl, rfl, rfl, rfl, rfl, rfl, trivial⟩ (fun f1 => hJ32 (true) _ f1 h ⟨t_b5, trivial⟩ so)
        · refine wo_set (t := 30) (v := .bool false) (congrArg Value.bool hb) ?_; clear hb
          refine wo_pureG (m' := 63) 5 rfl (by kernel_rfl) rfl (t := 30) rfl (by decide) rfl (fun H => at_fieldAddr Tryd.underlying32 rfl rfl sz3 (by decide) rfl) ?_
          refine wo_pureG (m' := 319) 8 rfl (by kernel_rfl) rfl (t := 30) rfl (by decide) rfl (fun H => at_move rfl) ?_
          refine wo_pureG (m' := 831) 9 rfl (by kernel_rfl) rfl (t := 30) rfl (by decide) rfl (fun H => at_lenS Tryd.underlying9 rfl) ?_
          have q37 : cellAt w35.heap (⟨b5, 0, none⟩ : Addr) = some (.int .i64 x3.1) := (t_b5.cell 0).trans (by first | rfl | simp [List.getElem?_append, ints_len, bools_len])
          refine wo_loadG (m' := 895) 6 (fun H => cellAt H (⟨b5, 0, none⟩ : Addr) = some (.int .i64 x3.1)) rfl (by kernel_rfl) rfl (t := 30) rfl (by decide) rfl (fun H q37 => at_load (v := .int .i64 x3.1) Tryd.underlying3 rfl rfl (q37)) q37 ?_
          refine wo_pureG (m' := 1023) 7 rfl (by kernel_rfl) rfl (t := 30) rfl (by decide) rfl (fun H => at_add rfl rfl) ?_
          refine wo_pureG (m' := 2047) 10 rfl (by kernel_rfl) rfl (t := 30) rfl (by decide) rfl (fun H => at_geq rfl rfl) ?_
          refine wo_pure (m' := 4095) 11 rfl (by kernel_rfl) rfl rfl (fun H => at_pick_f rfl rfl) ?_
          refine wo_pure (m' := 8191) 12 rfl (by kernel_rfl) rfl rfl (fun H => at_move rfl) ?_
          refine bif_ h (fun hb h => ?_) (fun hb h => ?_)
          · refine wo_set (t := 38) (v := .bool true) (congrArg Value.bool hb) ?_; clear hb
            refine wo_off (m' := 16383) 13 rfl (by kernel_rfl) rfl (t := 38) rfl (by decide) rfl ?_
            refine wo_off (m' := 32767) 14 rfl (by kernel_rfl) rfl (t := 38) rfl (by decide) rfl ?_
            refine wo_off (m' := 65535) 15 rfl (by kernel_rfl) rfl (t := 38) rfl (by decide) rfl ?_
            refine wo_off (m' := 131071) 16 rfl (by kernel_rfl) rfl (t := 38) rfl (by decide) rfl ?_
            refine wo_off (m' := 262143) 17 rfl (by kernel_rfl) rfl (t := 38) rfl (by decide) rfl ?_
            refine wo_off (m' := 524287) 18 rfl (by kernel_rfl) rfl (t := 38) rfl (by decide) rfl ?_
            refine wo_pure (m' := 1048575) 19 rfl (by kernel_rfl) rfl rfl (fun H => at_pick_t rfl rfl) ?_
            refine wo_pure (m' := 2097151) 20 rfl (by kernel_rfl) rfl rfl (fun H => at_move rfl) ?_
            refine wo_off (m' := 4194303) 21 rfl (by kernel_rfl) rfl (t := 46) rfl (by decide) rfl ?_
            refine wo_off (m' := 8388607) 22 rfl (by kernel_rfl) rfl (t := 46) rfl (by decide) rfl ?_
            refine wo_off (m' := 16777215) 23 rfl (by kernel_rfl) rfl (t := 46) rfl (by decide) rfl ?_
            refine wo_off (m' := 33554431) 24 rfl (by kernel_rfl) rfl (t := 46) rfl (by decide) rfl ?_
            refine wo_off (m' := 67108863) 25 rfl (by kernel_rfl) rfl (t := 46) rfl (by decide) rfl ?_
            refine wo_pure (m' := 134217727) 26 rfl (by kernel_rfl) rfl rfl (fun H => at_pick_t rfl rfl) ?_
            refine wo_pure (m' := 268435455) 27 rfl (by kernel_rfl) rfl rfl (fun H => at_move rfl) ?_
            refine wo_off (m' := 536870911) 28 rfl (by kernel_rfl) rfl (t := 53) rfl (by decide) rfl ?_
            refine wo_off (m' := 1073741823) 29 rfl (by kernel_rfl) rfl (t := 53) rfl (by decide) rfl ?_
            refine wo_off (m' := 2147483647) 30 rfl (by kernel_rfl) rfl (t := 53) rfl (by decide) rfl ?_
            refine wo_off (m' := 4294967295) 31 rfl (by kernel_rfl) rfl (t := 53) rfl (by decide) rfl ?_
            refine wo_off (m' := 8589934591) 32 rfl (by kernel_rfl) rfl (t := 53) rfl (by decide) rfl ?_
            refine wo_off (m' := 17179869183) 33 rfl (by kernel_rfl) rfl (t := 53) rfl (by decide) rfl ?_
            refine wo_off (m' := 34359738367) 34 rfl (by kernel_rfl) rfl (t := 53) rfl (by decide) rfl ?_
            refine wo_off (m' := 68719476735) 35 rfl (by kernel_rfl) rfl (t := 53) rfl (by decide) rfl ?_
            refine wo_pure (m' := 137438953471) 36 rfl (by kernel_rfl) rfl rfl (fun H => at_pick_t rfl rfl) ?_
            refine wo_pure (m' := 274877906943) 37 rfl (by kernel_rfl) rfl rfl (fun H => at_move rfl) ?_
            refine wo_off (m' := 549755813887) 38 rfl (by kernel_rfl) rfl (t := 63) rfl (by decide) rfl ?_
            refine wo_off (m' := 1099511627775) 39 rfl (by kernel_rfl) rfl (t := 63) rfl (by decide) rfl ?_
            refine wo_off (m' := 2199023255551) 40 rfl (by kernel_rfl) rfl (t := 63) rfl (by decide) rfl ?_
            refine wo_pure (m' := 4398046511103) 41 rfl (by kernel_rfl) rfl rfl (fun H => at_pick_t rfl rfl) ?_
            refine wo_pure (m' := 8796093022207) 42 rfl (by kernel_rfl) rfl rfl (fun H => at_move rfl) ?_
            refine wo_off (m' := 17592186044415) 43 rfl (by kernel_rfl) rfl (t := 68) rfl (by decide) rfl ?_
            refine wo_off (m' := 35184372088831) 44 rfl (by kernel_rfl) rfl (t := 68) rfl (by decide) rfl ?_
            refine wo_off (m' := 70368744177663) 45 rfl (by kernel_rfl) rfl (t := 68) rfl (by decide) rfl ?_
            refine wo_pure (m' := 140737488355327) 46 rfl (by kernel_rfl) rfl rfl (fun H => at_pick_t rfl rfl) ?_
            refine wo_done (by kernel_rfl) ?_
            exact wk_prune [(0, .string a0), (5, .bool x1), (6, .pointer (some (⟨b5, 0, none⟩ : Addr))), (7, .bool x3.2.2.2), (8, .int .i64 (if a1 < 0 then 0 else a1)), (72, .bool true)] ⟨rfl, rfl, rfl, rfl, rfl, rfl, trivial⟩ (fun f1 => hJ32 (true) _ f1 h ⟨t_b5, trivial⟩ so)
          · refine wo_set (t := 38) (v := .bool false) (congrArg Value.bool hb) ?_; clear hb
            refine wo_pureG (m' := 16383) 13 rfl (by kernel_rfl) rfl (t := 38) rfl (by decide) rfl (fun H => at_fieldAddr Tryd.underlying32 rfl rfl sz3 (by decide) rfl) ?_
            refine wo_pureG (m' := 49151) 15 rfl (by kernel_rfl) rfl (t := 38) rfl (by decide) rfl (fun H => at_fieldAddr Tryd.underlying32 rfl rfl sz3 (by decide) rfl) ?_
            have q38 : cellAt w35.heap (⟨b5, 1, none⟩ : Addr) = some (.int .i64 x3.2.1) := (t_b5.cell 1).trans (by first | rfl | simp [List.getElem?_append, ints_len, bools_len])
            refine wo_loadG (m' := 65535) 14 (fun H => cellAt H (⟨b5, 1, none⟩ : Addr) = some (.int .i64 x3.2.1)) rfl (by kernel_rfl) rfl (t := 38) rfl (by decide) rfl (fun H q38 => at_load (v := .int .i64 x3.2.1) Tryd.underlying3 rfl rfl (q38)) q38 ?_
            have q39 : cellAt w35.heap (⟨b5, 0, none⟩ : Addr) = some (.int .i64 x3.1) := (t_b5.cell 0).trans (by first | rfl | simp [List.getElem?_append, ints_len, bools_len])
            refine wo_loadG (m' := 131071) 16 (fun H => cellAt H (⟨b5, 0, none⟩ : Addr) = some (.int .i64 x3.1)) rfl (by kernel_rfl) rfl (t := 38) rfl (by decide) rfl (fun H q39 => at_load (v := .int .i64 x3.1) Tryd.underlying3 rfl rfl (q39)) q39 ?_
            refine wo_pureG (m' := 262143) 17 rfl (by kernel_rfl) rfl (t := 38) rfl (by decide) rfl (fun H => at_add rfl rfl) ?_
            refine wo_pureG (m' := 524287) 18 rfl (by kernel_rfl) rfl (t := 38) rfl (by decide) rfl (fun H => at_neq rfl rfl) ?_
            refine wo_pure (m' := 1048575) 19 rfl (by kernel_rfl) rfl rfl (fun H => at_pick_f rfl rfl) ?_
            refine wo_pure (m' := 2097151) 20 rfl (by kernel_rfl) rfl rfl (fun H => at_move rfl) ?_
            refine bif_ h (fun hb h => ?_) (fun hb h => ?_)
            · refine wo_set (t := 46) (v := .bool true) (congrArg Value.bool hb) ?_; clear hb
              refine wo_off (m' := 4194303) 21 rfl (by kernel_rfl) rfl (t := 46) rfl (by decide) rfl ?_
              refine wo_off (m' := 8388607) 22 rfl (by kernel_rfl) rfl (t := 46) rfl (by decide) rfl ?_
              refine wo_off (m' := 16777215) 23 rfl (by kernel_rfl) rfl (t := 46) rfl (by decide) rfl ?_
              refine wo_off (m' := 33554431) 24 rfl (by kernel_rfl) rfl (t := 46) rfl (by decide) rfl ?_
              refine wo_off (m' := 67108863) 25 rfl (by kernel_rfl) rfl (t := 46) rfl (by decide) rfl ?_
              refine wo_pure (m' := 134217727) 26 rfl (by kernel_rfl) rfl rfl (fun H => at_pick_t rfl rfl) ?_
              refine wo_pure (m' := 268435455) 27 rfl (by kernel_rfl) rfl rfl (fun H => at_move rfl) ?_
              refine wo_off (m' := 536870911) 28 rfl (by kernel_rfl) rfl (t := 53) rfl (by decide) rfl ?_
              refine wo_off (m' := 1073741823) 29 rfl (by kernel_rfl) rfl (t := 53) rfl (by decide) rfl ?_
              refine wo_off (m' := 2147483647) 30 rfl (by kernel_rfl) rfl (t := 53) rfl (by decide) rfl ?_
              refine wo_off (m' := 4294967295) 31 rfl (by kernel_rfl) rfl (t := 53) rfl (by decide) rfl ?_
              refine wo_off (m' := 8589934591) 32 rfl (by kernel_rfl) rfl (t := 53) rfl (by decide) rfl ?_
              refine wo_off (m' := 17179869183) 33 rfl (by kernel_rfl) rfl (t := 53) rfl (by decide) rfl ?_
              refine wo_off (m' := 34359738367) 34 rfl (by kernel_rfl) rfl (t := 53) rfl (by decide) rfl ?_
              refine wo_off (m' := 68719476735) 35 rfl (by kernel_rfl) rfl (t := 53) rfl (by decide) rfl ?_
              refine wo_pure (m' := 137438953471) 36 rfl (by kernel_rfl) rfl rfl (fun H => at_pick_t rfl rfl) ?_
              refine wo_pure (m' := 274877906943) 37 rfl (by kernel_rfl) rfl rfl (fun H => at_move rfl) ?_
              refine wo_off (m' := 549755813887) 38 rfl (by kernel_rfl) rfl (t := 63) rfl (by decide) rfl ?_
              refine wo_off (m' := 1099511627775) 39 rfl (by kernel_rfl) rfl (t := 63) rfl (by decide) rfl ?_
              refine wo_off (m' := 2199023255551) 40 rfl (by kernel_rfl) rfl (t := 63) rfl (by decide) rfl ?_
              refine wo_pure (m' := 4398046511103) 41 rfl (by kernel_rfl) rfl rfl (fun H => at_pick_t rfl rfl) ?_
              refine wo_pure (m' := 8796093022207) 42 rfl (by kernel_rfl) rfl rfl (fun H => at_move rfl) ?_
              refine wo_off (m' := 17592186044415) 43 rfl (by kernel_rfl) rfl (t := 68) rfl (by decide) rfl ?_
              refine wo_off (m' := 35184372088831) 44 rfl (by kernel_rfl) rfl (t := 68) rfl (by decide) rfl ?_
              refine wo_off (m' := 70368744177663) 45 rfl (by kernel_rfl) rfl (t := 68) rfl (by decide) rfl ?_
              refine wo_pure (m' := 140737488355327) 46 rfl (by kernel_rfl) rfl rfl (fun H => at_pick_t rfl rfl) ?_
              refine wo_done (by kernel_rfl) ?_
              exact wk_prune [(0, .string a0), (5, .bool x1), (6, .pointer (some (⟨b5, 0, none⟩ : Addr))), (7, .bool x3.2.2.2), (8, .int .i64 (if a1 < 0 then 0 else a1)), (72, .bool true)] ⟨rfl, rfl, rfl, rfl, rfl, rfl, trivial⟩ (fun f1 => hJ32 (true) _ f1 h ⟨t_b5, trivial⟩ so)
            · refine wo_set (t := 46) (v := .bool false) (congrArg Value.bool hb) ?_; clear hb
              refine wo_pureG (m' := 4194303) 21 rfl (by kernel_rfl) rfl (t := 46) rfl (by decide) rfl (fun H => at_move rfl) ?_
              refine wo_pureG (m' := 8388607) 22 rfl (by kernel_rfl) rfl (t := 46) rfl (by decide) rfl (fun H => at_fieldAddr Tryd.underlying32 rfl rfl sz3 (by decide) rfl) ?_
              have q40 : cellAt w35.heap (⟨b5, 0, none⟩ : Addr) = some (.int .i64 x3.1) := (t_b5.cell 0).trans (by first | rfl | simp [List.getElem?_append, ints_len, bools_len])
              refine wo_loadG (m' := 16777215) 23 (fun H => cellAt H (⟨b5, 0, none⟩ : Addr) = some (.int .i64 x3.1)) rfl (by kernel_rfl) rfl (t := 46) rfl (by decide) rfl (fun H q40 => at_load (v := .int .i64 x3.1) Tryd.underlying3 rfl rfl (q40)) q40 ?_
              obtain ⟨q41, q42, h⟩ := h
              refine wo_pureG (m' := 33554431) 24 rfl (by kernel_rfl) rfl (t := 46) rfl (by decide) rfl (fun H => at_ixS Tryd.underlying9 rfl rfl q41 q42) ?_
              refine wo_pureG (m' := 67108863) 25 rfl (by kernel_rfl) rfl (t := 46) rfl (by decide) rfl (fun H => at_neq rfl rfl) ?_
              refine wo_pure (m' := 134217727) 26 rfl (by kernel_rfl) rfl rfl (fun H => at_pick_f rfl rfl) ?_
              refine wo_pure (m' := 268435455) 27 rfl (by kernel_rfl) rfl rfl (fun H => at_move rfl) ?_
              refine bif_ h (fun hb h => ?_) (fun hb h => ?_)
              · refine wo_set (t := 53) (v := .bool true) (congrArg Value.bool hb) ?_; clear hb
                refine wo_off (m' := 536870911) 28 rfl (by kernel_rfl) rfl (t := 53) rfl (by decide) rfl ?_
                refine wo_off (m' := 1073741823) 29 rfl (by kernel_rfl) rfl (t := 53) rfl (by decide) rfl ?_
                refine wo_off (m' := 2147483647) 30 rfl (by kernel_rfl) rfl (t := 53) rfl (by decide) rfl ?_
                refine wo_off (m' := 4294967295) 31 rfl (by kernel_rfl) rfl (t := 53) rfl (by decide) rfl ?_
                refine wo_off (m' := 8589934591) 32 rfl (by kernel_rfl) rfl (t := 53) rfl (by decide) rfl ?_
                refine wo_off (m' := 17179869183) 33 rfl (by kernel_rfl) rfl (t := 53) rfl (by decide) rfl ?_
                refine wo_off (m' := 34359738367) 34 rfl (by kernel_rfl) rfl (t := 53) rfl (by decide) rfl ?_
                refine wo_off (m' := 68719476735) 35 rfl (by kernel_rfl) rfl (t := 53) rfl (by decide) rfl ?_
                refine wo_pure (m' := 137438953471) 36 rfl (by kernel_rfl) rfl rfl (fun H => at_pick_t rfl rfl) ?_
                refine wo_pure (m' := 274877906943) 37 rfl (by kernel_rfl) rfl rfl (fun H => at_move rfl) ?_
                refine wo_off (m' := 549755813887) 38 rfl (by kernel_rfl) rfl (t := 63) rfl (by decide) rfl ?_
                refine wo_off (m' := 1099511627775) 39 rfl (by kernel_rfl) rfl (t := 63) rfl (by decide) rfl ?_
                refine wo_off (m' := 2199023255551) 40 rfl (by kernel_rfl) rfl (t := 63) rfl (by decide) rfl ?_
                refine wo_pure (m' := 4398046511103) 41 rfl (by kernel_rfl) rfl rfl (fun H => at_pick_t rfl rfl) ?_
                refine wo_pure (m' := 8796093022207) 42 rfl (by kernel_rfl) rfl rfl (fun H => at_move rfl) ?_
                refine wo_off (m' := 17592186044415) 43 rfl (by kernel_rfl) rfl (t := 68) rfl (by decide) rfl ?_
                refine wo_off (m' := 35184372088831) 44 rfl (by kernel_rfl) rfl (t := 68) rfl (by decide) rfl ?_
                refine wo_off (m' := 70368744177663) 45 rfl (by kernel_rfl) rfl (t := 68) rfl (by decide) rfl ?_
                refine wo_pure (m' := 140737488355327) 46 rfl (by kernel_rfl) rfl rfl (fun H => at_pick_t rfl rfl) ?_
                refine wo_done (by kernel_rfl) ?_
                exact wk_prune [(0, .string a0), (5, .bool x1), (6, .pointer (some (⟨b5, 0, none⟩ : Addr))), (7, .bool x3.2.2.2), (8, .int .i64 (if a1 < 0 then 0 else a1)), (72, .bool true)] ⟨rfl, rfl, rfl, rfl, rfl, rfl, trivial⟩ (fun f1 => hJ32 (true) _ f1 h ⟨t_b5, trivial⟩ so)
              · refine wo_set (t := 53) (v := .bool false) (congrArg Value.bool hb) ?_; clear hb
                refine wo_pureG (m' := 536870911) 28 rfl (by kernel_rfl) rfl (t := 53) rfl (by decide) rfl (fun H => at_move rfl) ?_
                refine wo_pureG (m' := 1073741823) 29 rfl (by kernel_rfl) rfl (t := 53) rfl (by decide) rfl (fun H => at_fieldAddr Tryd.underlying32 rfl rfl sz3 (by decide) rfl) ?_
                refine wo_pureG (m' := 9663676415) 33 rfl (by kernel_rfl) rfl (t := 53) rfl (by decide) rfl (fun H => at_fieldAddr Tryd.underlying32 rfl rfl sz5 (by decide) rfl) ?_
                have q43 : cellAt w35.heap (⟨b5, 0, none⟩ : Addr) = some (.int .i64 x3.1) := (t_b5.cell 0).trans (by first | rfl | simp [List.getElem?_append, ints_len, bools_len])
                refine wo_loadG (m' := 10737418239) 30 (fun H => cellAt H (⟨b5, 0, none⟩ : Addr) = some (.int .i64 x3.1)) rfl (by kernel_rfl) rfl (t := 53) rfl (by decide) rfl (fun H q43 => at_load (v := .int .i64 x3.1) Tryd.underlying3 rfl rfl (q43)) q43 ?_
                refine wo_pureG (m' := 12884901887) 31 rfl (by kernel_rfl) rfl (t := 53) rfl (by decide) rfl (fun H => at_add rfl rfl) ?_
                obtain ⟨q44, q45, h⟩ := h
                refine wo_pureG (m' := 17179869183) 32 rfl (by kernel_rfl) rfl (t := 53) rfl (by decide) rfl (fun H => at_ixS Tryd.underlying9 rfl rfl q44 q45) ?_
                have q46 : cellAt w35.heap (⟨b5, 2, none⟩ : Addr) = some (.int .u8 x3.2.2.1) := (t_b5.cell 2).trans (by first | rfl | simp [List.getElem?_append, ints_len, bools_len])
                refine wo_loadG (m' := 34359738367) 34 (fun H => cellAt H (⟨b5, 2, none⟩ : Addr) = some (.int .u8 x3.2.2.1)) rfl (by kernel_rfl) rfl (t := 53) rfl (by decide) rfl (fun H q46 => at_load (v := .int .u8 x3.2.2.1) Tryd.underlying5 rfl rfl (q46)) q46 ?_
                refine wo_pureG (m' := 68719476735) 35 rfl (by kernel_rfl) rfl (t := 53) rfl (by decide) rfl (fun H => at_neq rfl rfl) ?_
                refine wo_pure (m' := 137438953471) 36 rfl (by kernel_rfl) rfl rfl (fun H => at_pick_f rfl rfl) ?_
                refine wo_pure (m' := 274877906943) 37 rfl (by kernel_rfl) rfl rfl (fun H => at_move rfl) ?_
                refine bif_ h (fun hb h => ?_) (fun hb h => ?_)
                · refine wo_set (t := 63) (v := .bool true) (congrArg Value.bool hb) ?_; clear hb
                  refine wo_off (m' := 549755813887) 38 rfl (by kernel_rfl) rfl (t := 63) rfl (by decide) rfl ?_
                  refine wo_off (m' := 1099511627775) 39 rfl (by kernel_rfl) rfl (t := 63) rfl (by decide) rfl ?_
                  refine wo_off (m' := 2199023255551) 40 rfl (by kernel_rfl) rfl (t := 63) rfl (by decide) rfl ?_
                  refine wo_pure (m' := 4398046511103) 41 rfl (by kernel_rfl) rfl rfl (fun H => at_pick_t rfl rfl) ?_
                  refine wo_pure (m' := 8796093022207) 42 rfl (by kernel_rfl) rfl rfl (fun H => at_move rfl) ?_
                  refine wo_off (m' := 17592186044415) 43 rfl (by kernel_rfl) rfl (t := 68) rfl (by decide) rfl ?_
                  refine wo_off (m' := 35184372088831) 44 rfl (by kernel_rfl) rfl (t := 68) rfl (by decide) rfl ?_
                  refine wo_off (m' := 70368744177663) 45 rfl (by kernel_rfl) rfl (t := 68) rfl (by decide) rfl ?_
                  refine wo_pure (m' := 140737488355327) 46 rfl (by kernel_rfl) rfl rfl (fun H => at_pick_t rfl rfl) ?_
                  refine wo_done (by kernel_rfl) ?_
                  exact wk_prune [(0, .string a0), (5, .bool x1), (6, .pointer (some (⟨b5, 0, none⟩ : Addr))), (7, .bool x3.2.2.2), (8, .int .i64 (if a1 < 0 then 0 else a1)), (72, .bool true)] ⟨rfl, rfl, rfl, rfl, rfl, rfl, trivial⟩ (fun f1 => hJ32 (true) _ f1 h ⟨t_b5, trivial⟩ so)
                · refine wo_set (t := 63) (v := .bool false) (congrArg Value.bool hb) ?_; clear hb
                  refine wo_pureG (m' := 549755813887) 38 rfl (by kernel_rfl) rfl (t := 63) rfl (by decide) rfl (fun H => at_fieldAddr Tryd.underlying32 rfl rfl sz5 (by decide) rfl) ?_
                  have q47 : cellAt w35.heap (⟨b5, 2, none⟩ : Addr) = some (.int .u8 x3.2.2.1) := (t_b5.cell 2).trans (by first | rfl | simp [List.getElem?_append, ints_len, bools_len])
                  refine wo_loadG (m' := 1099511627775) 39 (fun H => cellAt H (⟨b5, 2, none⟩ : Addr) = some (.int .u8 x3.2.2.1)) rfl (by kernel_rfl) rfl (t := 63) rfl (by decide) rfl (fun H q47 => at_load (v := .int .u8 x3.2.2.1) Tryd.underlying5 rfl rfl (q47)) q47 ?_
                  refine wo_pureG (m' := 2199023255551) 40 rfl (by kernel_rfl) rfl (t := 63) rfl (by decide) rfl (fun H => at_eql rfl rfl) ?_
                  refine wo_pure (m' := 4398046511103) 41 rfl (by kernel_rfl) rfl rfl (fun H => at_pick_f rfl rfl) ?_
                  refine wo_pure (m' := 8796093022207) 42 rfl (by kernel_rfl) rfl rfl (fun H => at_move rfl) ?_
                  refine bif_ h (fun hb h => ?_) (fun hb h => ?_)
                  · refine wo_set (t := 68) (v := .bool true) (congrArg Value.bool hb) ?_; clear hb
                    refine wo_off (m' := 17592186044415) 43 rfl (by kernel_rfl) rfl (t := 68) rfl (by decide) rfl ?_
                    refine wo_off (m' := 35184372088831) 44 rfl (by kernel_rfl) rfl (t := 68) rfl (by decide) rfl ?_
                    refine wo_off (m' := 70368744177663) 45 rfl (by kernel_rfl) rfl (t := 68) rfl (by decide) rfl ?_
                    refine wo_pure (m' := 140737488355327) 46 rfl (by kernel_rfl) rfl rfl (fun H => at_pick_t rfl rfl) ?_
                    refine wo_done (by kernel_rfl) ?_
                    exact wk_prune [(0, .string a0), (5, .bool x1), (6, .pointer (some (⟨b5, 0, none⟩ : Addr))), (7, .bool x3.2.2.2), (8, .int .i64 (if a1 < 0 then 0 else a1)), (72, .bool true)] ⟨rfl, rfl, rfl, rfl, rfl, rfl, trivial⟩ (fun f1 => hJ32 (true) _ f1 h ⟨t_b5, trivial⟩ so)
                  · refine wo_set (t := 68) (v := .bool false) (congrArg Value.bool hb) ?_; clear hb
                    refine wo_pureG (m' := 17592186044415) 43 rfl (by kernel_rfl) rfl (t := 68) rfl (by decide) rfl (fun H => at_fieldAddr Tryd.underlying32 rfl rfl sz5 (by decide) rfl) ?_
                    have q48 : cellAt w35.heap (⟨b5, 2, none⟩ : Addr) = some (.int .u8 x3.2.2.1) := (t_b5.cell 2).trans (by first | rfl | simp [List.getElem?_append, ints_len, bools_len])
                    refine wo_loadG (m' := 35184372088831) 44 (fun H => cellAt H (⟨b5, 2, none⟩ : Addr) = some (.int .u8 x3.2.2.1)) rfl (by kernel_rfl) rfl (t := 68) rfl (by decide) rfl (fun H q48 => at_load (v := .int .u8 x3.2.2.1) Tryd.underlying5 rfl rfl (q48)) q48 ?_
                    refine wo_pureG (m' := 70368744177663) 45 rfl (by kernel_rfl) rfl (t := 68) rfl (by decide) rfl (fun H => at_eql rfl rfl) ?_
                    refine wo_pure (m' := 140737488355327) 46 rfl (by kernel_rfl) rfl rfl (fun H => at_pick_f rfl rfl) ?_
                    refine wo_done (by kernel_rfl) ?_
                    exact wk_prune [(0, .string a0), (5, .bool x1), (6, .pointer (some (⟨b5, 0, none⟩ : Addr))), (7, .bool x3.2.2.2), (8, .int .i64 (if a1 < 0 then 0 else a1)), (72, .bool (x3.2.2.1 == 255))] ⟨rfl, rfl, rfl, rfl, rfl, rfl, trivial⟩ (fun f1 => hJ32 ((x3.2.2.1 == 255)) _ f1 h ⟨t_b5, trivial⟩ so)
    · refine wc_skip ?_
      exact wk_prune [(0, .string a0), (5, .bool x1), (6, .pointer (some (⟨b5, 0, none⟩ : Addr))), (7, .bool x3.2.2.2), (8, .int .i64 (if a1 < 0 then 0 else a1)), (9, .int .i64 (IntKind.wrap .i64 ((a0.size : Int) - 1)))] ⟨rfl, rfl, rfl, rfl, rfl, rfl, trivial⟩ (fun f1 => hJ8 ((IntKind.wrap .i64 ((a0.size : Int) - 1))) _ f1 h ⟨t_b5, trivial⟩ so)
end Go.Proofs.YtkplpbnifinlbaaDoor.G
