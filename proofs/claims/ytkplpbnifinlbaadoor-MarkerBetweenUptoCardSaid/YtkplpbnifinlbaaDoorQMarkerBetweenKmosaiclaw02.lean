/- Of this text what the row needs. -/
import Derived.Test.YtkplpbnifinlbaaDoorQMarkerBetweenKshelf
import Derived.Test.YtkplpbnifinlbaaDoorQMarkerBetweenKmarker
namespace Go.Proofs.YtkplpbnifinlbaaDoor.G
open Go.RowKit
set_option linter.unusedVariables false
set_option linter.unusedSimpArgs false
def mosaiclaw02_alive.enc : Bool → Value := fun r => .bool r
def mosaiclaw02_alive.s (H0 : Hp) (Q : Bool → Hp → Prop) : Prop :=
  marker_Next.s (⟨#[97, 255, 255, 218]⟩ : ByteArray) 0 H0 (fun x1 H2 => Gn [] H2 (fun (b3 : Nat) (H5 : Hp) => if x1.2.2.2 = true then (if (x1.1 == 2) = true then (if (x1.2.2.1 == 218) = true then (marker_Name.s 218 H5 (fun x6 H7 => if (x6.toList == (⟨#[83, 79, 83]⟩ : ByteArray).toList) = true then (marker_Stuff.s (⟨#[255]⟩ : ByteArray) H7 (fun x8 H9 => Q (x8.toList == (⟨#[255, 0]⟩ : ByteArray).toList) H9)) else (Q false H7))) else (Q false H5)) else (Q false H5)) else (Q false H5)))
set_option maxRecDepth 20000 in
set_option maxHeartbeats 4000000 in
theorem mosaiclaw02_alive.calls (w0 : World) (Q : Bool → Hp → Prop) (h : mosaiclaw02_alive.s w0.heap Q) :
    Ca Tryd.prog 20 #[] w0 (Rt mosaiclaw02_alive.enc Q w0) := by
  refine ca_start (c := _) Tryd.func20 rfl Tryd.ntmps20 rfl ?_
  have so : Sm w0 w0 := Sm.refl w0
  unfold mosaiclaw02_alive.s at h
  refine wc_prune [] trivial (fun f1 => ?_)
  refine wc_seq ?_
  refine wc_region ?_
  refine wl_val (at_assign rfl) rfl ?_
  refine wl_nil ?_
  refine wk_prune [] trivial (fun f1 => ?_)
  refine wk_then ?_
  refine wc_seq ?_
  refine wc_region ?_
  refine wl_callF (marker_Next.calls _ _ _ _ h) enter21 rfl trivial so ?_; intro x1 w2 h so
  refine wl_val (at_move rfl) rfl ?_
  refine wl_val (at_extract rfl rfl) rfl ?_
  refine wl_val (at_extract rfl rfl) rfl ?_
  refine wl_newT (T := 32) (cs := (c32 0 0 0)) (ef_alloc zero32 rfl) rfl so ?_; intro b3 w4 hb_b3 t_b3 k_b3 so
  have g_b3 := Nat.le_of_eq hb_b3.symm
  have hc := k_b3.ch (F := [])
  refine wl_stWT (vs := (c32 x1.1 x1.2.1 x1.2.2.1)) t_b3 (by first | (rw [len32, len32]) | (rw [len32]) | rfl) rfl so (fun q => ef_storeA (p := (⟨b3, 0, none⟩ : Addr)) (cs := (c32 x1.1 x1.2.1 x1.2.2.1)) (by rw [len32]; exact sz32) rfl rfl (one32 _ _ _) q) ?_; intro w5 t_b3 s_w5 so
  replace hc := ch_same hc s_w5 (.inr g_b3)
  refine wl_val (at_assign rfl) rfl ?_
  refine wl_nil ?_
  refine wk_prune [(1, .pointer (some (⟨b3, 0, none⟩ : Addr))), (2, .bool x1.2.2.2)] ⟨rfl, rfl, trivial⟩ (fun f1 => ?_)
  refine wk_then ?_
  refine wc_seq ?_
  refine wc_region ?_
  refine wl_val (at_move rfl) rfl ?_
  refine wl_val (at_move rfl) rfl ?_
  replace h := h b3 _ hc g_b3 t_b3.lt; clear hc
  refine bif_ h (fun hb h => ?_) (fun hb h => ?_)
  · refine wl_set (t := 8) (v := .bool true) (congrArg Value.bool hb) ?_; clear hb
    refine wl_on (t := 8) rfl (by decide) rfl ?_
    refine wl_val (at_fieldAddr Tryd.underlying32 rfl rfl sz3 (by decide) rfl) rfl ?_
    refine wl_on (t := 8) rfl (by decide) rfl ?_
    refine wl_val (at_load (v := .int .i64 x1.1) Tryd.underlying3 rfl rfl ((t_b3.cell 0).trans (by first | rfl | simp [List.getElem?_append, ints_len, bools_len]))) rfl ?_
    refine wl_on (t := 8) rfl (by decide) rfl ?_
    refine wl_val (at_eql rfl rfl) rfl ?_
    refine wl_val (at_pick_t rfl rfl) rfl ?_
    refine wl_val (at_move rfl) rfl ?_
    refine bif_ h (fun hb h => ?_) (fun hb h => ?_)
    · refine wl_set (t := 13) (v := .bool true) (congrArg Value.bool hb) ?_; clear hb
      refine wl_on (t := 13) rfl (by decide) rfl ?_
      refine wl_val (at_fieldAddr Tryd.underlying32 rfl rfl sz5 (by decide) rfl) rfl ?_
      refine wl_on (t := 13) rfl (by decide) rfl ?_
      refine wl_val (at_load (v := .int .u8 x1.2.2.1) Tryd.underlying5 rfl rfl ((t_b3.cell 2).trans (by first | rfl | simp [List.getElem?_append, ints_len, bools_len]))) rfl ?_
      refine wl_on (t := 13) rfl (by decide) rfl ?_
      refine wl_val (at_eql rfl rfl) rfl ?_
      refine wl_val (at_pick_t rfl rfl) rfl ?_
      refine wl_val (at_move rfl) rfl ?_
      refine bif_ h (fun hb h => ?_) (fun hb h => ?_)
      · refine wl_set (t := 18) (v := .bool true) (congrArg Value.bool hb) ?_; clear hb
        refine wl_on (t := 18) rfl (by decide) rfl ?_
        refine wl_callF (marker_Name.calls _ _ _ h) enter14 rfl trivial so ?_; intro x6 w7 h so
        refine wl_on (t := 18) rfl (by decide) rfl ?_
        refine wl_val (at_eqlS rfl rfl) rfl ?_
        refine wl_val (at_pick_t rfl rfl) rfl ?_
        refine wl_val (at_move rfl) rfl ?_
        refine bif_ h (fun hb h => ?_) (fun hb h => ?_)
        · refine wl_set (t := 22) (v := .bool true) (congrArg Value.bool hb) ?_; clear hb
          refine wl_on (t := 22) rfl (by decide) rfl ?_
          refine wl_callF (marker_Stuff.calls _ _ _ h) enter18 rfl trivial so ?_; intro x8 w9 h so
          refine wl_on (t := 22) rfl (by decide) rfl ?_
          refine wl_val (at_eqlS rfl rfl) rfl ?_
          refine wl_val (at_pick_t rfl rfl) rfl ?_
          refine wl_val (at_assign rfl) rfl ?_
          refine wl_nil ?_
          refine wk_prune [(0, .bool (x8.toList == (⟨#[255, 0]⟩ : ByteArray).toList))] ⟨rfl, trivial⟩ (fun f1 => ?_)
          refine wk_then ?_
          refine wc_ret ?_
          exact wk_ret1 (x := (x8.toList == (⟨#[255, 0]⟩ : ByteArray).toList)) rfl (by decide) rfl so h
        · refine wl_set (t := 22) (v := .bool false) (congrArg Value.bool hb) ?_; clear hb
          refine wl_off (t := 22) rfl (by decide) rfl ?_
          refine wl_off (t := 22) rfl (by decide) rfl ?_
          refine wl_val (at_pick_f rfl rfl) rfl ?_
          refine wl_val (at_assign rfl) rfl ?_
          refine wl_nil ?_
          refine wk_prune [(0, .bool false)] ⟨rfl, trivial⟩ (fun f1 => ?_)
          refine wk_then ?_
          refine wc_ret ?_
          exact wk_ret1 (x := false) rfl (by decide) rfl so h
      · refine wl_set (t := 18) (v := .bool false) (congrArg Value.bool hb) ?_; clear hb
        refine wl_off (t := 18) rfl (by decide) rfl ?_
        refine wl_off (t := 18) rfl (by decide) rfl ?_
        refine wl_val (at_pick_f rfl rfl) rfl ?_
        refine wl_val (at_move rfl) rfl ?_
        refine wl_off (t := 22) rfl (by decide) rfl ?_
        refine wl_off (t := 22) rfl (by decide) rfl ?_
        refine wl_val (at_pick_f rfl rfl) rfl ?_
        refine wl_val (at_assign rfl) rfl ?_
        refine wl_nil ?_
        refine wk_prune [(0, .bool false)] ⟨rfl, trivial⟩ (fun f1 => ?_)
        refine wk_then ?_
        refine wc_ret ?_
        exact wk_ret1 (x := false) rfl (by decide) rfl so h
    · refine wl_set (t := 13) (v := .bool false) (congrArg Value.bool hb) ?_; clear hb
      refine wl_off (t := 13) rfl (by decide) rfl ?_
      refine wl_off (t := 13) rfl (by decide) rfl ?_
      refine wl_off (t := 13) rfl (by decide) rfl ?_
      refine wl_val (at_pick_f rfl rfl) rfl ?_
      refine wl_val (at_move rfl) rfl ?_
      refine wl_off (t := 18) rfl (by decide) rfl ?_
      refine wl_off (t := 18) rfl (by decide) rfl ?_
      refine wl_val (at_pick_f rfl rfl) rfl ?_
      refine wl_val (at_move rfl) rfl ?_
      refine wl_off (t := 22) rfl (by decide) rfl ?_
      refine wl_off (t := 22) rfl (by decide) rfl ?_
      refine wl_val (at_pick_f rfl rfl) rfl ?_
      refine wl_val (at_assign rfl) rfl ?_
      refine wl_nil ?_
      refine wk_prune [(0, .bool false)] ⟨rfl, trivial⟩ (fun f1 => ?_)
      refine wk_then ?_
      refine wc_ret ?_
      exact wk_ret1 (x := false) rfl (by decide) rfl so h
  · refine wl_set (t := 8) (v := .bool false) (congrArg Value.bool hb) ?_; clear hb
    refine wl_off (t := 8) rfl (by decide) rfl ?_
    refine wl_off (t := 8) rfl (by decide) rfl ?_
    refine wl_off (t := 8) rfl (by decide) rfl ?_
    refine wl_val (at_pick_f rfl rfl) rfl ?_
    refine wl_val (at_move rfl) rfl ?_
    refine wl_off (t := 13) rfl (by decide) rfl ?_
    refine wl_off (t := 13) rfl (by decide) rfl ?_
    refine wl_off (t := 13) rfl (by decide) rfl ?_
    refine wl_val (at_pick_f rfl rfl) rfl ?_
    refine wl_val (at_move rfl) rfl ?_
    refine wl_off (t := 18) rfl (by decide) rfl ?_
    refine wl_off (t := 18) rfl (by decide) rfl ?_
    refine wl_val (at_pick_f rfl rfl) rfl ?_
    refine wl_val (at_move rfl) rfl ?_
    refine wl_off (t := 22) rfl (by decide) rfl ?_
    refine wl_off (t := 22) rfl (by decide) rfl ?_
    refine wl_val (at_pick_f rfl rfl) rfl ?_
    refine wl_val (at_assign rfl) rfl ?_
    refine wl_nil ?_
    refine wk_prune [(0, .bool false)] ⟨rfl, trivial⟩ (fun f1 => ?_)
    refine wk_then ?_
    refine wc_ret ?_
    exact wk_ret1 (x := false) rfl (by decide) rfl so h
def mosaiclaw02_ffs.enc : Int → Value := fun r => .int .i64 r
def mosaiclaw02_ffs.s (a0 : ByteArray) (H0 : Hp) (Q : Int → Hp → Prop) : Prop :=
  ∃ k1, Fix (fun (rec6 : (Int × Int) → Hp → Prop) (s3 : Int × Int) (H4 : Hp) => if decide (s3.2 < (a0.size : Int)) = true then (Join (fun (s8 : Int) (H9 : Hp) => rec6 (s8, (IntKind.wrap .i64 (s3.2 + 1))) H9) (fun (J7 : Int → Hp → Prop) => 0 ≤ s3.2 ∧ s3.2 < (a0.size : Int) ∧ (if ((bt a0 s3.2) == 255) = true then (J7 ((IntKind.wrap .i64 (s3.1 + 1))) H4) else (J7 (s3.1) H4)))) else (Q s3.1 H4)) k1 (0, 0) H0
set_option maxRecDepth 20000 in
set_option maxHeartbeats 4000000 in
theorem mosaiclaw02_ffs.calls (a0 : ByteArray) (w0 : World) (Q : Int → Hp → Prop) (h : mosaiclaw02_ffs.s a0 w0.heap Q) :
    Ca Tryd.prog 22 #[.string a0] w0 (Rt mosaiclaw02_ffs.enc Q w0) := by
  refine ca_start (c := _) Tryd.func22 rfl Tryd.ntmps22 rfl ?_
  have so : Sm w0 w0 := Sm.refl w0
  unfold mosaiclaw02_ffs.s at h
  refine wc_prune [(0, .string a0)] ⟨rfl, trivial⟩ (fun f1 => ?_)
  refine wc_seq ?_
  refine wc_region ?_
  refine wl_val (at_assign rfl) rfl ?_
  refine wl_nil ?_
  refine wk_prune [(0, .string a0)] ⟨rfl, trivial⟩ (fun f1 => ?_)
  refine wk_then ?_
  refine wc_seq ?_
  refine wc_region ?_
  refine wl_val (at_assign rfl) rfl ?_
  refine wl_nil ?_
  refine wk_prune [(0, .string a0), (3, .int .i64 0)] ⟨rfl, rfl, trivial⟩ (fun f1 => ?_)
  refine wk_then ?_
  refine wc_seq ?_
  refine wc_seq ?_
  refine wc_region ?_
  refine wl_val (at_assign rfl) rfl ?_
  refine wl_nil ?_
  refine wk_prune [(0, .string a0), (3, .int .i64 0), (4, .int .i64 0)] ⟨rfl, rfl, rfl, trivial⟩ (fun f1 => ?_)
  refine wk_then ?_
  refine wc_block ?_
  obtain ⟨k1, h⟩ := h
  refine wc_loop (fun k a w => ∃ (s3 : Int × Int) (f1 : Nat → Value), a = ac 18 (en f1 [(0, .string a0), (3, .int .i64 s3.1), (4, .int .i64 s3.2)]) [] ∧ Sm w0 w ∧ Fix _ k s3 w.heap) k1 ⟨(0, 0), _, ac_again ⟨rfl, rfl, rfl, trivial⟩, so, h⟩ ?_
  rintro k2 a5 w4 ⟨s3, f1, rfl, so, h⟩
  rcases k2 with _ | k2
  · exact h.elim
  replace h := Fix.un h; refine wc_in ?_
  refine wc_seq ?_
  refine wc_seq ?_
  refine wc_region ?_
  refine wl_val (at_move rfl) rfl ?_
  refine wl_val (at_move rfl) rfl ?_
  refine wl_val (at_lenS Tryd.underlying9 rfl) rfl ?_
  refine wl_val (at_lss rfl rfl) rfl ?_
  refine wl_nil ?_
  refine wk_prune [(0, .string a0), (3, .int .i64 s3.1), (4, .int .i64 s3.2), (8, .bool (decide (s3.2 < (a0.size : Int))))] ⟨rfl, rfl, rfl, rfl, trivial⟩ (fun f1 => ?_)
  refine wk_then ?_
  refine wc_cond rfl h (fun h => ?_) (fun h => ?_)
  · refine wc_skip ?_
    refine wk_prune [(0, .string a0), (3, .int .i64 s3.1), (4, .int .i64 s3.2)] ⟨rfl, rfl, rfl, trivial⟩ (fun f1 => ?_)
    refine wk_then ?_
    refine wc_seq ?_
    refine wc_join (w0 := w0) (fun (s8 : Int) => [(0, .string a0), (3, .int .i64 s8), (4, .int .i64 s3.2)]) h ?_ ?_
    · rintro s8 w9 f1 h so; refine wk_then ?_
      refine wc_region ?_
      refine wl_val (at_move rfl) rfl ?_
      refine wl_val (at_add rfl rfl) rfl ?_
      refine wl_val (at_assign rfl) rfl ?_
      refine wl_nil ?_
      exact wk_again ⟨(s8, (IntKind.wrap .i64 (s3.2 + 1))), _, ac_again ⟨rfl, rfl, rfl, trivial⟩, so, h⟩
    · intro J7 h hJ7
      refine wc_block ?_
      refine wc_seq ?_
      refine wc_region ?_
      refine wl_val (at_move rfl) rfl ?_
      refine wl_val (at_move rfl) rfl ?_
      obtain ⟨q10, q11, h⟩ := h
      refine wl_val (at_ixS Tryd.underlying9 rfl rfl q10 q11) rfl ?_
      refine wl_val (at_eql rfl rfl) rfl ?_
      refine wl_nil ?_
      refine wk_prune [(0, .string a0), (3, .int .i64 s3.1), (4, .int .i64 s3.2), (14, .bool ((bt a0 s3.2) == 255))] ⟨rfl, rfl, rfl, rfl, trivial⟩ (fun f1 => ?_)
      refine wk_then ?_
      refine wc_cond rfl h (fun h => ?_) (fun h => ?_)
      · refine wc_region ?_
        refine wl_val (at_move rfl) rfl ?_
        refine wl_val (at_add rfl rfl) rfl ?_
        refine wl_val (at_assign rfl) rfl ?_
        refine wl_nil ?_
        refine wk_blkN ?_
        exact wk_prune [(0, .string a0), (3, .int .i64 (IntKind.wrap .i64 (s3.1 + 1))), (4, .int .i64 s3.2)] ⟨rfl, rfl, rfl, trivial⟩ (fun f1 => hJ7 ((IntKind.wrap .i64 (s3.1 + 1))) _ f1 h so)
      · refine wc_skip ?_
        refine wk_blkN ?_
        exact wk_prune [(0, .string a0), (3, .int .i64 s3.1), (4, .int .i64 s3.2)] ⟨rfl, rfl, rfl, trivial⟩ (fun f1 => hJ7 (s3.1) _ f1 h so)
  · refine wc_exit ?_
    refine wk_thenE ?_
    refine wk_thenE ?_
    refine wk_blkE ?_
    refine wk_prune [(3, .int .i64 s3.1)] ⟨rfl, trivial⟩ (fun f1 => ?_)
    refine wk_then ?_
    refine wc_seq ?_
    refine wc_region ?_
    refine wl_val (at_move rfl) rfl ?_
    refine wl_val (at_assign rfl) rfl ?_
    refine wl_nil ?_
    refine wk_prune [(2, .int .i64 s3.1)] ⟨rfl, trivial⟩ (fun f1 => ?_)
    refine wk_then ?_
    refine wc_ret ?_
    exact wk_ret1 (x := s3.1) rfl (by decide) rfl so h
def mosaiclaw02_unstuffed.enc : ByteArray → Value := fun r => .string r
def mosaiclaw02_unstuffed.s (a0 : ByteArray) (H0 : Hp) (Q : ByteArray → Hp → Prop) : Prop :=
  ∃ k1, Fix (fun (rec6 : (ByteArray × Int) → Hp → Prop) (s3 : ByteArray × Int) (H4 : Hp) => if decide (s3.2 < (a0.size : Int)) = true then (Join (fun (s8 : ByteArray × Int) (H9 : Hp) => rec6 (s8.1, (IntKind.wrap .i64 (s8.2 + 1))) H9) (fun (J7 : (ByteArray × Int) → Hp → Prop) => 0 ≤ s3.2 ∧ s3.2 ≤ (IntKind.wrap .i64 (s3.2 + 1)) ∧ (IntKind.wrap .i64 (s3.2 + 1)) ≤ (a0.size : Int) ∧ (s3.1.size + (a0.extract (Int.toNat s3.2) (Int.toNat (IntKind.wrap .i64 (s3.2 + 1)))).size ≤ 9223372036854775807 ∧ (Lt ((s3.1 ++ (a0.extract (Int.toNat s3.2) (Int.toNat (IntKind.wrap .i64 (s3.2 + 1))))) : ByteArray) (fun x14 => 0 ≤ s3.2 ∧ s3.2 < (a0.size : Int) ∧ (if ((bt a0 s3.2) == 255) = true then (J7 (x14, (IntKind.wrap .i64 (s3.2 + 1))) H4) else (J7 (x14, s3.2) H4))))))) else (Q s3.1 H4)) k1 ((⟨#[]⟩ : ByteArray), 0) H0
set_option maxRecDepth 20000 in
set_option maxHeartbeats 4000000 in
theorem mosaiclaw02_unstuffed.calls (a0 : ByteArray) (w0 : World) (Q : ByteArray → Hp → Prop) (h : mosaiclaw02_unstuffed.s a0 w0.heap Q) :
    Ca Tryd.prog 23 #[.string a0] w0 (Rt mosaiclaw02_unstuffed.enc Q w0) := by
  refine ca_start (c := _) Tryd.func23 rfl Tryd.ntmps23 rfl ?_
  have so : Sm w0 w0 := Sm.refl w0
  unfold mosaiclaw02_unstuffed.s at h
  refine wc_prune [(0, .string a0)] ⟨rfl, trivial⟩ (fun f1 => ?_)
  refine wc_seq ?_
  refine wc_region ?_
  refine wl_val (at_assign rfl) rfl ?_
  refine wl_nil ?_
  refine wk_prune [(0, .string a0)] ⟨rfl, trivial⟩ (fun f1 => ?_)
  refine wk_then ?_
  refine wc_seq ?_
  refine wc_region ?_
  refine wl_val (at_assign rfl) rfl ?_
  refine wl_nil ?_
  refine wk_prune [(0, .string a0), (3, .string (⟨#[]⟩ : ByteArray))] ⟨rfl, rfl, trivial⟩ (fun f1 => ?_)
  refine wk_then ?_
  refine wc_seq ?_
  refine wc_seq ?_
  refine wc_region ?_
  refine wl_val (at_assign rfl) rfl ?_
  refine wl_nil ?_
  refine wk_prune [(0, .string a0), (3, .string (⟨#[]⟩ : ByteArray)), (4, .int .i64 0)] ⟨rfl, rfl, rfl, trivial⟩ (fun f1 => ?_)
  refine wk_then ?_
  refine wc_block ?_
  obtain ⟨k1, h⟩ := h
  refine wc_loop (fun k a w => ∃ (s3 : ByteArray × Int) (f1 : Nat → Value), a = ac 25 (en f1 [(0, .string a0), (3, .string s3.1), (4, .int .i64 s3.2)]) [] ∧ Sm w0 w ∧ Fix _ k s3 w.heap) k1 ⟨((⟨#[]⟩ : ByteArray), 0), _, ac_again ⟨rfl, rfl, rfl, trivial⟩, so, h⟩ ?_
  rintro k2 a5 w4 ⟨s3, f1, rfl, so, h⟩
  rcases k2 with _ | k2
  · exact h.elim
  replace h := Fix.un h; refine wc_in ?_
  refine wc_seq ?_
  refine wc_seq ?_
  refine wc_region ?_
  refine wl_val (at_move rfl) rfl ?_
  refine wl_val (at_move rfl) rfl ?_
  refine wl_val (at_lenS Tryd.underlying9 rfl) rfl ?_
  refine wl_val (at_lss rfl rfl) rfl ?_
  refine wl_nil ?_
  refine wk_prune [(0, .string a0), (3, .string s3.1), (4, .int .i64 s3.2), (8, .bool (decide (s3.2 < (a0.size : Int))))] ⟨rfl, rfl, rfl, rfl, trivial⟩ (fun f1 => ?_)
  refine wk_then ?_
  refine wc_cond rfl h (fun h => ?_) (fun h => ?_)
  · refine wc_skip ?_
    refine wk_prune [(0, .string a0), (3, .string s3.1), (4, .int .i64 s3.2)] ⟨rfl, rfl, rfl, trivial⟩ (fun f1 => ?_)
    refine wk_then ?_
    refine wc_seq ?_
    refine wc_join (w0 := w0) (fun (s8 : ByteArray × Int) => [(0, .string a0), (3, .string s8.1), (4, .int .i64 s8.2)]) h ?_ ?_
    · rintro s8 w9 f1 h so; refine wk_then ?_
      refine wc_region ?_
      refine wl_val (at_move rfl) rfl ?_
      refine wl_val (at_add rfl rfl) rfl ?_
      refine wl_val (at_assign rfl) rfl ?_
      refine wl_nil ?_
      exact wk_again ⟨(s8.1, (IntKind.wrap .i64 (s8.2 + 1))), _, ac_again ⟨rfl, rfl, rfl, trivial⟩, so, h⟩
    · intro J7 h hJ7
      refine wc_block ?_
      refine wc_seq ?_
      refine wc_region ?_
      refine wl_val (at_move rfl) rfl ?_
      refine wl_val (at_move rfl) rfl ?_
      refine wl_val (at_move rfl) rfl ?_
      refine wl_val (at_move rfl) rfl ?_
      refine wl_val (at_add rfl rfl) rfl ?_
      obtain ⟨q10, q11, q12, h⟩ := h
      refine wl_val (at_subS Tryd.underlying9 rfl rfl rfl q10 q11 q12) rfl ?_
      obtain ⟨q13, h⟩ := h
      refine wl_val (at_cat rfl rfl q13) rfl ?_
      refine wl_val (at_assign rfl) rfl ?_
      obtain ⟨x14, e15⟩ : ∃ x : ByteArray, x = (s3.1 ++ (a0.extract (Int.toNat s3.2) (Int.toNat (IntKind.wrap .i64 (s3.2 + 1))))) := ⟨_, rfl⟩; replace h := h x14 e15
      refine wl_set (t := 3) (v := .string x14) (congrArg Value.string e15.symm) ?_
      refine wl_nil ?_
      refine wk_prune [(0, .string a0), (3, .string x14), (4, .int .i64 s3.2)] ⟨rfl, rfl, rfl, trivial⟩ (fun f1 => ?_)
      refine wk_then ?_
      refine wc_seq ?_
      refine wc_region ?_
      refine wl_val (at_move rfl) rfl ?_
      refine wl_val (at_move rfl) rfl ?_
      obtain ⟨q16, q17, h⟩ := h
      refine wl_val (at_ixS Tryd.underlying9 rfl rfl q16 q17) rfl ?_
      refine wl_val (at_eql rfl rfl) rfl ?_
      refine wl_nil ?_
      refine wk_prune [(0, .string a0), (3, .string x14), (4, .int .i64 s3.2), (21, .bool ((bt a0 s3.2) == 255))] ⟨rfl, rfl, rfl, rfl, trivial⟩ (fun f1 => ?_)
      refine wk_then ?_
      refine wc_cond rfl h (fun h => ?_) (fun h => ?_)
      · refine wc_region ?_
        refine wl_val (at_move rfl) rfl ?_
        refine wl_val (at_add rfl rfl) rfl ?_
        refine wl_val (at_assign rfl) rfl ?_
        refine wl_nil ?_
        refine wk_blkN ?_
        exact wk_prune [(0, .string a0), (3, .string x14), (4, .int .i64 (IntKind.wrap .i64 (s3.2 + 1)))] ⟨rfl, rfl, rfl, trivial⟩ (fun f1 => hJ7 (x14, (IntKind.wrap .i64 (s3.2 + 1))) _ f1 h so)
      · refine wc_skip ?_
        refine wk_blkN ?_
        exact wk_prune [(0, .string a0), (3, .string x14), (4, .int .i64 s3.2)] ⟨rfl, rfl, rfl, trivial⟩ (fun f1 => hJ7 (x14, s3.2) _ f1 h so)
  · refine wc_exit ?_
    refine wk_thenE ?_
    refine wk_thenE ?_
    refine wk_blkE ?_
    refine wk_prune [(3, .string s3.1)] ⟨rfl, trivial⟩ (fun f1 => ?_)
    refine wk_then ?_
    refine wc_seq ?_
    refine wc_region ?_
    refine wl_val (at_move rfl) rfl ?_
    refine wl_val (at_assign rfl) rfl ?_
    refine wl_nil ?_
    refine wk_prune [(2, .string s3.1)] ⟨rfl, trivial⟩ (fun f1 => ?_)
    refine wk_then ?_
    refine wc_ret ?_
    exact wk_ret1 (x := s3.1) rfl (by decide) rfl so h
def mosaiclaw02_code.enc : Int → Value := fun r => .int .u8 r
def mosaiclaw02_code.s (a0 : Int) (H0 : Hp) (Q : Int → Hp → Prop) : Prop :=
  Join (fun (s2 : Int) (H3 : Hp) => Lt ((IntKind.wrap .u8 (IntKind.wrap .i64 (s2 + 1))) : Int) (fun x4 => Q x4 H3)) (fun (J1 : Int → Hp → Prop) => if decide ((Int.tmod a0 254) < 0) = true then (J1 ((IntKind.wrap .i64 ((Int.tmod a0 254) + 254))) H0) else (J1 ((Int.tmod a0 254)) H0))
set_option maxRecDepth 20000 in
set_option maxHeartbeats 4000000 in
theorem mosaiclaw02_code.calls (a0 : Int) (w0 : World) (Q : Int → Hp → Prop) (h : mosaiclaw02_code.s a0 w0.heap Q) :
    Ca Tryd.prog 24 #[.int .i64 a0] w0 (Rt mosaiclaw02_code.enc Q w0) := by
  refine ca_start (c := _) Tryd.func24 rfl Tryd.ntmps24 rfl ?_
  have so : Sm w0 w0 := Sm.refl w0
  unfold mosaiclaw02_code.s at h
  refine wc_prune [(0, .int .i64 a0)] ⟨rfl, trivial⟩ (fun f1 => ?_)
  refine wc_seq ?_
  refine wc_region ?_
  refine wl_val (at_assign rfl) rfl ?_
  refine wl_nil ?_
  refine wk_prune [(0, .int .i64 a0)] ⟨rfl, trivial⟩ (fun f1 => ?_)
  refine wk_then ?_
  refine wc_seq ?_
  refine wc_region ?_
  refine wl_val (at_move rfl) rfl ?_
  refine wl_val (at_rem rfl rfl (by decide)) rfl ?_
  refine wl_val (at_assign rfl) rfl ?_
  refine wl_nil ?_
  refine wk_prune [(0, .int .i64 (Int.tmod a0 254))] ⟨rfl, trivial⟩ (fun f1 => ?_)
  refine wk_then ?_
  refine wc_seq ?_
  refine wc_join (w0 := w0) (fun (s2 : Int) => [(0, .int .i64 s2)]) h ?_ ?_
  · rintro s2 w3 f1 h so; refine wk_then ?_
    refine wc_seq ?_
    refine wc_region ?_
    refine wl_val (at_move rfl) rfl ?_
    refine wl_val (at_add rfl rfl) rfl ?_
    refine wl_val (at_conv Tryd.underlying3 Tryd.underlying5 rfl) rfl ?_
    refine wl_val (at_assign rfl) rfl ?_
    obtain ⟨x4, e5⟩ : ∃ x : Int, x = (IntKind.wrap .u8 (IntKind.wrap .i64 (s2 + 1))) := ⟨_, rfl⟩; replace h := h x4 e5
    refine wl_set (t := 2) (v := .int .u8 x4) (congrArg (Value.int .u8) e5.symm) ?_
    refine wl_nil ?_
    refine wk_prune [(2, .int .u8 x4)] ⟨rfl, trivial⟩ (fun f1 => ?_)
    refine wk_then ?_
    refine wc_ret ?_
    exact wk_ret1 (x := x4) rfl (by decide) rfl so h
  · intro J1 h hJ1
    refine wc_seq ?_
    refine wc_region ?_
    refine wl_val (at_move rfl) rfl ?_
    refine wl_val (at_lss rfl rfl) rfl ?_
    refine wl_nil ?_
    refine wk_prune [(0, .int .i64 (Int.tmod a0 254)), (6, .bool (decide ((Int.tmod a0 254) < 0)))] ⟨rfl, rfl, trivial⟩ (fun f1 => ?_)
    refine wk_then ?_
    refine wc_cond rfl h (fun h => ?_) (fun h => ?_)
    · refine wc_region ?_
      refine wl_val (at_move rfl) rfl ?_
      refine wl_val (at_add rfl rfl) rfl ?_
      refine wl_val (at_assign rfl) rfl ?_
      refine wl_nil ?_
      exact wk_prune [(0, .int .i64 (IntKind.wrap .i64 ((Int.tmod a0 254) + 254)))] ⟨rfl, trivial⟩ (fun f1 => hJ1 ((IntKind.wrap .i64 ((Int.tmod a0 254) + 254))) _ f1 h so)
    · refine wc_skip ?_
      exact wk_prune [(0, .int .i64 (Int.tmod a0 254))] ⟨rfl, trivial⟩ (fun f1 => hJ1 ((Int.tmod a0 254)) _ f1 h so)
end Go.Proofs.YtkplpbnifinlbaaDoor.G
