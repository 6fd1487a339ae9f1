/- Of this text what the row needs. -/
import Derived.Test.YtkplpbnifinlbaaDoorQMarkerStuffsKshelf
namespace Go.Proofs.YtkplpbnifinlbaaDoor.G
open Go.RowKit
set_option linter.unusedVariables false
set_option linter.unusedSimpArgs false
def mosaicref02_Rows.enc : Sl → Value := fun r => .slice r.a r.n r.c
def mosaicref02_row.enc : Int × Int × Int × ByteArray × Int × Bool → Value := fun r => .tuple #[.agg (c46 r.1 r.2.1 r.2.2.1 r.2.2.2.1 r.2.2.2.2.1).toArray, .bool r.2.2.2.2.2]
def mosaicref02_digit.enc : ByteArray → Value := fun r => .string r
def mosaicref02_Name.enc : ByteArray → Value := fun r => .string r
def mosaicref02_Code.enc : Int × Bool → Value := fun r => .tuple #[.int .u8 r.1, .bool r.2]
def mosaicref02_Kind.enc : Int → Value := fun r => .int .i8 r
def mosaicref02_Free.enc : Bool → Value := fun r => .bool r
def mosaicref02_Free.s (a0 : ByteArray) (H0 : Hp) (Q : Bool → Hp → Prop) : Prop :=
  ∃ k1, Fix (fun (rec6 : Int → Hp → Prop) (s3 : Int) (H4 : Hp) => if decide (s3 < (a0.size : Int)) = true then (Join (fun (s8 : Bool) (H9 : Hp) => if s8 = true then (Q false H9) else (rec6 ((IntKind.wrap .i64 (s3 + 1))) H9)) (fun (J7 : Bool → Hp → Prop) => 0 ≤ s3 ∧ s3 < (a0.size : Int) ∧ (if ((bt a0 s3) == 255) = true then (if ((IntKind.wrap .i64 (s3 + 1)) == (a0.size : Int)) = true then (J7 (true) H4) else (0 ≤ (IntKind.wrap .i64 (s3 + 1)) ∧ (IntKind.wrap .i64 (s3 + 1)) < (a0.size : Int) ∧ (J7 (((bt a0 (IntKind.wrap .i64 (s3 + 1))) != 0)) H4))) else (J7 (false) H4)))) else (Q true H4)) k1 (0) H0
set_option maxRecDepth 20000 in
set_option maxHeartbeats 4000000 in
theorem mosaicref02_Free.calls (a0 : ByteArray) (w0 : World) (Q : Bool → Hp → Prop) (h : mosaicref02_Free.s a0 w0.heap Q) :
    Ca Tryd.prog 17 #[.string a0] w0 (Rt mosaicref02_Free.enc Q w0) := by
  refine ca_start (c := _) Tryd.func17 rfl Tryd.ntmps17 rfl ?_
  have so : Sm w0 w0 := Sm.refl w0
  unfold mosaicref02_Free.s at h
  refine wc_prune [(0, .string a0)] ⟨rfl, trivial⟩ (fun f1 => ?_)
  refine wc_seq ?_
  refine wc_region ?_
  refine wl_val (at_assign rfl) rfl ?_
  refine wl_nil ?_
  refine wk_prune [(0, .string a0)] ⟨rfl, trivial⟩ (fun f1 => ?_)
  refine wk_then ?_
  refine wc_seq ?_
  refine wc_seq ?_
  refine wc_region ?_
  refine wl_val (at_assign rfl) rfl ?_
  refine wl_nil ?_
  refine wk_prune [(0, .string a0), (3, .int .i64 0)] ⟨rfl, rfl, trivial⟩ (fun f1 => ?_)
  refine wk_then ?_
  refine wc_block ?_
  obtain ⟨k1, h⟩ := h
  refine wc_loop (fun k a w => ∃ (s3 : Int) (f1 : Nat → Value), a = ac 28 (en f1 [(0, .string a0), (3, .int .i64 s3)]) [] ∧ Sm w0 w ∧ Fix _ k s3 w.heap) k1 ⟨(0), _, ac_again ⟨rfl, rfl, trivial⟩, so, h⟩ ?_
  rintro k2 a5 w4 ⟨s3, f1, rfl, so, h⟩
  rcases k2 with _ | k2
  · exact h.elim
  replace h := Fix.un h; refine wc_in ?_
  refine wc_seq ?_
  refine wc_seq ?_
  refine wc_region ?_
  refine wl_val (at_move rfl) rfl ?_
  refine wl_val (at_move rfl) rfl ?_
  refine wl_val (at_lenS Tryd.underlying9 rfl) rfl ?_
  refine wl_val (at_lss rfl rfl) rfl ?_
  refine wl_nil ?_
  refine wk_prune [(0, .string a0), (3, .int .i64 s3), (7, .bool (decide (s3 < (a0.size : Int))))] ⟨rfl, rfl, rfl, trivial⟩ (fun f1 => ?_)
  refine wk_then ?_
  refine wc_cond rfl h (fun h => ?_) (fun h => ?_)
  · refine wc_skip ?_
    refine wk_prune [(0, .string a0), (3, .int .i64 s3)] ⟨rfl, rfl, trivial⟩ (fun f1 => ?_)
    refine wk_then ?_
    refine wc_seq ?_
    refine wc_block ?_
    refine wc_seq ?_
    refine wc_join (w0 := w0) (fun (s8 : Bool) => [(0, .string a0), (3, .int .i64 s3), (27, .bool s8)]) h ?_ ?_
    · rintro s8 w9 f1 h so; refine wk_then ?_
      refine wc_cond rfl h (fun h => ?_) (fun h => ?_)
      · refine wc_seq ?_
        refine wc_region ?_
        refine wl_val (at_assign rfl) rfl ?_
        refine wl_nil ?_
        refine wk_prune [(2, .bool false)] ⟨rfl, trivial⟩ (fun f1 => ?_)
        refine wk_then ?_
        refine wc_ret ?_
        refine wk_blkR ?_
        refine wk_thenR ?_
        refine wk_thenR ?_
        refine wk_blkR ?_
        refine wk_thenR ?_
        exact wk_ret1 (x := false) rfl (by decide) rfl so h
      · refine wc_skip ?_
        refine wk_blkN ?_
        refine wk_prune [(0, .string a0), (3, .int .i64 s3)] ⟨rfl, rfl, trivial⟩ (fun f1 => ?_)
        refine wk_then ?_
        refine wc_region ?_
        refine wl_val (at_move rfl) rfl ?_
        refine wl_val (at_add rfl rfl) rfl ?_
        refine wl_val (at_assign rfl) rfl ?_
        refine wl_nil ?_
        exact wk_again ⟨((IntKind.wrap .i64 (s3 + 1))), _, ac_again ⟨rfl, rfl, trivial⟩, so, h⟩
    · intro J7 h hJ7
      refine wc_region ?_
      refine wl_val (at_move rfl) rfl ?_
      refine wl_val (at_move rfl) rfl ?_
      obtain ⟨q10, q11, h⟩ := h
      refine wl_val (at_ixS Tryd.underlying9 rfl rfl q10 q11) rfl ?_
      refine wl_val (at_eql rfl rfl) rfl ?_
      refine wl_val (at_move rfl) rfl ?_
      refine bif_ h (fun hb h => ?_) (fun hb h => ?_)
      · refine wl_set (t := 14) (v := .bool true) (congrArg Value.bool hb) ?_; clear hb
        refine wl_on (t := 14) rfl (by decide) rfl ?_
        refine wl_val (at_move rfl) rfl ?_
        refine wl_on (t := 14) rfl (by decide) rfl ?_
        refine wl_val (at_add rfl rfl) rfl ?_
        refine wl_on (t := 14) rfl (by decide) rfl ?_
        refine wl_val (at_move rfl) rfl ?_
        refine wl_on (t := 14) rfl (by decide) rfl ?_
        refine wl_val (at_lenS Tryd.underlying9 rfl) rfl ?_
        refine wl_on (t := 14) rfl (by decide) rfl ?_
        refine wl_val (at_eql rfl rfl) rfl ?_
        refine wl_on (t := 14) rfl (by decide) rfl ?_
        refine wl_val (at_move rfl) rfl ?_
        refine bif_ h (fun hb h => ?_) (fun hb h => ?_)
        · refine wl_set (t := 20) (v := .bool true) (congrArg Value.bool hb) ?_; clear hb
          refine wl_off (t := 20) rfl (by decide) rfl ?_
          refine wl_off (t := 20) rfl (by decide) rfl ?_
          refine wl_off (t := 20) rfl (by decide) rfl ?_
          refine wl_off (t := 20) rfl (by decide) rfl ?_
          refine wl_off (t := 20) rfl (by decide) rfl ?_
          refine wl_on (t := 14) rfl (by decide) rfl ?_
          refine wl_val (at_pick_t rfl rfl) rfl ?_
          refine wl_val (at_pick_t rfl rfl) rfl ?_
          refine wl_nil ?_
          exact wk_prune [(0, .string a0), (3, .int .i64 s3), (27, .bool true)] ⟨rfl, rfl, rfl, trivial⟩ (fun f1 => hJ7 (true) _ f1 h so)
        · refine wl_set (t := 20) (v := .bool false) (congrArg Value.bool hb) ?_; clear hb
          refine wl_on (t := 20) rfl (by decide) rfl ?_
          refine wl_val (at_move rfl) rfl ?_
          refine wl_on (t := 20) rfl (by decide) rfl ?_
          refine wl_val (at_move rfl) rfl ?_
          refine wl_on (t := 20) rfl (by decide) rfl ?_
          refine wl_val (at_add rfl rfl) rfl ?_
          refine wl_on (t := 20) rfl (by decide) rfl ?_
          obtain ⟨q12, q13, h⟩ := h
          refine wl_val (at_ixS Tryd.underlying9 rfl rfl q12 q13) rfl ?_
          refine wl_on (t := 20) rfl (by decide) rfl ?_
          refine wl_val (at_neq rfl rfl) rfl ?_
          refine wl_on (t := 14) rfl (by decide) rfl ?_
          refine wl_val (at_pick_f rfl rfl) rfl ?_
          refine wl_val (at_pick_t rfl rfl) rfl ?_
          refine wl_nil ?_
          exact wk_prune [(0, .string a0), (3, .int .i64 s3), (27, .bool ((bt a0 (IntKind.wrap .i64 (s3 + 1))) != 0))] ⟨rfl, rfl, rfl, trivial⟩ (fun f1 => hJ7 (((bt a0 (IntKind.wrap .i64 (s3 + 1))) != 0)) _ f1 h so)
      · refine wl_set (t := 14) (v := .bool false) (congrArg Value.bool hb) ?_; clear hb
        refine wl_off (t := 14) rfl (by decide) rfl ?_
        refine wl_off (t := 14) rfl (by decide) rfl ?_
        refine wl_off (t := 14) rfl (by decide) rfl ?_
        refine wl_off (t := 14) rfl (by decide) rfl ?_
        refine wl_off (t := 14) rfl (by decide) rfl ?_
        refine wl_off (t := 14) rfl (by decide) rfl ?_
        refine wl_off' (t := 20) rfl (by decide) rfl ?_
        refine wl_off' (t := 20) rfl (by decide) rfl ?_
        refine wl_off' (t := 20) rfl (by decide) rfl ?_
        refine wl_off' (t := 20) rfl (by decide) rfl ?_
        refine wl_off' (t := 20) rfl (by decide) rfl ?_
        refine wl_off (t := 14) rfl (by decide) rfl ?_
        refine wl_val (at_pick_f rfl rfl) rfl ?_
        refine wl_nil ?_
        exact wk_prune [(0, .string a0), (3, .int .i64 s3), (27, .bool false)] ⟨rfl, rfl, rfl, trivial⟩ (fun f1 => hJ7 (false) _ f1 h so)
  · refine wc_exit ?_
    refine wk_thenE ?_
    refine wk_thenE ?_
    refine wk_blkE ?_
    refine wk_prune [] trivial (fun f1 => ?_)
    refine wk_then ?_
    refine wc_seq ?_
    refine wc_region ?_
    refine wl_val (at_assign rfl) rfl ?_
    refine wl_nil ?_
    refine wk_prune [(2, .bool true)] ⟨rfl, trivial⟩ (fun f1 => ?_)
    refine wk_then ?_
    refine wc_ret ?_
    exact wk_ret1 (x := true) rfl (by decide) rfl so h
def mosaicref02_Stuff.enc : ByteArray → Value := fun r => .string r
def mosaicref02_Stuff.s (a0 : ByteArray) (H0 : Hp) (Q : ByteArray → Hp → Prop) : Prop :=
  ∃ k1, Fix (fun (rec6 : (ByteArray × Int) → Hp → Prop) (s3 : ByteArray × Int) (H4 : Hp) => if decide (s3.2 < (a0.size : Int)) = true then (Join (fun (s8 : ByteArray) (H9 : Hp) => rec6 (s8, (IntKind.wrap .i64 (s3.2 + 1))) H9) (fun (J7 : ByteArray → Hp → Prop) => 0 ≤ s3.2 ∧ s3.2 ≤ (IntKind.wrap .i64 (s3.2 + 1)) ∧ (IntKind.wrap .i64 (s3.2 + 1)) ≤ (a0.size : Int) ∧ (s3.1.size + (a0.extract (Int.toNat s3.2) (Int.toNat (IntKind.wrap .i64 (s3.2 + 1)))).size ≤ 9223372036854775807 ∧ (Lt ((s3.1 ++ (a0.extract (Int.toNat s3.2) (Int.toNat (IntKind.wrap .i64 (s3.2 + 1))))) : ByteArray) (fun x14 => 0 ≤ s3.2 ∧ s3.2 < (a0.size : Int) ∧ (if ((bt a0 s3.2) == 255) = true then (x14.size + (⟨#[0]⟩ : ByteArray).size ≤ 9223372036854775807 ∧ (J7 ((x14 ++ (⟨#[0]⟩ : ByteArray))) H4)) else (J7 (x14) H4))))))) else (Q s3.1 H4)) k1 ((⟨#[]⟩ : ByteArray), 0) H0
set_option maxRecDepth 20000 in
set_option maxHeartbeats 4000000 in
theorem mosaicref02_Stuff.calls (a0 : ByteArray) (w0 : World) (Q : ByteArray → Hp → Prop) (h : mosaicref02_Stuff.s a0 w0.heap Q) :
    Ca Tryd.prog 19 #[.string a0] w0 (Rt mosaicref02_Stuff.enc Q w0) := by
  refine ca_start (c := _) Tryd.func19 rfl Tryd.ntmps19 rfl ?_
  have so : Sm w0 w0 := Sm.refl w0
  unfold mosaicref02_Stuff.s at h
  refine wc_prune [(0, .string a0)] ⟨rfl, trivial⟩ (fun f1 => ?_)
  refine wc_seq ?_
  refine wc_region ?_
  refine wl_val (at_assign rfl) rfl ?_
  refine wl_nil ?_
  refine wk_prune [(0, .string a0)] ⟨rfl, trivial⟩ (fun f1 => ?_)
  refine wk_then ?_
  refine wc_seq ?_
  refine wc_region ?_
  refine wl_val (at_assign rfl) rfl ?_
  refine wl_nil ?_
  refine wk_prune [(0, .string a0), (3, .string (⟨#[]⟩ : ByteArray))] ⟨rfl, rfl, trivial⟩ (fun f1 => ?_)
  refine wk_then ?_
  refine wc_seq ?_
  refine wc_seq ?_
  refine wc_region ?_
  refine wl_val (at_assign rfl) rfl ?_
  refine wl_nil ?_
  refine wk_prune [(0, .string a0), (3, .string (⟨#[]⟩ : ByteArray)), (4, .int .i64 0)] ⟨rfl, rfl, rfl, trivial⟩ (fun f1 => ?_)
  refine wk_then ?_
  refine wc_block ?_
  obtain ⟨k1, h⟩ := h
  refine wc_loop (fun k a w => ∃ (s3 : ByteArray × Int) (f1 : Nat → Value), a = ac 25 (en f1 [(0, .string a0), (3, .string s3.1), (4, .int .i64 s3.2)]) [] ∧ Sm w0 w ∧ Fix _ k s3 w.heap) k1 ⟨((⟨#[]⟩ : ByteArray), 0), _, ac_again ⟨rfl, rfl, rfl, trivial⟩, so, h⟩ ?_
  rintro k2 a5 w4 ⟨s3, f1, rfl, so, h⟩
  rcases k2 with _ | k2
  · exact h.elim
  replace h := Fix.un h; refine wc_in ?_
  refine wc_seq ?_
  refine wc_seq ?_
  refine wc_region ?_
  refine wl_val (at_move rfl) rfl ?_
  refine wl_val (at_move rfl) rfl ?_
  refine wl_val (at_lenS Tryd.underlying9 rfl) rfl ?_
  refine wl_val (at_lss rfl rfl) rfl ?_
  refine wl_nil ?_
  refine wk_prune [(0, .string a0), (3, .string s3.1), (4, .int .i64 s3.2), (8, .bool (decide (s3.2 < (a0.size : Int))))] ⟨rfl, rfl, rfl, rfl, trivial⟩ (fun f1 => ?_)
  refine wk_then ?_
  refine wc_cond rfl h (fun h => ?_) (fun h => ?_)
  · refine wc_skip ?_
    refine wk_prune [(0, .string a0), (3, .string s3.1), (4, .int .i64 s3.2)] ⟨rfl, rfl, rfl, trivial⟩ (fun f1 => ?_)
    refine wk_then ?_
    refine wc_seq ?_
    refine wc_join (w0 := w0) (fun (s8 : ByteArray) => [(0, .string a0), (3, .string s8), (4, .int .i64 s3.2)]) h ?_ ?_
    · rintro s8 w9 f1 h so; refine wk_then ?_
      refine wc_region ?_
      refine wl_val (at_move rfl) rfl ?_
      refine wl_val (at_add rfl rfl) rfl ?_
      refine wl_val (at_assign rfl) rfl ?_
      refine wl_nil ?_
      exact wk_again ⟨(s8, (IntKind.wrap .i64 (s3.2 + 1))), _, ac_again ⟨rfl, rfl, rfl, trivial⟩, so, h⟩
    · intro J7 h hJ7
      refine wc_block ?_
      refine wc_seq ?_
      refine wc_region ?_
      refine wl_val (at_move rfl) rfl ?_
      refine wl_val (at_move rfl) rfl ?_
      refine wl_val (at_move rfl) rfl ?_
      refine wl_val (at_move rfl) rfl ?_
      refine wl_val (at_add rfl rfl) rfl ?_
      obtain ⟨q10, q11, q12, h⟩ := h
      refine wl_val (at_subS Tryd.underlying9 rfl rfl rfl q10 q11 q12) rfl ?_
      obtain ⟨q13, h⟩ := h
      refine wl_val (at_cat rfl rfl q13) rfl ?_
      refine wl_val (at_assign rfl) rfl ?_
      obtain ⟨x14, e15⟩ : ∃ x : ByteArray, x = (s3.1 ++ (a0.extract (Int.toNat s3.2) (Int.toNat (IntKind.wrap .i64 (s3.2 + 1))))) := ⟨_, rfl⟩; replace h := h x14 e15
      refine wl_set (t := 3) (v := .string x14) (congrArg Value.string e15.symm) ?_
      refine wl_nil ?_
      refine wk_prune [(0, .string a0), (3, .string x14), (4, .int .i64 s3.2)] ⟨rfl, rfl, rfl, trivial⟩ (fun f1 => ?_)
      refine wk_then ?_
      refine wc_seq ?_
      refine wc_region ?_
      refine wl_val (at_move rfl) rfl ?_
      refine wl_val (at_move rfl) rfl ?_
      obtain ⟨q16, q17, h⟩ := h
      refine wl_val (at_ixS Tryd.underlying9 rfl rfl q16 q17) rfl ?_
      refine wl_val (at_eql rfl rfl) rfl ?_
      refine wl_nil ?_
      refine wk_prune [(0, .string a0), (3, .string x14), (4, .int .i64 s3.2), (21, .bool ((bt a0 s3.2) == 255))] ⟨rfl, rfl, rfl, rfl, trivial⟩ (fun f1 => ?_)
      refine wk_then ?_
      refine wc_cond rfl h (fun h => ?_) (fun h => ?_)
      · refine wc_region ?_
        refine wl_val (at_move rfl) rfl ?_
        obtain ⟨q18, h⟩ := h
        refine wl_val (at_cat rfl rfl q18) rfl ?_
        refine wl_val (at_assign rfl) rfl ?_
        refine wl_nil ?_
        refine wk_blkN ?_
        exact wk_prune [(0, .string a0), (3, .string (x14 ++ (⟨#[0]⟩ : ByteArray))), (4, .int .i64 s3.2)] ⟨rfl, rfl, rfl, trivial⟩ (fun f1 => hJ7 ((x14 ++ (⟨#[0]⟩ : ByteArray))) _ f1 h so)
      · refine wc_skip ?_
        refine wk_blkN ?_
        exact wk_prune [(0, .string a0), (3, .string x14), (4, .int .i64 s3.2)] ⟨rfl, rfl, rfl, trivial⟩ (fun f1 => hJ7 (x14) _ f1 h so)
  · refine wc_exit ?_
    refine wk_thenE ?_
    refine wk_thenE ?_
    refine wk_blkE ?_
    refine wk_prune [(3, .string s3.1)] ⟨rfl, trivial⟩ (fun f1 => ?_)
    refine wk_then ?_
    refine wc_seq ?_
    refine wc_region ?_
    refine wl_val (at_move rfl) rfl ?_
    refine wl_val (at_assign rfl) rfl ?_
    refine wl_nil ?_
    refine wk_prune [(2, .string s3.1)] ⟨rfl, trivial⟩ (fun f1 => ?_)
    refine wk_then ?_
    refine wc_ret ?_
    exact wk_ret1 (x := s3.1) rfl (by decide) rfl so h
end Go.Proofs.YtkplpbnifinlbaaDoor.G
