import Derived.Test.YtkplpbnifinlbaaKshelf
namespace Go.Proofs.Ytkplpbnifinlbaa.G
open Go.RowKit
set_option linter.unusedVariables false
set_option linter.unusedSimpArgs false
/-- mosaic/marker.Next -/
def marker_Next.enc : Int × Int × Int × Bool → Value := fun r => .tuple #[.agg (c23 r.1 r.2.1 r.2.2.1).toArray, .bool r.2.2.2]
def marker_Next.s (a0 : ByteArray) (a1 : Int) (H0 : Hp) (Q : (Int × Int × Int × Bool) → Hp → Prop) : Prop :=
  nw H0 23 (c23 0 0 0) (fun p1 H2 => Join (fun (s4 : Unit) (H5 : Hp) => stA H5 p1 (c23 0 0 0) (fun H6 => ∃ x8 : Int, ∃ x9 : Int, ∃ x10 : Int, ldA H6 p1 (c23 x8 x9 x10) ∧ (Q (x8, x9, x10, false) H6))) (fun (J3 : Unit → Hp → Prop) => ∃ k11, Fix (fun (rec16 : Int → Hp → Prop) (s13 : Int) (H14 : Hp) => if decide (s13 < (IntKind.wrap .i64 ((a0.size : Int) - 1))) = true then (0 ≤ s13 ∧ s13 ≤ (a0.size : Int) ∧ (strings_IndexByte.s (a0.extract (Int.toNat s13) a0.size) 255 H14 (fun x19 H20 => Join (fun (s22 : Bool) (H23 : Hp) => if s22 = true then (J3 () H23) else (0 ≤ (IntKind.wrap .i64 ((IntKind.wrap .i64 (s13 + x19)) + 1)) ∧ (IntKind.wrap .i64 ((IntKind.wrap .i64 (s13 + x19)) + 1)) < (a0.size : Int) ∧ (Lt ((bt a0 (IntKind.wrap .i64 ((IntKind.wrap .i64 (s13 + x19)) + 1))) : Int) (fun x26 => Join (fun (s29 : Bool) (H30 : Hp) => if s29 = true then (stA H30 p1 (c23 (IntKind.wrap .i64 (s13 + x19)) (IntKind.wrap .i64 ((IntKind.wrap .i64 (s13 + x19)) + 2)) x26) (fun H31 => ∃ x33 : Int, ∃ x34 : Int, ∃ x35 : Int, ldA H31 p1 (c23 x33 x34 x35) ∧ (Q (x33, x34, x35, true) H31))) else (Lt ((IntKind.wrap .i64 ((IntKind.wrap .i64 (s13 + x19)) + 1)) : Int) (fun x36 => rec16 (x36) H30))) (fun (J28 : Bool → Hp → Prop) => if (x26 != 0) = true then (J28 ((x26 != 255)) H23) else (J28 (false) H23)))))) (fun (J21 : Bool → Hp → Prop) => if decide (x19 < 0) = true then (J21 (true) H20) else (J21 ((decide ((a0.size : Int) ≤ (IntKind.wrap .i64 ((IntKind.wrap .i64 (s13 + x19)) + 1))))) H20))))) else (J3 () H14)) k11 ((if a1 < 0 then 0 else a1)) H2))
set_option maxRecDepth 20000 in
set_option maxHeartbeats 4000000 in
theorem marker_Next.calls (a0 : ByteArray) (a1 : Int) (w0 : World) (Q : (Int × Int × Int × Bool) → Hp → Prop) (h : marker_Next.s a0 a1 w0.heap Q) :
    Ca Try.prog 6 #[.string a0, .int .i64 a1] w0 (Rt marker_Next.enc Q w0) := by
  refine ca_start (c := _) Try.func6 rfl Try.ntmps6 rfl ?_
  have so : Sm w0 w0 := Sm.refl w0
  unfold marker_Next.s at h
  refine wc_prune [(0, .string a0), (1, .int .i64 a1)] ⟨rfl, rfl, trivial⟩ (fun f1 => ?_)
  refine wc_seq ?_
  refine wc_region ?_
  refine wl_new (ef_alloc zero23 rfl) rfl so h ?_; intro p1 w2 h so
  refine wl_val (at_assign rfl) rfl ?_
  refine wl_nil ?_
  refine wk_prune [(0, .string a0), (1, .int .i64 a1), (4, .pointer (some p1))] ⟨rfl, rfl, rfl, trivial⟩ (fun f1 => ?_)
  refine wk_then ?_
  refine wc_seq ?_
  refine wc_join (w0 := w0) (fun (s4 : Unit) => [(4, .pointer (some p1))]) h ?_ ?_
  · intro s4 w5 f1 h so; refine wk_then ?_
    refine wc_seq ?_
    refine wc_region ?_
    refine wl_val (at_build (cs := (c23 0 0 0)) (ps := []) rfl (fun w => by simp [Instr.build, Instr.fill, go_sem, Try.underlying23, z23])) rfl ?_
    refine wl_stA h rfl so (fun q => ef_storeA (by rw [len23]; exact sz23) rfl rfl (one23 _ _ _) q) ?_; intro w6 h so
    refine wl_val (at_assign rfl) rfl ?_
    refine wl_nil ?_
    refine wk_prune [(4, .pointer (some p1)), (5, .bool false)] ⟨rfl, rfl, trivial⟩ (fun f1 => ?_)
    refine wk_then ?_
    refine wc_ret ?_
    obtain ⟨x8, x9, x10, q7, h⟩ := h
    exact wk_retR2 (x := (x8, x9, x10, false)) rfl ⟨by decide, _, rfl, loadVar_agg (cs := (c23 x8 x9 x10)) Try.underlying23 rfl (by rw [len23]; exact sz23) q7⟩ ⟨by decide, rfl⟩ rfl so h
  · intro J3 h hJ3
    refine wc_seq ?_
    refine wc_region ?_
    refine wl_val (at_move rfl) rfl ?_
    refine wl_val (at_max rfl rfl) rfl ?_
    refine wl_val (at_assign rfl) rfl ?_
    refine wl_nil ?_
    refine wk_prune [(0, .string a0), (1, .int .i64 (if a1 < 0 then 0 else a1)), (4, .pointer (some p1))] ⟨rfl, rfl, rfl, trivial⟩ (fun f1 => ?_)
    refine wk_then ?_
    refine wc_block ?_
    obtain ⟨k11, h⟩ := h
    refine wc_loop (fun k a w => ∃ (s13 : Int) (f1 : Nat → Value), a = ac 51 (en f1 [(0, .string a0), (1, .int .i64 s13), (4, .pointer (some p1))]) [] ∧ Sm w0 w ∧ Fix _ k s13 w.heap) k11 ⟨((if a1 < 0 then 0 else a1)), _, ac_again ⟨rfl, rfl, rfl, trivial⟩, so, h⟩ ?_
    rintro k12 a15 w14 ⟨s13, f1, rfl, so, h⟩
    rcases k12 with _ | k12
    · exact h.elim
    replace h := Fix.un h; refine wc_in ?_
    refine wc_seq ?_
    refine wc_seq ?_
    refine wc_region ?_
    refine wl_val (at_move rfl) rfl ?_
    refine wl_val (at_move rfl) rfl ?_
    refine wl_val (at_lenS Try.underlying9 rfl) rfl ?_
    refine wl_val (at_sub rfl rfl) rfl ?_
    refine wl_val (at_lss rfl rfl) rfl ?_
    refine wl_nil ?_
    refine wk_prune [(0, .string a0), (1, .int .i64 s13), (4, .pointer (some p1)), (14, .bool (decide (s13 < (IntKind.wrap .i64 ((a0.size : Int) - 1)))))] ⟨rfl, rfl, rfl, rfl, trivial⟩ (fun f1 => ?_)
    refine wk_then ?_
    refine wc_cond rfl h (fun h => ?_) (fun h => ?_)
    · refine wc_skip ?_
      refine wk_prune [(0, .string a0), (1, .int .i64 s13), (4, .pointer (some p1))] ⟨rfl, rfl, rfl, trivial⟩ (fun f1 => ?_)
      refine wk_then ?_
      refine wc_seq ?_
      refine wc_block ?_
      refine wc_seq ?_
      refine wc_region ?_
      refine wl_val (at_move rfl) rfl ?_
      refine wl_val (at_move rfl) rfl ?_
      obtain ⟨q17, q18, h⟩ := h
      refine wl_val (at_subSl Try.underlying9 rfl rfl q17 q18) rfl ?_
      refine wl_callF (strings_IndexByte.calls _ _ _ _ h) enter10 rfl trivial so ?_; intro x19 w20 h so
      refine wl_val (at_assign rfl) rfl ?_
      refine wl_nil ?_
      refine wk_prune [(0, .string a0), (1, .int .i64 s13), (4, .pointer (some p1)), (6, .int .i64 x19)] ⟨rfl, rfl, rfl, rfl, trivial⟩ (fun f1 => ?_)
      refine wk_then ?_
      refine wc_seq ?_
      refine wc_seq ?_
      refine wc_join (w0 := w0) (fun (s22 : Bool) => [(0, .string a0), (1, .int .i64 s13), (4, .pointer (some p1)), (6, .int .i64 x19), (31, .bool s22)]) h ?_ ?_
      · intro s22 w23 f1 h so; refine wk_then ?_
        refine wc_cond rfl h (fun h => ?_) (fun h => ?_)
        · refine wc_exit ?_
          refine wk_thenE ?_
          refine wk_blkO (by decide) ?_
          refine wk_thenE ?_
          refine wk_thenE ?_
          refine wk_blkE ?_
          exact wk_prune [(4, .pointer (some p1))] ⟨rfl, trivial⟩ (fun f1 => hJ3 () _ f1 h so)
        · refine wc_skip ?_
          refine wk_prune [(0, .string a0), (1, .int .i64 s13), (4, .pointer (some p1)), (6, .int .i64 x19)] ⟨rfl, rfl, rfl, rfl, trivial⟩ (fun f1 => ?_)
          refine wk_then ?_
          refine wc_seq ?_
          refine wc_region ?_
          refine wl_val (at_move rfl) rfl ?_
          refine wl_val (at_move rfl) rfl ?_
          refine wl_val (at_add rfl rfl) rfl ?_
          refine wl_val (at_assign rfl) rfl ?_
          refine wl_nil ?_
          refine wk_prune [(0, .string a0), (1, .int .i64 (IntKind.wrap .i64 (s13 + x19))), (4, .pointer (some p1))] ⟨rfl, rfl, rfl, trivial⟩ (fun f1 => ?_)
          refine wk_then ?_
          refine wc_seq ?_
          refine wc_region ?_
          refine wl_val (at_move rfl) rfl ?_
          refine wl_val (at_move rfl) rfl ?_
          refine wl_val (at_add rfl rfl) rfl ?_
          obtain ⟨q24, q25, h⟩ := h
          refine wl_val (at_ixS Try.underlying9 rfl rfl q24 q25) rfl ?_
          refine wl_val (at_assign rfl) rfl ?_
          obtain ⟨x26, e27⟩ : ∃ x : Int, x = (bt a0 (IntKind.wrap .i64 ((IntKind.wrap .i64 (s13 + x19)) + 1))) := ⟨_, rfl⟩; replace h := h x26 e27
          refine wl_set (t := 7) (v := .int .u8 x26) (congrArg (Value.int .u8) e27.symm) ?_
          refine wl_nil ?_
          refine wk_prune [(0, .string a0), (1, .int .i64 (IntKind.wrap .i64 (s13 + x19))), (4, .pointer (some p1)), (7, .int .u8 x26)] ⟨rfl, rfl, rfl, rfl, trivial⟩ (fun f1 => ?_)
          refine wk_then ?_
          refine wc_seq ?_
          refine wc_join (w0 := w0) (fun (s29 : Bool) => [(0, .string a0), (1, .int .i64 (IntKind.wrap .i64 (s13 + x19))), (4, .pointer (some p1)), (7, .int .u8 x26), (44, .bool s29)]) h ?_ ?_
          · intro s29 w30 f1 h so; refine wk_then ?_
            refine wc_cond rfl h (fun h => ?_) (fun h => ?_)
            · refine wc_seq ?_
              refine wc_region ?_
              refine wl_val (at_move rfl) rfl ?_
              refine wl_val (at_move rfl) rfl ?_
              refine wl_val (at_add rfl rfl) rfl ?_
              refine wl_val (at_move rfl) rfl ?_
              refine wl_val (at_build (cs := (c23 (IntKind.wrap .i64 (s13 + x19)) (IntKind.wrap .i64 ((IntKind.wrap .i64 (s13 + x19)) + 2)) x26)) (ps := [(0, .int .i64 (IntKind.wrap .i64 (s13 + x19))), (1, .int .i64 (IntKind.wrap .i64 ((IntKind.wrap .i64 (s13 + x19)) + 2))), (2, .int .u8 x26)]) rfl (fun w => by simp [Instr.build, Instr.fill, go_sem, Try.underlying23, z23])) rfl ?_
              refine wl_stA h rfl so (fun q => ef_storeA (by rw [len23]; exact sz23) rfl rfl (one23 _ _ _) q) ?_; intro w31 h so
              refine wl_val (at_assign rfl) rfl ?_
              refine wl_nil ?_
              refine wk_prune [(4, .pointer (some p1)), (5, .bool true)] ⟨rfl, rfl, trivial⟩ (fun f1 => ?_)
              refine wk_then ?_
              refine wc_ret ?_
              refine wk_blkR ?_
              refine wk_thenR ?_
              refine wk_thenR ?_
              refine wk_blkR ?_
              refine wk_thenR ?_
              obtain ⟨x33, x34, x35, q32, h⟩ := h
              exact wk_retR2 (x := (x33, x34, x35, true)) rfl ⟨by decide, _, rfl, loadVar_agg (cs := (c23 x33 x34 x35)) Try.underlying23 rfl (by rw [len23]; exact sz23) q32⟩ ⟨by decide, rfl⟩ rfl so h
            · refine wc_skip ?_
              refine wk_blkN ?_
              refine wk_prune [(0, .string a0), (1, .int .i64 (IntKind.wrap .i64 (s13 + x19))), (4, .pointer (some p1))] ⟨rfl, rfl, rfl, trivial⟩ (fun f1 => ?_)
              refine wk_then ?_
              refine wc_region ?_
              refine wl_val (at_move rfl) rfl ?_
              refine wl_val (at_add rfl rfl) rfl ?_
              refine wl_val (at_assign rfl) rfl ?_
              obtain ⟨x36, e37⟩ : ∃ x : Int, x = (IntKind.wrap .i64 ((IntKind.wrap .i64 (s13 + x19)) + 1)) := ⟨_, rfl⟩; replace h := h x36 e37
              refine wl_set (t := 1) (v := .int .i64 x36) (congrArg (Value.int .i64) e37.symm) ?_
              refine wl_nil ?_
              exact wk_again ⟨(x36), _, ac_again ⟨rfl, rfl, rfl, trivial⟩, so, h⟩
          · intro J28 h hJ28
            refine wc_region ?_
            refine wl_val (at_move rfl) rfl ?_
            refine wl_val (at_neq rfl rfl) rfl ?_
            refine wl_val (at_move rfl) rfl ?_
            refine bif_ h (fun hb h => ?_) (fun hb h => ?_)
            · refine wl_set (t := 41) (v := .bool true) (congrArg Value.bool hb) ?_; clear hb
              refine wl_on (t := 41) rfl (by decide) rfl ?_
              refine wl_val (at_move rfl) rfl ?_
              refine wl_on (t := 41) rfl (by decide) rfl ?_
              refine wl_val (at_neq rfl rfl) rfl ?_
              refine wl_val (at_pick_t rfl rfl) rfl ?_
              refine wl_nil ?_
              exact wk_prune [(0, .string a0), (1, .int .i64 (IntKind.wrap .i64 (s13 + x19))), (4, .pointer (some p1)), (7, .int .u8 x26), (44, .bool (x26 != 255))] ⟨rfl, rfl, rfl, rfl, rfl, trivial⟩ (fun f1 => hJ28 ((x26 != 255)) _ f1 h so)
            · refine wl_set (t := 41) (v := .bool false) (congrArg Value.bool hb) ?_; clear hb
              refine wl_off (t := 41) rfl (by decide) rfl ?_
              refine wl_off (t := 41) rfl (by decide) rfl ?_
              refine wl_val (at_pick_f rfl rfl) rfl ?_
              refine wl_nil ?_
              exact wk_prune [(0, .string a0), (1, .int .i64 (IntKind.wrap .i64 (s13 + x19))), (4, .pointer (some p1)), (7, .int .u8 x26), (44, .bool false)] ⟨rfl, rfl, rfl, rfl, rfl, trivial⟩ (fun f1 => hJ28 (false) _ f1 h so)
      · intro J21 h hJ21
        refine wc_region ?_
        refine wl_val (at_move rfl) rfl ?_
        refine wl_val (at_lss rfl rfl) rfl ?_
        refine wl_val (at_move rfl) rfl ?_
        refine bif_ h (fun hb h => ?_) (fun hb h => ?_)
        · refine wl_set (t := 23) (v := .bool true) (congrArg Value.bool hb) ?_; clear hb
          refine wl_off (t := 23) rfl (by decide) rfl ?_
          refine wl_off (t := 23) rfl (by decide) rfl ?_
          refine wl_off (t := 23) rfl (by decide) rfl ?_
          refine wl_off (t := 23) rfl (by decide) rfl ?_
          refine wl_off (t := 23) rfl (by decide) rfl ?_
          refine wl_off (t := 23) rfl (by decide) rfl ?_
          refine wl_off (t := 23) rfl (by decide) rfl ?_
          refine wl_val (at_pick_t rfl rfl) rfl ?_
          refine wl_nil ?_
          exact wk_prune [(0, .string a0), (1, .int .i64 s13), (4, .pointer (some p1)), (6, .int .i64 x19), (31, .bool true)] ⟨rfl, rfl, rfl, rfl, rfl, trivial⟩ (fun f1 => hJ21 (true) _ f1 h so)
        · refine wl_set (t := 23) (v := .bool false) (congrArg Value.bool hb) ?_; clear hb
          refine wl_on (t := 23) rfl (by decide) rfl ?_
          refine wl_val (at_move rfl) rfl ?_
          refine wl_on (t := 23) rfl (by decide) rfl ?_
          refine wl_val (at_move rfl) rfl ?_
          refine wl_on (t := 23) rfl (by decide) rfl ?_
          refine wl_val (at_add rfl rfl) rfl ?_
          refine wl_on (t := 23) rfl (by decide) rfl ?_
          refine wl_val (at_add rfl rfl) rfl ?_
          refine wl_on (t := 23) rfl (by decide) rfl ?_
          refine wl_val (at_move rfl) rfl ?_
          refine wl_on (t := 23) rfl (by decide) rfl ?_
          refine wl_val (at_lenS Try.underlying9 rfl) rfl ?_
          refine wl_on (t := 23) rfl (by decide) rfl ?_
          refine wl_val (at_geq rfl rfl) rfl ?_
          refine wl_val (at_pick_f rfl rfl) rfl ?_
          refine wl_nil ?_
          exact wk_prune [(0, .string a0), (1, .int .i64 s13), (4, .pointer (some p1)), (6, .int .i64 x19), (31, .bool (decide ((a0.size : Int) ≤ (IntKind.wrap .i64 ((IntKind.wrap .i64 (s13 + x19)) + 1)))))] ⟨rfl, rfl, rfl, rfl, rfl, trivial⟩ (fun f1 => hJ21 ((decide ((a0.size : Int) ≤ (IntKind.wrap .i64 ((IntKind.wrap .i64 (s13 + x19)) + 1))))) _ f1 h so)
    · refine wc_exit ?_
      refine wk_thenE ?_
      refine wk_thenE ?_
      refine wk_blkE ?_
      exact wk_prune [(4, .pointer (some p1))] ⟨rfl, trivial⟩ (fun f1 => hJ3 () _ f1 h so)

/-- mosaic/marker.All -/
def marker_All.enc : Addr → Value := fun r => .func (.func 11) #[] #[.pointer (some r)]
def marker_All.s (a0 : ByteArray) (H0 : Hp) (Q : Addr → Hp → Prop) : Prop :=
  nw H0 9 [.string a0] (fun p1 H2 => Q p1 H2)
set_option maxRecDepth 20000 in
set_option maxHeartbeats 4000000 in
theorem marker_All.calls (a0 : ByteArray) (w0 : World) (Q : Addr → Hp → Prop) (h : marker_All.s a0 w0.heap Q) :
    Ca Try.prog 9 #[.string a0] w0 (Rt marker_All.enc Q w0) := by
  refine ca_start (c := _) Try.func9 rfl Try.ntmps9 rfl ?_
  have so : Sm w0 w0 := Sm.refl w0
  unfold marker_All.s at h
  refine wc_prune [(0, .string a0)] ⟨rfl, trivial⟩ (fun f1 => ?_)
  refine wc_seq ?_
  refine wc_region ?_
  refine wl_new (ef_box rfl rfl) rfl so h ?_; intro p1 w2 h so
  refine wl_val (at_assign rfl) rfl ?_
  refine wl_nil ?_
  refine wk_prune [(1, .pointer (some p1))] ⟨rfl, trivial⟩ (fun f1 => ?_)
  refine wk_then ?_
  refine wc_seq ?_
  refine wc_region ?_
  refine wl_val (at_makeFunc (v1 := []) (v2 := [.pointer (some p1)]) rfl rfl) rfl ?_
  refine wl_val (at_assign rfl) rfl ?_
  refine wl_nil ?_
  refine wk_prune [(2, .func (.func 11) #[] #[.pointer (some p1)])] ⟨rfl, trivial⟩ (fun f1 => ?_)
  refine wk_then ?_
  refine wc_ret ?_
  exact wk_ret1 (x := p1) rfl (by decide) rfl so h

def marker_All_1.yenc : Int × Int × Int → Array Value := fun x => #[.agg (c23 x.1 x.2.1 x.2.2).toArray]
/-- mosaic/marker.All$1 -/
def marker_All_1.enc : Unit → Value := fun _ => .tuple #[]
def marker_All_1.s (Y0 : (Int × Int × Int) → Hp → (Bool → Hp → Prop) → Prop) (a1 : Addr) (H0 : Hp) (Q : Unit → Hp → Prop) : Prop :=
  ∃ k1, Fix (fun (rec6 : Int → Hp → Prop) (s3 : Int) (H4 : Hp) => ldS H4 a1 (fun x7 => marker_Next.s x7 s3 H4 (fun x9 H10 => nw H10 23 (c23 0 0 0) (fun p11 H12 => stA H12 p11 (c23 x9.1 x9.2.1 x9.2.2.1) (fun H13 => Join (fun (s15 : Bool) (H16 : Hp) => if s15 = true then (Q () H16) else (ldI .i64 H16 (p11.add 1) (fun x17 => rec6 (x17) H16))) (fun (J14 : Bool → Hp → Prop) => if (!x9.2.2.2) = true then (J14 (true) H13) else (∃ x19 : Int, ∃ x20 : Int, ∃ x21 : Int, ldA H13 p11 (c23 x19 x20 x21) ∧ (Y0 (x19, x20, x21) H13 (fun b23 H24 => J14 ((!b23)) H24))))))))) k1 (0) H0
set_option maxRecDepth 20000 in
set_option maxHeartbeats 4000000 in
theorem marker_All_1.calls (yv0 : Value) (Y0 : (Int × Int × Int) → Hp → (Bool → Hp → Prop) → Prop) (hY0 : YOk Try.prog marker_All_1.yenc yv0 Y0) (a1 : Addr) (w0 : World) (Q : Unit → Hp → Prop) (h : marker_All_1.s Y0 a1 w0.heap Q) :
    Ca Try.prog 11 #[yv0, .pointer (some a1)] w0 (Rt marker_All_1.enc Q w0) := by
  refine ca_start (c := _) Try.func11 rfl Try.ntmps11 rfl ?_
  have so : Sm w0 w0 := Sm.refl w0
  unfold marker_All_1.s at h
  refine wc_prune [(0, yv0), (1, .pointer (some a1))] ⟨rfl, rfl, trivial⟩ (fun f1 => ?_)
  refine wc_seq ?_
  refine wc_region ?_
  refine wl_val (at_assign rfl) rfl ?_
  refine wl_nil ?_
  refine wk_prune [(0, yv0), (1, .pointer (some a1)), (3, .int .i64 0)] ⟨rfl, rfl, rfl, trivial⟩ (fun f1 => ?_)
  refine wk_then ?_
  refine wc_block ?_
  obtain ⟨k1, h⟩ := h
  refine wc_loop (fun k a w => ∃ (s3 : Int) (f1 : Nat → Value), a = ac 22 (en f1 [(0, yv0), (1, .pointer (some a1)), (3, .int .i64 s3)]) [] ∧ Sm w0 w ∧ Fix _ k s3 w.heap) k1 ⟨(0), _, ac_again ⟨rfl, rfl, rfl, trivial⟩, so, h⟩ ?_
  rintro k2 a5 w4 ⟨s3, f1, rfl, so, h⟩
  rcases k2 with _ | k2
  · exact h.elim
  replace h := Fix.un h; refine wc_in ?_
  refine wc_block ?_
  refine wc_seq ?_
  refine wc_region ?_
  obtain ⟨x7, q8, h⟩ := h
  refine wl_val (at_load Try.underlying9 rfl rfl q8) rfl ?_
  refine wl_val (at_move rfl) rfl ?_
  refine wl_callF (marker_Next.calls _ _ _ _ h) enter6 rfl trivial so ?_; intro x9 w10 h so
  refine wl_val (at_move rfl) rfl ?_
  refine wl_val (at_extract rfl rfl) rfl ?_
  refine wl_val (at_extract rfl rfl) rfl ?_
  refine wl_new (ef_alloc zero23 rfl) rfl so h ?_; intro p11 w12 h so
  refine wl_stA h rfl so (fun q => ef_storeA (by rw [len23]; exact sz23) rfl rfl (one23 _ _ _) q) ?_; intro w13 h so
  refine wl_val (at_assign rfl) rfl ?_
  refine wl_nil ?_
  refine wk_prune [(0, yv0), (1, .pointer (some a1)), (4, .pointer (some p11)), (5, .bool x9.2.2.2)] ⟨rfl, rfl, rfl, rfl, trivial⟩ (fun f1 => ?_)
  refine wk_then ?_
  refine wc_seq ?_
  refine wc_seq ?_
  refine wc_join (w0 := w0) (fun (s15 : Bool) => [(0, yv0), (1, .pointer (some a1)), (4, .pointer (some p11)), (19, .bool s15)]) h ?_ ?_
  · intro s15 w16 f1 h so; refine wk_then ?_
    refine wc_cond rfl h (fun h => ?_) (fun h => ?_)
    · refine wc_ret ?_
      refine wk_thenR ?_
      refine wk_blkR ?_
      refine wk_thenR ?_
      refine wk_blkR ?_
      exact wk_ret0 (x := ()) rfl rfl so h
    · refine wc_skip ?_
      refine wk_prune [(0, yv0), (1, .pointer (some a1)), (4, .pointer (some p11))] ⟨rfl, rfl, rfl, trivial⟩ (fun f1 => ?_)
      refine wk_then ?_
      refine wc_region ?_
      refine wl_val (at_fieldAddr Try.underlying23 rfl rfl sz3 (by decide) rfl) rfl ?_
      obtain ⟨x17, q18, h⟩ := h
      refine wl_val (at_load Try.underlying3 rfl rfl q18) rfl ?_
      refine wl_val (at_assign rfl) rfl ?_
      refine wl_nil ?_
      refine wk_blkN ?_
      exact wk_again ⟨(x17), _, ac_again ⟨rfl, rfl, rfl, trivial⟩, so, h⟩
  · intro J14 h hJ14
    refine wc_region ?_
    refine wl_val (at_move rfl) rfl ?_
    refine wl_val (at_not rfl) rfl ?_
    refine wl_val (at_move rfl) rfl ?_
    refine bif_ h (fun hb h => ?_) (fun hb h => ?_)
    · refine wl_set (t := 14) (v := .bool true) (congrArg Value.bool hb) ?_; clear hb
      refine wl_off (t := 14) rfl (by decide) rfl ?_
      refine wl_off (t := 14) rfl (by decide) rfl ?_
      refine wl_off (t := 14) rfl (by decide) rfl ?_
      refine wl_off (t := 14) rfl (by decide) rfl ?_
      refine wl_val (at_pick_t rfl rfl) rfl ?_
      refine wl_nil ?_
      exact wk_prune [(0, yv0), (1, .pointer (some a1)), (4, .pointer (some p11)), (19, .bool true)] ⟨rfl, rfl, rfl, rfl, trivial⟩ (fun f1 => hJ14 (true) _ f1 h so)
    · refine wl_set (t := 14) (v := .bool false) (congrArg Value.bool hb) ?_; clear hb
      refine wl_on (t := 14) rfl (by decide) rfl ?_
      refine wl_val (at_move rfl) rfl ?_
      refine wl_on (t := 14) rfl (by decide) rfl ?_
      obtain ⟨x19, x20, x21, q22, h⟩ := h
      refine wl_val (at_loadA (cs := (c23 x19 x20 x21)) Try.underlying23 rfl (by rw [len23]; exact sz23) rfl q22) rfl ?_
      refine wl_on (t := 14) rfl (by decide) rfl ?_
      refine wl_yield (a := (x19, x20, x21)) hY0 rfl rfl rfl h so ?_; intro b23 w24 h so
      refine wl_on (t := 14) rfl (by decide) rfl ?_
      refine wl_val (at_not rfl) rfl ?_
      refine wl_val (at_pick_f rfl rfl) rfl ?_
      refine wl_nil ?_
      exact wk_prune [(0, yv0), (1, .pointer (some a1)), (4, .pointer (some p11)), (19, .bool (!b23))] ⟨rfl, rfl, rfl, rfl, trivial⟩ (fun f1 => hJ14 ((!b23)) _ f1 h so)
end Go.Proofs.Ytkplpbnifinlbaa.G
