import Derived.Test.YtdcjjoihlnjpnaaKshelf
namespace Go.Proofs.Ytdcjjoihlnjpnaa.G
open Go.RowKit
set_option linter.unusedVariables false
set_option linter.unusedSimpArgs false
/-- mosaic/marker.Next -/
def marker_Next.enc : Int × Int × Int × Bool → Value := fun r => .tuple #[.agg (c50 r.1 r.2.1 r.2.2.1).toArray, .bool r.2.2.2]
def marker_Next.s (a0 : ByteArray) (a1 : Int) (H0 : Hp) (Q : (Int × Int × Int × Bool) → Hp → Prop) : Prop :=
  Gn [] H0 (fun (b1 : Nat) (H2 : Hp) => Bk H2 b1 50 (c50 0 0 0) → (Join (fun (s4 : Unit) (H5 : Hp) => stA H5 (⟨b1, 0, none⟩ : Addr) (c50 0 0 0) (fun H6 => ∃ x8 : Int, ∃ x9 : Int, ∃ x10 : Int, ldA H6 (⟨b1, 0, none⟩ : Addr) (c50 x8 x9 x10) ∧ (Q (x8, x9, x10, false) H6))) (fun (J3 : Unit → Hp → Prop) => ∃ k11, Fix (fun (rec16 : Int → Hp → Prop) (s13 : Int) (H14 : Hp) => if decide (s13 < (IntKind.wrap .i64 ((a0.size : Int) - 1))) = true then (0 ≤ s13 ∧ s13 ≤ (a0.size : Int) ∧ (strings_IndexByte.s (a0.extract (Int.toNat s13) a0.size) 255 H14 (fun x19 H20 => Join (fun (s22 : Bool) (H23 : Hp) => if s22 = true then (J3 () H23) else (0 ≤ (IntKind.wrap .i64 ((IntKind.wrap .i64 (s13 + x19)) + 1)) ∧ (IntKind.wrap .i64 ((IntKind.wrap .i64 (s13 + x19)) + 1)) < (a0.size : Int) ∧ (Lt ((bt a0 (IntKind.wrap .i64 ((IntKind.wrap .i64 (s13 + x19)) + 1))) : Int) (fun x26 => Join (fun (s29 : Bool) (H30 : Hp) => if s29 = true then (stA H30 (⟨b1, 0, none⟩ : Addr) (c50 (IntKind.wrap .i64 (s13 + x19)) (IntKind.wrap .i64 ((IntKind.wrap .i64 (s13 + x19)) + 2)) x26) (fun H31 => ∃ x33 : Int, ∃ x34 : Int, ∃ x35 : Int, ldA H31 (⟨b1, 0, none⟩ : Addr) (c50 x33 x34 x35) ∧ (Q (x33, x34, x35, true) H31))) else (Lt ((IntKind.wrap .i64 ((IntKind.wrap .i64 (s13 + x19)) + 1)) : Int) (fun x36 => rec16 (x36) H30))) (fun (J28 : Bool → Hp → Prop) => if (x26 != 0) = true then (J28 ((x26 != 255)) H23) else (J28 (false) H23)))))) (fun (J21 : Bool → Hp → Prop) => if decide (x19 < 0) = true then (J21 (true) H20) else (J21 ((decide ((a0.size : Int) ≤ (IntKind.wrap .i64 ((IntKind.wrap .i64 (s13 + x19)) + 1))))) H20))))) else (J3 () H14)) k11 ((if a1 < 0 then 0 else a1)) H2)))
set_option maxRecDepth 20000 in
set_option maxHeartbeats 4000000 in
theorem marker_Next.calls (a0 : ByteArray) (a1 : Int) (w0 : World) (Q : (Int × Int × Int × Bool) → Hp → Prop) (h : marker_Next.s a0 a1 w0.heap Q) :
    Ca Try.prog 18 #[.string a0, .int .i64 a1] w0 (Rt marker_Next.enc Q w0) := by
  refine ca_start (c := _) Try.func18 rfl Try.ntmps18 rfl ?_
  have so : Sm w0 w0 := Sm.refl w0
  unfold marker_Next.s at h
  refine wc_prune [(0, .string a0), (1, .int .i64 a1)] ⟨rfl, rfl, trivial⟩ (fun f1 => ?_)
  refine wc_seq ?_
  refine wc_region ?_
  refine wl_newT (T := 50) (cs := (c50 0 0 0)) (ef_alloc zero50 rfl) rfl so ?_; intro b1 w2 hb_b1 t_b1 k_b1 so
  have g_b1 := Nat.le_of_eq hb_b1.symm
  have hc := k_b1.ch (F := [])
  refine wl_val (at_assign rfl) rfl ?_
  refine wl_nil ?_
  refine wk_prune [(0, .string a0), (1, .int .i64 a1), (4, .pointer (some (⟨b1, 0, none⟩ : Addr)))] ⟨rfl, rfl, rfl, trivial⟩ (fun f1 => ?_)
  refine wk_then ?_
  replace h := h b1 _ hc g_b1 t_b1.lt; clear hc
  replace h := h t_b1
  refine wc_seq ?_
  refine wc_join (w0 := w0) (fun (s4 : Unit) => [(4, .pointer (some (⟨b1, 0, none⟩ : Addr)))]) h ?_ ?_
  · rintro s4 w5 f1 h so; refine wk_then ?_
    refine wc_seq ?_
    refine wc_region ?_
    refine wl_val (at_build (cs := (c50 0 0 0)) (ps := []) rfl (fun w => by simp [Instr.build, Instr.fill, go_sem, Try.underlying50, z50])) rfl ?_
    refine wl_stA h rfl so (fun q => ef_storeA (by rw [len50]; exact sz50) rfl rfl (one50 _ _ _) q) ?_; intro w6 h so
    refine wl_val (at_assign rfl) rfl ?_
    refine wl_nil ?_
    refine wk_prune [(4, .pointer (some (⟨b1, 0, none⟩ : Addr))), (5, .bool false)] ⟨rfl, rfl, trivial⟩ (fun f1 => ?_)
    refine wk_then ?_
    refine wc_ret ?_
    obtain ⟨x8, x9, x10, q7, h⟩ := h
    exact wk_retR2 (x := (x8, x9, x10, false)) rfl ⟨by decide, _, rfl, loadVar_agg (cs := (c50 x8 x9 x10)) Try.underlying50 rfl (by rw [len50]; exact sz50) q7⟩ ⟨by decide, rfl⟩ rfl so h
  · intro J3 h hJ3
    refine wc_seq ?_
    refine wc_region ?_
    refine wl_val (at_move rfl) rfl ?_
    refine wl_val (at_max rfl rfl) rfl ?_
    refine wl_val (at_assign rfl) rfl ?_
    refine wl_nil ?_
    refine wk_prune [(0, .string a0), (1, .int .i64 (if a1 < 0 then 0 else a1)), (4, .pointer (some (⟨b1, 0, none⟩ : Addr)))] ⟨rfl, rfl, rfl, trivial⟩ (fun f1 => ?_)
    refine wk_then ?_
    refine wc_block ?_
    obtain ⟨k11, h⟩ := h
    refine wc_loop (fun k a w => ∃ (s13 : Int) (f1 : Nat → Value), a = ac 51 (en f1 [(0, .string a0), (1, .int .i64 s13), (4, .pointer (some (⟨b1, 0, none⟩ : Addr)))]) [] ∧ Sm w0 w ∧ Fix _ k s13 w.heap) k11 ⟨((if a1 < 0 then 0 else a1)), _, ac_again ⟨rfl, rfl, rfl, trivial⟩, so, h⟩ ?_
    rintro k12 a15 w14 ⟨s13, f1, rfl, so, h⟩
    rcases k12 with _ | k12
    · exact h.elim
    replace h := Fix.un h; refine wc_in ?_
    refine wc_seq ?_
    refine wc_seq ?_
    refine wc_region ?_
    refine wl_val (at_move rfl) rfl ?_
    refine wl_val (at_move rfl) rfl ?_
    refine wl_val (at_lenS Try.underlying9 rfl) rfl ?_
    refine wl_val (at_sub rfl rfl) rfl ?_
    refine wl_val (at_lss rfl rfl) rfl ?_
    refine wl_nil ?_
    refine wk_prune [(0, .string a0), (1, .int .i64 s13), (4, .pointer (some (⟨b1, 0, none⟩ : Addr))), (14, .bool (decide (s13 < (IntKind.wrap .i64 ((a0.size : Int) - 1)))))] ⟨rfl, rfl, rfl, rfl, trivial⟩ (fun f1 => ?_)
    refine wk_then ?_
    refine wc_cond rfl h (fun h => ?_) (fun h => ?_)
    · refine wc_skip ?_
      refine wk_prune [(0, .string a0), (1, .int .i64 s13), (4, .pointer (some (⟨b1, 0, none⟩ : Addr)))] ⟨rfl, rfl, rfl, trivial⟩ (fun f1 => ?_)
      refine wk_then ?_
      refine wc_seq ?_
      refine wc_block ?_
      refine wc_seq ?_
      refine wc_region ?_
      refine wl_val (at_move rfl) rfl ?_
      refine wl_val (at_move rfl) rfl ?_
      obtain ⟨q17, q18, h⟩ := h
      refine wl_val (at_subSl Try.underlying9 rfl rfl q17 q18) rfl ?_
      refine wl_callF (strings_IndexByte.calls _ _ _ _ h) enter20 rfl trivial so ?_; intro x19 w20 h so
      refine wl_val (at_assign rfl) rfl ?_
      refine wl_nil ?_
      refine wk_prune [(0, .string a0), (1, .int .i64 s13), (4, .pointer (some (⟨b1, 0, none⟩ : Addr))), (6, .int .i64 x19)] ⟨rfl, rfl, rfl, rfl, trivial⟩ (fun f1 => ?_)
      refine wk_then ?_
      refine wc_seq ?_
      refine wc_seq ?_
      refine wc_join (w0 := w0) (fun (s22 : Bool) => [(0, .string a0), (1, .int .i64 s13), (4, .pointer (some (⟨b1, 0, none⟩ : Addr))), (6, .int .i64 x19), (31, .bool s22)]) h ?_ ?_
      · rintro s22 w23 f1 h so; refine wk_then ?_
        refine wc_cond rfl h (fun h => ?_) (fun h => ?_)
        · refine wc_exit ?_
          refine wk_thenE ?_
          refine wk_blkO (by decide) ?_
          refine wk_thenE ?_
          refine wk_thenE ?_
          refine wk_blkE ?_
          exact wk_prune [(4, .pointer (some (⟨b1, 0, none⟩ : Addr)))] ⟨rfl, trivial⟩ (fun f1 => hJ3 () _ f1 h so)
        · refine wc_skip ?_
          refine wk_prune [(0, .string a0), (1, .int .i64 s13), (4, .pointer (some (⟨b1, 0, none⟩ : Addr))), (6, .int .i64 x19)] ⟨rfl, rfl, rfl, rfl, trivial⟩ (fun f1 => ?_)
          refine wk_then ?_
          refine wc_seq ?_
          refine wc_region ?_
          refine wl_val (at_move rfl) rfl ?_
          refine wl_val (at_move rfl) rfl ?_
          refine wl_val (at_add rfl rfl) rfl ?_
          refine wl_val (at_assign rfl) rfl ?_
          refine wl_nil ?_
          refine wk_prune [(0, .string a0), (1, .int .i64 (IntKind.wrap .i64 (s13 + x19))), (4, .pointer (some (⟨b1, 0, none⟩ : Addr)))] ⟨rfl, rfl, rfl, trivial⟩ (fun f1 => ?_)
          refine wk_then ?_
          refine wc_seq ?_
          refine wc_region ?_
          refine wl_val (at_move rfl) rfl ?_
          refine wl_val (at_move rfl) rfl ?_
          refine wl_val (at_add rfl rfl) rfl ?_
          obtain ⟨q24, q25, h⟩ := h
          refine wl_val (at_ixS Try.underlying9 rfl rfl q24 q25) rfl ?_
          refine wl_val (at_assign rfl) rfl ?_
          obtain ⟨x26, e27⟩ : ∃ x : Int, x = (bt a0 (IntKind.wrap .i64 ((IntKind.wrap .i64 (s13 + x19)) + 1))) := ⟨_, rfl⟩; replace h := h x26 e27
          refine wl_set (t := 7) (v := .int .u8 x26) (congrArg (Value.int .u8) e27.symm) ?_
          refine wl_nil ?_
          refine wk_prune [(0, .string a0), (1, .int .i64 (IntKind.wrap .i64 (s13 + x19))), (4, .pointer (some (⟨b1, 0, none⟩ : Addr))), (7, .int .u8 x26)] ⟨rfl, rfl, rfl, rfl, trivial⟩ (fun f1 => ?_)
          refine wk_then ?_
          refine wc_seq ?_
          refine wc_join (w0 := w0) (fun (s29 : Bool) => [(0, .string a0), (1, .int .i64 (IntKind.wrap .i64 (s13 + x19))), (4, .pointer (some (⟨b1, 0, none⟩ : Addr))), (7, .int .u8 x26), (44, .bool s29)]) h ?_ ?_
          · rintro s29 w30 f1 h so; refine wk_then ?_
            refine wc_cond rfl h (fun h => ?_) (fun h => ?_)
            · refine wc_seq ?_
              refine wc_region ?_
              refine wl_val (at_move rfl) rfl ?_
              refine wl_val (at_move rfl) rfl ?_
              refine wl_val (at_add rfl rfl) rfl ?_
              refine wl_val (at_move rfl) rfl ?_
              refine wl_val (at_build (cs := (c50 (IntKind.wrap .i64 (s13 + x19)) (IntKind.wrap .i64 ((IntKind.wrap .i64 (s13 + x19)) + 2)) x26)) (ps := [(0, .int .i64 (IntKind.wrap .i64 (s13 + x19))), (1, .int .i64 (IntKind.wrap .i64 ((IntKind.wrap .i64 (s13 + x19)) + 2))), (2, .int .u8 x26)]) rfl (fun w => by simp [Instr.build, Instr.fill, go_sem, Try.underlying50, z50])) rfl ?_
              refine wl_stA h rfl so (fun q => ef_storeA (by rw [len50]; exact sz50) rfl rfl (one50 _ _ _) q) ?_; intro w31 h so
              refine wl_val (at_assign rfl) rfl ?_
              refine wl_nil ?_
              refine wk_prune [(4, .pointer (some (⟨b1, 0, none⟩ : Addr))), (5, .bool true)] ⟨rfl, rfl, trivial⟩ (fun f1 => ?_)
              refine wk_then ?_
              refine wc_ret ?_
              refine wk_blkR ?_
              refine wk_thenR ?_
              refine wk_thenR ?_
              refine wk_blkR ?_
              refine wk_thenR ?_
              obtain ⟨x33, x34, x35, q32, h⟩ := h
              exact wk_retR2 (x := (x33, x34, x35, true)) rfl ⟨by decide, _, rfl, loadVar_agg (cs := (c50 x33 x34 x35)) Try.underlying50 rfl (by rw [len50]; exact sz50) q32⟩ ⟨by decide, rfl⟩ rfl so h
            · refine wc_skip ?_
              refine wk_blkN ?_
              refine wk_prune [(0, .string a0), (1, .int .i64 (IntKind.wrap .i64 (s13 + x19))), (4, .pointer (some (⟨b1, 0, none⟩ : Addr)))] ⟨rfl, rfl, rfl, trivial⟩ (fun f1 => ?_)
              refine wk_then ?_
              refine wc_region ?_
              refine wl_val (at_move rfl) rfl ?_
              refine wl_val (at_add rfl rfl) rfl ?_
              refine wl_val (at_assign rfl) rfl ?_
              obtain ⟨x36, e37⟩ : ∃ x : Int, x = (IntKind.wrap .i64 ((IntKind.wrap .i64 (s13 + x19)) + 1)) := ⟨_, rfl⟩; replace h := h x36 e37
              refine wl_set (t := 1) (v := .int .i64 x36) (congrArg (Value.int .i64) e37.symm) ?_
              refine wl_nil ?_
              exact wk_again ⟨(x36), _, ac_again ⟨rfl, rfl, rfl, trivial⟩, so, h⟩
          · intro J28 h hJ28
            refine wc_region ?_
            refine wl_val (at_move rfl) rfl ?_
            refine wl_val (at_neq rfl rfl) rfl ?_
            refine wl_val (at_move rfl) rfl ?_
            refine bif_ h (fun hb h => ?_) (fun hb h => ?_)
            · refine wl_set (t := 41) (v := .bool true) (congrArg Value.bool hb) ?_; clear hb
              refine wl_on (t := 41) rfl (by decide) rfl ?_
              refine wl_val (at_move rfl) rfl ?_
              refine wl_on (t := 41) rfl (by decide) rfl ?_
              refine wl_val (at_neq rfl rfl) rfl ?_
              refine wl_val (at_pick_t rfl rfl) rfl ?_
              refine wl_nil ?_
              exact wk_prune [(0, .string a0), (1, .int .i64 (IntKind.wrap .i64 (s13 + x19))), (4, .pointer (some (⟨b1, 0, none⟩ : Addr))), (7, .int .u8 x26), (44, .bool (x26 != 255))] ⟨rfl, rfl, rfl, rfl, rfl, trivial⟩ (fun f1 => hJ28 ((x26 != 255)) _ f1 h so)
            · refine wl_set (t := 41) (v := .bool false) (congrArg Value.bool hb) ?_; clear hb
              refine wl_off (t := 41) rfl (by decide) rfl ?_
              refine wl_off (t := 41) rfl (by decide) rfl ?_
              refine wl_val (at_pick_f rfl rfl) rfl ?_
              refine wl_nil ?_
              exact wk_prune [(0, .string a0), (1, .int .i64 (IntKind.wrap .i64 (s13 + x19))), (4, .pointer (some (⟨b1, 0, none⟩ : Addr))), (7, .int .u8 x26), (44, .bool false)] ⟨rfl, rfl, rfl, rfl, rfl, trivial⟩ (fun f1 => hJ28 (false) _ f1 h so)
      · intro J21 h hJ21
        refine wc_region ?_
        refine wl_val (at_move rfl) rfl ?_
        refine wl_val (at_lss rfl rfl) rfl ?_
        refine wl_val (at_move rfl) rfl ?_
        refine bif_ h (fun hb h => ?_) (fun hb h => ?_)
        · refine wl_set (t := 23) (v := .bool true) (congrArg Value.bool hb) ?_; clear hb
          refine wl_off (t := 23) rfl (by decide) rfl ?_
          refine wl_off (t := 23) rfl (by decide) rfl ?_
          refine wl_off (t := 23) rfl (by decide) rfl ?_
          refine wl_off (t := 23) rfl (by decide) rfl ?_
          refine wl_off (t := 23) rfl (by decide) rfl ?_
          refine wl_off (t := 23) rfl (by decide) rfl ?_
          refine wl_off (t := 23) rfl (by decide) rfl ?_
          refine wl_val (at_pick_t rfl rfl) rfl ?_
          refine wl_nil ?_
          exact wk_prune [(0, .string a0), (1, .int .i64 s13), (4, .pointer (some (⟨b1, 0, none⟩ : Addr))), (6, .int .i64 x19), (31, .bool true)] ⟨rfl, rfl, rfl, rfl, rfl, trivial⟩ (fun f1 => hJ21 (true) _ f1 h so)
        · refine wl_set (t := 23) (v := .bool false) (congrArg Value.bool hb) ?_; clear hb
          refine wl_on (t := 23) rfl (by decide) rfl ?_
          refine wl_val (at_move rfl) rfl ?_
          refine wl_on (t := 23) rfl (by decide) rfl ?_
          refine wl_val (at_move rfl) rfl ?_
          refine wl_on (t := 23) rfl (by decide) rfl ?_
          refine wl_val (at_add rfl rfl) rfl ?_
          refine wl_on (t := 23) rfl (by decide) rfl ?_
          refine wl_val (at_add rfl rfl) rfl ?_
          refine wl_on (t := 23) rfl (by decide) rfl ?_
          refine wl_val (at_move rfl) rfl ?_
          refine wl_on (t := 23) rfl (by decide) rfl ?_
          refine wl_val (at_lenS Try.underlying9 rfl) rfl ?_
          refine wl_on (t := 23) rfl (by decide) rfl ?_
          refine wl_val (at_geq rfl rfl) rfl ?_
          refine wl_val (at_pick_f rfl rfl) rfl ?_
          refine wl_nil ?_
          exact wk_prune [(0, .string a0), (1, .int .i64 s13), (4, .pointer (some (⟨b1, 0, none⟩ : Addr))), (6, .int .i64 x19), (31, .bool (decide ((a0.size : Int) ≤ (IntKind.wrap .i64 ((IntKind.wrap .i64 (s13 + x19)) + 1)))))] ⟨rfl, rfl, rfl, rfl, rfl, trivial⟩ (fun f1 => hJ21 ((decide ((a0.size : Int) ≤ (IntKind.wrap .i64 ((IntKind.wrap .i64 (s13 + x19)) + 1))))) _ f1 h so)
    · refine wc_exit ?_
      refine wk_thenE ?_
      refine wk_thenE ?_
      refine wk_blkE ?_
      exact wk_prune [(4, .pointer (some (⟨b1, 0, none⟩ : Addr)))] ⟨rfl, trivial⟩ (fun f1 => hJ3 () _ f1 h so)

/-- mosaic/marker.Kind -/
def marker_Kind.enc : Int → Value := fun r => .int .i8 r
def marker_Kind.s (a0 : Int) (H0 : Hp) (Q : Int → Hp → Prop) : Prop :=
  if (a0 == 1) = true then (Q 4 H0) else (Join (fun (s2 : Bool) (H3 : Hp) => if s2 = true then (Q 0 H3) else (Join (fun (s5 : Bool) (H6 : Hp) => if s5 = true then (Q 7 H6) else (if decide (a0 < 208) = true then (Q 5 H6) else (if decide (a0 < 216) = true then (Q 3 H6) else (if (a0 == 216) = true then (Q 1 H6) else (if (a0 == 217) = true then (Q 2 H6) else (if (a0 == 218) = true then (Q 6 H6) else (Q 7 H6))))))) (fun (J4 : Bool → Hp → Prop) => if (a0 == 196) = true then (J4 (true) H3) else (if (a0 == 200) = true then (J4 (true) H3) else (J4 ((a0 == 204)) H3))))) (fun (J1 : Bool → Hp → Prop) => if decide (a0 < 192) = true then (J1 (true) H0) else (J1 ((a0 == 255)) H0)))
set_option maxRecDepth 20000 in
set_option maxHeartbeats 4000000 in
theorem marker_Kind.calls (a0 : Int) (w0 : World) (Q : Int → Hp → Prop) (h : marker_Kind.s a0 w0.heap Q) :
    Ca Try.prog 19 #[.int .u8 a0] w0 (Rt marker_Kind.enc Q w0) := by
  refine ca_start (c := _) Try.func19 rfl Try.ntmps19 rfl ?_
  have so : Sm w0 w0 := Sm.refl w0
  unfold marker_Kind.s at h
  refine wc_prune [(0, .int .u8 a0)] ⟨rfl, trivial⟩ (fun f1 => ?_)
  refine wc_seq ?_
  refine wc_region ?_
  refine wl_val (at_assign rfl) rfl ?_
  refine wl_nil ?_
  refine wk_prune [(0, .int .u8 a0)] ⟨rfl, trivial⟩ (fun f1 => ?_)
  refine wk_then ?_
  refine wc_seq ?_
  refine wc_block ?_
  refine wc_seq ?_
  refine wc_region ?_
  refine wl_val (at_move rfl) rfl ?_
  refine wl_val (at_eql rfl rfl) rfl ?_
  refine wl_val (at_assign rfl) rfl ?_
  refine wl_nil ?_
  refine wk_prune [(0, .int .u8 a0), (3, .bool (a0 == 1))] ⟨rfl, rfl, trivial⟩ (fun f1 => ?_)
  refine wk_then ?_
  refine wc_cond rfl h (fun h => ?_) (fun h => ?_)
  · refine wc_seq ?_
    refine wc_region ?_
    refine wl_val (at_assign rfl) rfl ?_
    refine wl_nil ?_
    refine wk_prune [(2, .int .i8 4)] ⟨rfl, trivial⟩ (fun f1 => ?_)
    refine wk_then ?_
    refine wc_ret ?_
    refine wk_blkR ?_
    refine wk_thenR ?_
    exact wk_ret1 (x := 4) rfl (by decide) rfl so h
  · refine wc_seq ?_
    refine wc_join (w0 := w0) (fun (s2 : Bool) => [(0, .int .u8 a0), (6, .bool s2)]) h ?_ ?_
    · rintro s2 w3 f1 h so; refine wk_then ?_
      refine wc_cond rfl h (fun h => ?_) (fun h => ?_)
      · refine wc_seq ?_
        refine wc_region ?_
        refine wl_val (at_assign rfl) rfl ?_
        refine wl_nil ?_
        refine wk_prune [(2, .int .i8 0)] ⟨rfl, trivial⟩ (fun f1 => ?_)
        refine wk_then ?_
        refine wc_ret ?_
        refine wk_blkR ?_
        refine wk_thenR ?_
        exact wk_ret1 (x := 0) rfl (by decide) rfl so h
      · refine wc_seq ?_
        refine wc_join (w0 := w0) (fun (s5 : Bool) => [(0, .int .u8 a0), (13, .bool s5)]) h ?_ ?_
        · rintro s5 w6 f1 h so; refine wk_then ?_
          refine wc_cond rfl h (fun h => ?_) (fun h => ?_)
          · refine wc_seq ?_
            refine wc_region ?_
            refine wl_val (at_assign rfl) rfl ?_
            refine wl_nil ?_
            refine wk_prune [(2, .int .i8 7)] ⟨rfl, trivial⟩ (fun f1 => ?_)
            refine wk_then ?_
            refine wc_ret ?_
            refine wk_blkR ?_
            refine wk_thenR ?_
            exact wk_ret1 (x := 7) rfl (by decide) rfl so h
          · refine wc_seq ?_
            refine wc_region ?_
            refine wl_val (at_move rfl) rfl ?_
            refine wl_val (at_lss rfl rfl) rfl ?_
            refine wl_val (at_assign rfl) rfl ?_
            refine wl_nil ?_
            refine wk_prune [(0, .int .u8 a0), (24, .bool (decide (a0 < 208)))] ⟨rfl, rfl, trivial⟩ (fun f1 => ?_)
            refine wk_then ?_
            refine wc_cond rfl h (fun h => ?_) (fun h => ?_)
            · refine wc_seq ?_
              refine wc_region ?_
              refine wl_val (at_assign rfl) rfl ?_
              refine wl_nil ?_
              refine wk_prune [(2, .int .i8 5)] ⟨rfl, trivial⟩ (fun f1 => ?_)
              refine wk_then ?_
              refine wc_ret ?_
              refine wk_blkR ?_
              refine wk_thenR ?_
              exact wk_ret1 (x := 5) rfl (by decide) rfl so h
            · refine wc_seq ?_
              refine wc_region ?_
              refine wl_val (at_move rfl) rfl ?_
              refine wl_val (at_lss rfl rfl) rfl ?_
              refine wl_val (at_assign rfl) rfl ?_
              refine wl_nil ?_
              refine wk_prune [(0, .int .u8 a0), (27, .bool (decide (a0 < 216)))] ⟨rfl, rfl, trivial⟩ (fun f1 => ?_)
              refine wk_then ?_
              refine wc_cond rfl h (fun h => ?_) (fun h => ?_)
              · refine wc_seq ?_
                refine wc_region ?_
                refine wl_val (at_assign rfl) rfl ?_
                refine wl_nil ?_
                refine wk_prune [(2, .int .i8 3)] ⟨rfl, trivial⟩ (fun f1 => ?_)
                refine wk_then ?_
                refine wc_ret ?_
                refine wk_blkR ?_
                refine wk_thenR ?_
                exact wk_ret1 (x := 3) rfl (by decide) rfl so h
              · refine wc_skip ?_
                refine wk_blkN ?_
                refine wk_prune [(0, .int .u8 a0)] ⟨rfl, trivial⟩ (fun f1 => ?_)
                refine wk_then ?_
                refine wc_seq ?_
                refine wc_seq ?_
                refine wc_region ?_
                refine wl_val (at_move rfl) rfl ?_
                refine wl_nil ?_
                refine wk_prune [(30, .int .u8 a0)] ⟨rfl, trivial⟩ (fun f1 => ?_)
                refine wk_then ?_
                refine wc_block ?_
                refine wc_seq ?_
                refine wc_region ?_
                refine wl_val (at_eql rfl rfl) rfl ?_
                refine wl_val (at_assign rfl) rfl ?_
                refine wl_nil ?_
                refine wk_prune [(30, .int .u8 a0), (31, .bool (a0 == 216))] ⟨rfl, rfl, trivial⟩ (fun f1 => ?_)
                refine wk_then ?_
                refine wc_cond rfl h (fun h => ?_) (fun h => ?_)
                · refine wc_seq ?_
                  refine wc_region ?_
                  refine wl_val (at_assign rfl) rfl ?_
                  refine wl_nil ?_
                  refine wk_prune [(2, .int .i8 1)] ⟨rfl, trivial⟩ (fun f1 => ?_)
                  refine wk_then ?_
                  refine wc_ret ?_
                  refine wk_blkR ?_
                  refine wk_thenR ?_
                  exact wk_ret1 (x := 1) rfl (by decide) rfl so h
                · refine wc_seq ?_
                  refine wc_region ?_
                  refine wl_val (at_eql rfl rfl) rfl ?_
                  refine wl_val (at_assign rfl) rfl ?_
                  refine wl_nil ?_
                  refine wk_prune [(30, .int .u8 a0), (33, .bool (a0 == 217))] ⟨rfl, rfl, trivial⟩ (fun f1 => ?_)
                  refine wk_then ?_
                  refine wc_cond rfl h (fun h => ?_) (fun h => ?_)
                  · refine wc_seq ?_
                    refine wc_region ?_
                    refine wl_val (at_assign rfl) rfl ?_
                    refine wl_nil ?_
                    refine wk_prune [(2, .int .i8 2)] ⟨rfl, trivial⟩ (fun f1 => ?_)
                    refine wk_then ?_
                    refine wc_ret ?_
                    refine wk_blkR ?_
                    refine wk_thenR ?_
                    exact wk_ret1 (x := 2) rfl (by decide) rfl so h
                  · refine wc_seq ?_
                    refine wc_region ?_
                    refine wl_val (at_eql rfl rfl) rfl ?_
                    refine wl_val (at_assign rfl) rfl ?_
                    refine wl_nil ?_
                    refine wk_prune [(35, .bool (a0 == 218))] ⟨rfl, trivial⟩ (fun f1 => ?_)
                    refine wk_then ?_
                    refine wc_cond rfl h (fun h => ?_) (fun h => ?_)
                    · refine wc_seq ?_
                      refine wc_region ?_
                      refine wl_val (at_assign rfl) rfl ?_
                      refine wl_nil ?_
                      refine wk_prune [(2, .int .i8 6)] ⟨rfl, trivial⟩ (fun f1 => ?_)
                      refine wk_then ?_
                      refine wc_ret ?_
                      refine wk_blkR ?_
                      refine wk_thenR ?_
                      exact wk_ret1 (x := 6) rfl (by decide) rfl so h
                    · refine wc_skip ?_
                      refine wk_blkN ?_
                      refine wk_prune [] trivial (fun f1 => ?_)
                      refine wk_then ?_
                      refine wc_seq ?_
                      refine wc_region ?_
                      refine wl_val (at_assign rfl) rfl ?_
                      refine wl_nil ?_
                      refine wk_prune [(2, .int .i8 7)] ⟨rfl, trivial⟩ (fun f1 => ?_)
                      refine wk_then ?_
                      refine wc_ret ?_
                      exact wk_ret1 (x := 7) rfl (by decide) rfl so h
        · intro J4 h hJ4
          refine wc_region ?_
          refine wl_val (at_move rfl) rfl ?_
          refine wl_val (at_eql rfl rfl) rfl ?_
          refine wl_val (at_move rfl) rfl ?_
          refine bif_ h (fun hb h => ?_) (fun hb h => ?_)
          · refine wl_set (t := 16) (v := .bool true) (congrArg Value.bool hb) ?_; clear hb
            refine wl_off (t := 16) rfl (by decide) rfl ?_
            refine wl_off (t := 16) rfl (by decide) rfl ?_
            refine wl_val (at_pick_t rfl rfl) rfl ?_
            refine wl_val (at_move rfl) rfl ?_
            refine wl_off (t := 20) rfl (by decide) rfl ?_
            refine wl_off (t := 20) rfl (by decide) rfl ?_
            refine wl_val (at_pick_t rfl rfl) rfl ?_
            refine wl_val (at_assign rfl) rfl ?_
            refine wl_nil ?_
            exact wk_prune [(0, .int .u8 a0), (13, .bool true)] ⟨rfl, rfl, trivial⟩ (fun f1 => hJ4 (true) _ f1 h so)
          · refine wl_set (t := 16) (v := .bool false) (congrArg Value.bool hb) ?_; clear hb
            refine wl_on (t := 16) rfl (by decide) rfl ?_
            refine wl_val (at_move rfl) rfl ?_
            refine wl_on (t := 16) rfl (by decide) rfl ?_
            refine wl_val (at_eql rfl rfl) rfl ?_
            refine wl_val (at_pick_f rfl rfl) rfl ?_
            refine wl_val (at_move rfl) rfl ?_
            refine bif_ h (fun hb h => ?_) (fun hb h => ?_)
            · refine wl_set (t := 20) (v := .bool true) (congrArg Value.bool hb) ?_; clear hb
              refine wl_off (t := 20) rfl (by decide) rfl ?_
              refine wl_off (t := 20) rfl (by decide) rfl ?_
              refine wl_val (at_pick_t rfl rfl) rfl ?_
              refine wl_val (at_assign rfl) rfl ?_
              refine wl_nil ?_
              exact wk_prune [(0, .int .u8 a0), (13, .bool true)] ⟨rfl, rfl, trivial⟩ (fun f1 => hJ4 (true) _ f1 h so)
            · refine wl_set (t := 20) (v := .bool false) (congrArg Value.bool hb) ?_; clear hb
              refine wl_on (t := 20) rfl (by decide) rfl ?_
              refine wl_val (at_move rfl) rfl ?_
              refine wl_on (t := 20) rfl (by decide) rfl ?_
              refine wl_val (at_eql rfl rfl) rfl ?_
              refine wl_val (at_pick_f rfl rfl) rfl ?_
              refine wl_val (at_assign rfl) rfl ?_
              refine wl_nil ?_
              exact wk_prune [(0, .int .u8 a0), (13, .bool (a0 == 204))] ⟨rfl, rfl, trivial⟩ (fun f1 => hJ4 ((a0 == 204)) _ f1 h so)
    · intro J1 h hJ1
      refine wc_region ?_
      refine wl_val (at_move rfl) rfl ?_
      refine wl_val (at_lss rfl rfl) rfl ?_
      refine wl_val (at_move rfl) rfl ?_
      refine bif_ h (fun hb h => ?_) (fun hb h => ?_)
      · refine wl_set (t := 9) (v := .bool true) (congrArg Value.bool hb) ?_; clear hb
        refine wl_off (t := 9) rfl (by decide) rfl ?_
        refine wl_off (t := 9) rfl (by decide) rfl ?_
        refine wl_val (at_pick_t rfl rfl) rfl ?_
        refine wl_val (at_assign rfl) rfl ?_
        refine wl_nil ?_
        exact wk_prune [(0, .int .u8 a0), (6, .bool true)] ⟨rfl, rfl, trivial⟩ (fun f1 => hJ1 (true) _ f1 h so)
      · refine wl_set (t := 9) (v := .bool false) (congrArg Value.bool hb) ?_; clear hb
        refine wl_on (t := 9) rfl (by decide) rfl ?_
        refine wl_val (at_move rfl) rfl ?_
        refine wl_on (t := 9) rfl (by decide) rfl ?_
        refine wl_val (at_eql rfl rfl) rfl ?_
        refine wl_val (at_pick_f rfl rfl) rfl ?_
        refine wl_val (at_assign rfl) rfl ?_
        refine wl_nil ?_
        exact wk_prune [(0, .int .u8 a0), (6, .bool (a0 == 255))] ⟨rfl, rfl, trivial⟩ (fun f1 => hJ1 ((a0 == 255)) _ f1 h so)
end Go.Proofs.Ytdcjjoihlnjpnaa.G
