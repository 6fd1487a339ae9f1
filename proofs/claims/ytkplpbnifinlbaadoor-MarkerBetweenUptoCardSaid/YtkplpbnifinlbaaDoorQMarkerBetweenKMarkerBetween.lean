/- Of this text what the row needs. -/
import Derived.Test.YtkplpbnifinlbaaDoorQMarkerBetweenKshelf
import Derived.Test.YtkplpbnifinlbaaDoorQMarkerBetweenKmarker
import Derived.Test.YtkplpbnifinlbaaDoorQMarkerBetweenKmosaiclaw02
namespace Go.Proofs.YtkplpbnifinlbaaDoor.G
open Go.RowKit
set_option linter.unusedVariables false
set_option linter.unusedSimpArgs false
def mosaiclaw02_MarkerBetween.enc : Bool → Value := fun r => .bool r
def mosaiclaw02_MarkerBetween.s (a0 : ByteArray) (a1 : Int) (a2 : Int) (a3 : Int) (H0 : Hp) (Q : Bool → Hp → Prop) : Prop :=
  Gn [] H0 (fun (b1 : Nat) (H2 : Hp) => mosaiclaw02_alive.s H2 (fun x3 H4 => Pv [b1] H2 H4 ∧ (marker_Stuff.s a0 H4 (fun x6 H7 => Pv [b1] H4 H7 ∧ (Join (fun (s10 : Bool) (H11 : Hp) => if s10 = true then (Gr [b1] H11 (fun (H12 : Hp) => Q false H12)) else (mosaiclaw02_code.s a1 H11 (fun x14 H15 => Pv [b1] H11 H15 ∧ (mosaiclaw02_code.s a2 H15 (fun x17 H18 => Pv [b1] H15 H18 ∧ (∃ k20, Fix (fun (rec25 : (ByteArray × Int) → Hp → Prop) (s22 : ByteArray × Int) (H23 : Hp) => if decide (s22.2 < (Int.tmod a3 8)) = true then (s22.1.size + (⟨#[255]⟩ : ByteArray).size ≤ 9223372036854775807 ∧ (rec25 ((s22.1 ++ (⟨#[255]⟩ : ByteArray)), (IntKind.wrap .i64 (s22.2 + 1))) H23)) else (nw H23 5 [.int .u8 255, .int .u8 x14] (fun p27 H28 => Pv [b1] H23 H28 ∧ (∃ b32 : ByteArray, 2 = b32.size ∧ rdS H28 (some p27) (byteCells b32) ∧ (b32.size + x6.size ≤ 9223372036854775807 ∧ ((b32 ++ x6).size + s22.1.size ≤ 9223372036854775807 ∧ (nw H28 5 [.int .u8 255, .int .u8 x17] (fun p37 H38 => Pv [b1] H28 H38 ∧ (∃ b42 : ByteArray, 2 = b42.size ∧ rdS H38 (some p37) (byteCells b42) ∧ (((b32 ++ x6) ++ s22.1).size + b42.size ≤ 9223372036854775807 ∧ (Gn [] H38 (fun (b46 : Nat) (H48 : Hp) => Gn [] H48 (fun (b49 : Nat) (H51 : Hp) => Gn [] H51 (fun (b52 : Nat) (H54 : Hp) => marker_All.s (((b32 ++ x6) ++ s22.1) ++ b42) H54 (fun x55 H56 => Pv [b1, b46, b49, b52] H54 H56 ∧ (Bk H56 b1 4 [.bool false] → (Bk H56 b46 32 (c32 0 2 x14) → (Bk H56 b49 32 (c32 (IntKind.wrap .i64 (((((b32 ++ x6) ++ s22.1) ++ b42).size : Int) - 2)) ((((b32 ++ x6) ++ s22.1) ++ b42).size : Int) x17) → (Bk H56 b52 3 [.int .i64 0] → (Rg H56 (fun r58 D66 H61 => marker_All_1.s (fun (x62 : Int × Int × Int) (H64 : Hp) (K63 : Bool → Hp → Prop) => Lp H64 (D66 + 1) r58 ∧ (Gn [] H64 (fun (b67 : Nat) (H69 : Hp) => Lp H69 (D66 + 1) r58 ∧ Up (putL H69 (D66 + 1) (bsy r58)) (fun H70 => Pv [b67] H69 H70 ∧ (Join (fun (s73 : Bool) (H74 : Hp) => if s73 = true then (st H74 (⟨b1, 0, none⟩ : Addr) (.bool false) (fun H75 => Lp H75 (D66 + 1) (bsy r58) ∧ K63 false (putL H75 (D66 + 1) (dn r58 .ret)))) else (ldI .i64 H74 (⟨b52, 0, none⟩ : Addr) (fun x76 => st H74 (⟨b52, 0, none⟩ : Addr) (.int .i64 (IntKind.wrap .i64 (x76 + 1))) (fun H78 => Lp H78 (D66 + 1) (bsy r58) ∧ K63 true (putL H78 (D66 + 1) r58))))) (fun (J72 : Bool → Hp → Prop) => ldI .i64 H70 (⟨b52, 0, none⟩ : Addr) (fun x79 => if (x79 == 0) = true then (∃ x81 : Int, ∃ x82 : Int, ∃ x83 : Int, ldA H70 (⟨b46, 0, none⟩ : Addr) (c32 x81 x82 x83) ∧ (if (!((x62.1 == x81) && ((x62.2.1 == x82) && (x62.2.2 == x83)))) = true then (J72 (true) H70) else (ldI .i64 H70 (⟨b52, 0, none⟩ : Addr) (fun x85 => if (x85 == 1) = true then (∃ x87 : Int, ∃ x88 : Int, ∃ x89 : Int, ldA H70 (⟨b49, 0, none⟩ : Addr) (c32 x87 x88 x89) ∧ (if (!((x62.1 == x87) && ((x62.2.1 == x88) && (x62.2.2 == x89)))) = true then (J72 (true) H70) else (ldI .i64 H70 (⟨b52, 0, none⟩ : Addr) (fun x91 => J72 ((decide ((1 : Int) < x91))) H70)))) else (ldI .i64 H70 (⟨b52, 0, none⟩ : Addr) (fun x93 => J72 ((decide ((1 : Int) < x93))) H70)))))) else (ldI .i64 H70 (⟨b52, 0, none⟩ : Addr) (fun x95 => if (x95 == 1) = true then (∃ x97 : Int, ∃ x98 : Int, ∃ x99 : Int, ldA H70 (⟨b49, 0, none⟩ : Addr) (c32 x97 x98 x99) ∧ (if (!((x62.1 == x97) && ((x62.2.1 == x98) && (x62.2.2 == x99)))) = true then (J72 (true) H70) else (ldI .i64 H70 (⟨b52, 0, none⟩ : Addr) (fun x101 => J72 ((decide ((1 : Int) < x101))) H70)))) else (ldI .i64 H70 (⟨b52, 0, none⟩ : Addr) (fun x103 => J72 ((decide ((1 : Int) < x103))) H70))))))))))) x55 H61 (fun _ H65 => (Lp H65 (D66 + 1) r58 ∧ Up (putL H65 (D66 + 1) (exh r58)) (fun H106 => ldI .i64 H106 (⟨b52, 0, none⟩ : Addr) (fun x107 => st H106 (⟨b1, 0, none⟩ : Addr) (.bool (x107 == 2)) (fun H109 => tkD (D66 :: []) H109 (fun H110 => ldB H110 (⟨b1, 0, none⟩ : Addr) (fun x112 => Q x112 H110)))))) ∨ (Lp H65 (D66 + 1) (dn r58 .ret) ∧ Up (putL H65 (D66 + 1) (exh (dn r58 .ret))) (fun H113 => tkD (D66 :: []) H113 (fun H114 => ldB H114 (⟨b1, 0, none⟩ : Addr) (fun x116 => Q x116 H114)))))))))))))))))))))))))) k20 ((⟨#[]⟩ : ByteArray), 0) H18)))))) (fun (J9 : Bool → Hp → Prop) => if (!x3) = true then (J9 (true) H7) else (marker_Free.s x6 H7 (fun x117 H118 => Pv [b1] H7 H118 ∧ (if (!x117) = true then (J9 (true) H118) else (mosaiclaw02_ffs.s a0 H118 (fun x120 H121 => Pv [b1] H118 H121 ∧ (if ((x6.size : Int) != (IntKind.wrap .i64 ((a0.size : Int) + x120))) = true then (J9 (true) H121) else (mosaiclaw02_unstuffed.s x6 H121 (fun x123 H124 => Pv [b1] H121 H124 ∧ (J9 ((!(x123.toList == a0.toList))) H124)))))))))))))))
set_option maxRecDepth 20000 in
set_option maxHeartbeats 4000000 in
theorem mosaiclaw02_MarkerBetween.calls (a0 : ByteArray) (a1 : Int) (a2 : Int) (a3 : Int) (w0 : World) (Q : Bool → Hp → Prop) (h : mosaiclaw02_MarkerBetween.s a0 a1 a2 a3 w0.heap Q) :
    Ca Tryd.prog 9 #[.string a0, .int .i64 a1, .int .i64 a2, .int .i64 a3] w0 (Rt mosaiclaw02_MarkerBetween.enc Q w0) := by
  refine ca_startM (c := _) Tryd.func9 rfl Tryd.ntmps9 rfl ?_
  have so : Sm w0 w0 := Sm.refl w0
  unfold mosaiclaw02_MarkerBetween.s at h
  refine wc_prune [(0, .string a0), (1, .int .i64 a1), (2, .int .i64 a2), (3, .int .i64 a3)] ⟨rfl, rfl, rfl, rfl, trivial⟩ (fun f1 => ?_)
  refine wc_seq ?_
  refine wc_region ?_
  refine wl_newT (T := 4) (cs := [.bool false]) (ef_alloc zero4 rfl) rfl so ?_; intro b1 w2 hb_b1 t_b1 k_b1 so
  have g_b1 := Nat.le_of_eq hb_b1.symm
  have hc := k_b1.ch (F := [])
  refine wl_nil ?_
  refine wk_prune [(0, .string a0), (1, .int .i64 a1), (2, .int .i64 a2), (3, .int .i64 a3), (8, .pointer (some (⟨b1, 0, none⟩ : Addr)))] ⟨rfl, rfl, rfl, rfl, rfl, trivial⟩ (fun f1 => ?_)
  refine wk_then ?_
  refine wc_seq ?_
  refine wc_region ?_
  replace h := h b1 _ hc g_b1 t_b1.lt; clear hc
  refine wl_callF (mosaiclaw02_alive.calls _ _ h) enter20 rfl trivial so ?_; intro x3 w4 h so
  obtain ⟨q5, h⟩ := h
  replace t_b1 := pv_bk q5 t_b1 (by simp)
  refine wl_val (at_assign rfl) rfl ?_
  refine wl_nil ?_
  refine wk_prune [(0, .string a0), (1, .int .i64 a1), (2, .int .i64 a2), (3, .int .i64 a3), (8, .pointer (some (⟨b1, 0, none⟩ : Addr))), (9, .bool x3)] ⟨rfl, rfl, rfl, rfl, rfl, rfl, trivial⟩ (fun f1 => ?_)
  refine wk_then ?_
  refine wc_seq ?_
  refine wc_region ?_
  refine wl_val (at_move rfl) rfl ?_
  refine wl_callF (marker_Stuff.calls _ _ _ h) enter18 rfl trivial so ?_; intro x6 w7 h so
  obtain ⟨q8, h⟩ := h
  replace t_b1 := pv_bk q8 t_b1 (by simp)
  refine wl_val (at_assign rfl) rfl ?_
  refine wl_nil ?_
  refine wk_prune [(0, .string a0), (1, .int .i64 a1), (2, .int .i64 a2), (3, .int .i64 a3), (8, .pointer (some (⟨b1, 0, none⟩ : Addr))), (9, .bool x3), (10, .string x6)] ⟨rfl, rfl, rfl, rfl, rfl, rfl, rfl, trivial⟩ (fun f1 => ?_)
  refine wk_then ?_
  refine wc_seq ?_
  refine wc_seq ?_
  refine wc_joinG (w0 := w0) (fun (H : Hp) => Bk H b1 4 [.bool false] ∧ True) (fun (s10 : Bool) => [(1, .int .i64 a1), (2, .int .i64 a2), (3, .int .i64 a3), (8, .pointer (some (⟨b1, 0, none⟩ : Addr))), (10, .string x6), (46, .bool s10)]) (fun (s10 : Bool) => (mks [])) h ?_ ?_
  · rintro s10 w11 f1 h ⟨t_b1, _⟩ so; refine wk_then ?_
    refine wc_cond rfl h (fun h => ?_) (fun h => ?_)
    · refine wc_seq ?_
      refine wc_region ?_
      refine wl_stT (v := .bool false) (cs' := [.bool false]) t_b1 (by first | decide | simp [ints_len, bools_len]) (by first | rfl | simp [List.set_append, ints_len, bools_len]) rfl so (fun q1 q2 => ef_store (sz := sz4) rfl rfl rfl q1 q2) ?_; intro w12 t_b1 s_w12 so
      have hc := s_w12.ch
      refine wl_nil ?_
      refine wk_prune [(8, .pointer (some (⟨b1, 0, none⟩ : Addr)))] ⟨rfl, trivial⟩ (fun f1 => ?_)
      refine wk_then ?_
      refine wc_ret ?_
      refine wk_thenR ?_
      replace h := h _ hc; clear hc
      refine wk_tk (K := fun H => H = w12.heap) (Ds := []) rfl so ?_; intro w13 hw so; rw [← hw] at h t_b1; clear hw
      exact wk_retR1 (x := false) rfl ⟨by decide, _, rfl, loadVar_one Tryd.underlying4 rfl ((t_b1.cell 0).trans (by first | rfl | simp [List.getElem?_append, ints_len, bools_len]))⟩ rfl so h
    · refine wc_skip ?_
      refine wk_prune [(1, .int .i64 a1), (2, .int .i64 a2), (3, .int .i64 a3), (8, .pointer (some (⟨b1, 0, none⟩ : Addr))), (10, .string x6)] ⟨rfl, rfl, rfl, rfl, rfl, trivial⟩ (fun f1 => ?_)
      refine wk_then ?_
      refine wc_seq ?_
      refine wc_region ?_
      refine wl_val (at_move rfl) rfl ?_
      refine wl_callF (mosaiclaw02_code.calls _ _ _ h) enter24 rfl trivial so ?_; intro x14 w15 h so
      obtain ⟨q16, h⟩ := h
      replace t_b1 := pv_bk q16 t_b1 (by simp)
      refine wl_val (at_assign rfl) rfl ?_
      refine wl_nil ?_
      refine wk_prune [(2, .int .i64 a2), (3, .int .i64 a3), (8, .pointer (some (⟨b1, 0, none⟩ : Addr))), (10, .string x6), (11, .int .u8 x14)] ⟨rfl, rfl, rfl, rfl, rfl, trivial⟩ (fun f1 => ?_)
      refine wk_then ?_
      refine wc_seq ?_
      refine wc_region ?_
      refine wl_val (at_move rfl) rfl ?_
      refine wl_callF (mosaiclaw02_code.calls _ _ _ h) enter24 rfl trivial so ?_; intro x17 w18 h so
      obtain ⟨q19, h⟩ := h
      replace t_b1 := pv_bk q19 t_b1 (by simp)
      refine wl_val (at_assign rfl) rfl ?_
      refine wl_nil ?_
      refine wk_prune [(3, .int .i64 a3), (8, .pointer (some (⟨b1, 0, none⟩ : Addr))), (10, .string x6), (11, .int .u8 x14), (12, .int .u8 x17)] ⟨rfl, rfl, rfl, rfl, rfl, trivial⟩ (fun f1 => ?_)
      refine wk_then ?_
      refine wc_seq ?_
      refine wc_region ?_
      refine wl_val (at_assign rfl) rfl ?_
      refine wl_nil ?_
      refine wk_prune [(3, .int .i64 a3), (8, .pointer (some (⟨b1, 0, none⟩ : Addr))), (10, .string x6), (11, .int .u8 x14), (12, .int .u8 x17), (13, .string (⟨#[]⟩ : ByteArray))] ⟨rfl, rfl, rfl, rfl, rfl, rfl, trivial⟩ (fun f1 => ?_)
      refine wk_then ?_
      refine wc_seq ?_
      refine wc_seq ?_
      refine wc_region ?_
      refine wl_val (at_assign rfl) rfl ?_
      refine wl_nil ?_
      refine wk_prune [(3, .int .i64 a3), (8, .pointer (some (⟨b1, 0, none⟩ : Addr))), (10, .string x6), (11, .int .u8 x14), (12, .int .u8 x17), (13, .string (⟨#[]⟩ : ByteArray)), (14, .int .i64 0)] ⟨rfl, rfl, rfl, rfl, rfl, rfl, rfl, trivial⟩ (fun f1 => ?_)
      refine wk_then ?_
      refine wc_block ?_
      obtain ⟨k20, h⟩ := h
      refine wc_loop (fun k a w => ∃ (s22 : ByteArray × Int) (f1 : Nat → Value), a = ac 109 (en f1 [(3, .int .i64 a3), (8, .pointer (some (⟨b1, 0, none⟩ : Addr))), (10, .string x6), (11, .int .u8 x14), (12, .int .u8 x17), (13, .string s22.1), (14, .int .i64 s22.2)]) (mks []) ∧ Sm w0 w ∧ (Bk w.heap b1 4 [.bool false] ∧ True) ∧ Fix _ k s22 w.heap) k20 ⟨((⟨#[]⟩ : ByteArray), 0), _, ac_again ⟨rfl, rfl, rfl, rfl, rfl, rfl, rfl, trivial⟩, so, ⟨t_b1, trivial⟩, h⟩ ?_
      rintro k21 a24 w23 ⟨s22, f1, rfl, so, ⟨t_b1, _⟩, h⟩
      rcases k21 with _ | k21
      · exact h.elim
      replace h := Fix.un h; refine wc_in ?_
      refine wc_seq ?_
      refine wc_seq ?_
      refine wc_region ?_
      refine wl_val (at_move rfl) rfl ?_
      refine wl_val (at_move rfl) rfl ?_
      refine wl_val (at_rem rfl rfl (by decide)) rfl ?_
      refine wl_val (at_lss rfl rfl) rfl ?_
      refine wl_nil ?_
      refine wk_prune [(3, .int .i64 a3), (8, .pointer (some (⟨b1, 0, none⟩ : Addr))), (10, .string x6), (11, .int .u8 x14), (12, .int .u8 x17), (13, .string s22.1), (14, .int .i64 s22.2), (54, .bool (decide (s22.2 < (Int.tmod a3 8))))] ⟨rfl, rfl, rfl, rfl, rfl, rfl, rfl, rfl, trivial⟩ (fun f1 => ?_)
      refine wk_then ?_
      refine wc_cond rfl h (fun h => ?_) (fun h => ?_)
      · refine wc_skip ?_
        refine wk_prune [(3, .int .i64 a3), (8, .pointer (some (⟨b1, 0, none⟩ : Addr))), (10, .string x6), (11, .int .u8 x14), (12, .int .u8 x17), (13, .string s22.1), (14, .int .i64 s22.2)] ⟨rfl, rfl, rfl, rfl, rfl, rfl, rfl, trivial⟩ (fun f1 => ?_)
        refine wk_then ?_
        refine wc_seq ?_
        refine wc_block ?_
        refine wc_region ?_
        refine wl_val (at_move rfl) rfl ?_
        obtain ⟨q26, h⟩ := h
        refine wl_val (at_cat rfl rfl q26) rfl ?_
        refine wl_val (at_assign rfl) rfl ?_
        refine wl_nil ?_
        refine wk_blkN ?_
        refine wk_prune [(3, .int .i64 a3), (8, .pointer (some (⟨b1, 0, none⟩ : Addr))), (10, .string x6), (11, .int .u8 x14), (12, .int .u8 x17), (13, .string (s22.1 ++ (⟨#[255]⟩ : ByteArray))), (14, .int .i64 s22.2)] ⟨rfl, rfl, rfl, rfl, rfl, rfl, rfl, trivial⟩ (fun f1 => ?_)
        refine wk_then ?_
        refine wc_region ?_
        refine wl_val (at_move rfl) rfl ?_
        refine wl_val (at_add rfl rfl) rfl ?_
        refine wl_val (at_assign rfl) rfl ?_
        refine wl_nil ?_
        exact wk_again ⟨((s22.1 ++ (⟨#[255]⟩ : ByteArray)), (IntKind.wrap .i64 (s22.2 + 1))), _, ac_again ⟨rfl, rfl, rfl, rfl, rfl, rfl, rfl, trivial⟩, so, ⟨t_b1, trivial⟩, h⟩
      · refine wc_exit ?_
        refine wk_thenE ?_
        refine wk_thenE ?_
        refine wk_blkE ?_
        refine wk_prune [(8, .pointer (some (⟨b1, 0, none⟩ : Addr))), (10, .string x6), (11, .int .u8 x14), (12, .int .u8 x17), (13, .string s22.1)] ⟨rfl, rfl, rfl, rfl, rfl, trivial⟩ (fun f1 => ?_)
        refine wk_then ?_
        refine wc_seq ?_
        refine wc_region ?_
        refine wl_val (at_move rfl) rfl ?_
        obtain ⟨i30, i30a, i30b, i30c, i30d⟩ := info5
        refine wl_newS (ef_buildSlice (cs := [.int .u8 255, .int .u8 x14]) (ps := [(0, .int .u8 255), (1, .int .u8 x14)]) Tryd.underlying40 i30a i30b rfl (by rw [i30c]; decide) (by rw [i30c]; exact fill_full (vs := [.int .u8 255, .int .u8 x14]) rfl (by simp [Value.cells]) (by simp [Value.cells]) rfl (by simp))) rfl so (ones_cons rfl (ones_cons rfl ones_nil)) h ?_; intro p27 w28 h r29 so
        obtain ⟨q31, h⟩ := h
        replace t_b1 := pv_bk q31 t_b1 (by simp)
        obtain ⟨b32, q33, q34, h⟩ := h
        refine wl_val (at_str (s := ⟨(some p27), 2, 2⟩) Tryd.underlying40 Tryd.underlying9 Tryd.underlying5 rfl q33 q34) rfl ?_
        refine wl_val (at_move rfl) rfl ?_
        obtain ⟨q35, h⟩ := h
        refine wl_val (at_cat rfl rfl q35) rfl ?_
        refine wl_val (at_move rfl) rfl ?_
        obtain ⟨q36, h⟩ := h
        refine wl_val (at_cat rfl rfl q36) rfl ?_
        refine wl_val (at_move rfl) rfl ?_
        obtain ⟨i40, i40a, i40b, i40c, i40d⟩ := info5
        refine wl_newS (ef_buildSlice (cs := [.int .u8 255, .int .u8 x17]) (ps := [(0, .int .u8 255), (1, .int .u8 x17)]) Tryd.underlying40 i40a i40b rfl (by rw [i40c]; decide) (by rw [i40c]; exact fill_full (vs := [.int .u8 255, .int .u8 x17]) rfl (by simp [Value.cells]) (by simp [Value.cells]) rfl (by simp))) rfl so (ones_cons rfl (ones_cons rfl ones_nil)) h ?_; intro p37 w38 h r39 so
        obtain ⟨q41, h⟩ := h
        replace t_b1 := pv_bk q41 t_b1 (by simp)
        obtain ⟨b42, q43, q44, h⟩ := h
        refine wl_val (at_str (s := ⟨(some p37), 2, 2⟩) Tryd.underlying40 Tryd.underlying9 Tryd.underlying5 rfl q43 q44) rfl ?_
        obtain ⟨q45, h⟩ := h
        refine wl_val (at_cat rfl rfl q45) rfl ?_
        refine wl_val (at_assign rfl) rfl ?_
        refine wl_nil ?_
        refine wk_prune [(8, .pointer (some (⟨b1, 0, none⟩ : Addr))), (11, .int .u8 x14), (12, .int .u8 x17), (15, .string (((b32 ++ x6) ++ s22.1) ++ b42))] ⟨rfl, rfl, rfl, rfl, trivial⟩ (fun f1 => ?_)
        refine wk_then ?_
        refine wc_seq ?_
        refine wc_region ?_
        refine wl_val (at_move rfl) rfl ?_
        refine wl_val (at_build (cs := (c32 0 2 x14)) (ps := [(0, .int .i64 0), (1, .int .i64 2), (2, .int .u8 x14)]) rfl (fun w => by simp [Instr.build, Instr.fill, go_sem, Tryd.underlying32, z32] <;> rfl)) rfl ?_
        refine wl_newT (T := 32) (cs := (c32 0 0 0)) (ef_alloc zero32 rfl) rfl so ?_; intro b46 w47 hb_b46 t_b46 k_b46 so
        have g_b46 := Nat.le_of_eq hb_b46.symm
        have hc := k_b46.ch (F := [])
        have n_b1_b46 : b1 ≠ b46 := fun e => by have := t_b1.lt; omega
        replace t_b1 := t_b1.keep k_b46
        refine wl_stWT (vs := (c32 0 2 x14)) t_b46 (by first | (rw [len32, len32]) | (rw [len32]) | rfl) rfl so (fun q => ef_storeA (p := (⟨b46, 0, none⟩ : Addr)) (cs := (c32 0 2 x14)) (by rw [len32]; exact sz32) rfl rfl (one32 _ _ _) q) ?_; intro w48 t_b46 s_w48 so
        replace t_b1 := t_b1.same s_w48 (n_b1_b46)
        replace hc := ch_same hc s_w48 (.inr g_b46)
        refine wl_nil ?_
        refine wk_prune [(8, .pointer (some (⟨b1, 0, none⟩ : Addr))), (12, .int .u8 x17), (15, .string (((b32 ++ x6) ++ s22.1) ++ b42)), (16, .pointer (some (⟨b46, 0, none⟩ : Addr)))] ⟨rfl, rfl, rfl, rfl, trivial⟩ (fun f1 => ?_)
        refine wk_then ?_
        refine wc_seq ?_
        refine wc_region ?_
        refine wl_val (at_move rfl) rfl ?_
        refine wl_val (at_lenS Tryd.underlying9 rfl) rfl ?_
        refine wl_val (at_sub rfl rfl) rfl ?_
        refine wl_val (at_move rfl) rfl ?_
        refine wl_val (at_lenS Tryd.underlying9 rfl) rfl ?_
        refine wl_val (at_move rfl) rfl ?_
        refine wl_val (at_build (cs := (c32 (IntKind.wrap .i64 (((((b32 ++ x6) ++ s22.1) ++ b42).size : Int) - 2)) ((((b32 ++ x6) ++ s22.1) ++ b42).size : Int) x17)) (ps := [(0, .int .i64 (IntKind.wrap .i64 (((((b32 ++ x6) ++ s22.1) ++ b42).size : Int) - 2))), (1, .int .i64 ((((b32 ++ x6) ++ s22.1) ++ b42).size : Int)), (2, .int .u8 x17)]) rfl (fun w => by simp [Instr.build, Instr.fill, go_sem, Tryd.underlying32, z32] <;> rfl)) rfl ?_
        replace h := h b46 _ hc g_b46 t_b46.lt; clear hc
        refine wl_newT (T := 32) (cs := (c32 0 0 0)) (ef_alloc zero32 rfl) rfl so ?_; intro b49 w50 hb_b49 t_b49 k_b49 so
        have g_b49 := Nat.le_of_eq hb_b49.symm
        have hc := k_b49.ch (F := [])
        have n_b1_b49 : b1 ≠ b49 := fun e => by have := t_b1.lt; omega
        replace t_b1 := t_b1.keep k_b49
        have n_b46_b49 : b46 ≠ b49 := fun e => by have := t_b46.lt; omega
        replace t_b46 := t_b46.keep k_b49
        refine wl_stWT (vs := (c32 (IntKind.wrap .i64 (((((b32 ++ x6) ++ s22.1) ++ b42).size : Int) - 2)) ((((b32 ++ x6) ++ s22.1) ++ b42).size : Int) x17)) t_b49 (by first | (rw [len32, len32]) | (rw [len32]) | rfl) rfl so (fun q => ef_storeA (p := (⟨b49, 0, none⟩ : Addr)) (cs := (c32 (IntKind.wrap .i64 (((((b32 ++ x6) ++ s22.1) ++ b42).size : Int) - 2)) ((((b32 ++ x6) ++ s22.1) ++ b42).size : Int) x17)) (by rw [len32]; exact sz32) rfl rfl (one32 _ _ _) q) ?_; intro w51 t_b49 s_w51 so
        replace t_b1 := t_b1.same s_w51 (n_b1_b49)
        replace t_b46 := t_b46.same s_w51 (n_b46_b49)
        replace hc := ch_same hc s_w51 (.inr g_b49)
        refine wl_nil ?_
        refine wk_prune [(8, .pointer (some (⟨b1, 0, none⟩ : Addr))), (15, .string (((b32 ++ x6) ++ s22.1) ++ b42)), (16, .pointer (some (⟨b46, 0, none⟩ : Addr))), (17, .pointer (some (⟨b49, 0, none⟩ : Addr)))] ⟨rfl, rfl, rfl, rfl, trivial⟩ (fun f1 => ?_)
        refine wk_then ?_
        refine wc_seq ?_
        refine wc_region ?_
        replace h := h b49 _ hc g_b49 t_b49.lt; clear hc
        refine wl_newT (T := 3) (cs := [.int .i64 0]) (ef_alloc zero3 rfl) rfl so ?_; intro b52 w53 hb_b52 t_b52 k_b52 so
        have g_b52 := Nat.le_of_eq hb_b52.symm
        have hc := k_b52.ch (F := [])
        have n_b1_b52 : b1 ≠ b52 := fun e => by have := t_b1.lt; omega
        replace t_b1 := t_b1.keep k_b52
        have n_b46_b52 : b46 ≠ b52 := fun e => by have := t_b46.lt; omega
        replace t_b46 := t_b46.keep k_b52
        have n_b49_b52 : b49 ≠ b52 := fun e => by have := t_b49.lt; omega
        replace t_b49 := t_b49.keep k_b52
        refine wl_stT (v := .int .i64 0) (cs' := [.int .i64 0]) t_b52 (by first | decide | simp [ints_len, bools_len]) (by first | rfl | simp [List.set_append, ints_len, bools_len]) rfl so (fun q1 q2 => ef_store (sz := sz3) rfl rfl rfl q1 q2) ?_; intro w54 t_b52 s_w54 so
        replace t_b1 := t_b1.same s_w54 (n_b1_b52)
        replace t_b46 := t_b46.same s_w54 (n_b46_b52)
        replace t_b49 := t_b49.same s_w54 (n_b49_b52)
        replace hc := ch_same hc s_w54 (.inr g_b52)
        refine wl_nil ?_
        refine wk_prune [(8, .pointer (some (⟨b1, 0, none⟩ : Addr))), (15, .string (((b32 ++ x6) ++ s22.1) ++ b42)), (16, .pointer (some (⟨b46, 0, none⟩ : Addr))), (17, .pointer (some (⟨b49, 0, none⟩ : Addr))), (18, .pointer (some (⟨b52, 0, none⟩ : Addr)))] ⟨rfl, rfl, rfl, rfl, rfl, trivial⟩ (fun f1 => ?_)
        refine wk_then ?_
        refine wc_seq ?_
        refine wc_region ?_
        refine wl_val (at_move rfl) rfl ?_
        replace h := h b52 _ hc g_b52 t_b52.lt; clear hc
        refine wl_callF (marker_All.calls _ _ _ h) enter25 rfl trivial so ?_; intro x55 w56 h so
        obtain ⟨q57, h⟩ := h
        replace t_b1 := pv_bk q57 t_b1 (by simp)
        replace t_b46 := pv_bk q57 t_b46 (by simp)
        replace t_b49 := pv_bk q57 t_b49 (by simp)
        replace t_b52 := pv_bk q57 t_b52 (by simp)
        refine wl_val (at_assign rfl) rfl ?_
        refine wl_nil ?_
        refine wk_prune [(8, .pointer (some (⟨b1, 0, none⟩ : Addr))), (16, .pointer (some (⟨b46, 0, none⟩ : Addr))), (17, .pointer (some (⟨b49, 0, none⟩ : Addr))), (18, .pointer (some (⟨b52, 0, none⟩ : Addr))), (19, .func (.func 32) #[] #[.pointer (some x55)])] ⟨rfl, rfl, rfl, rfl, rfl, trivial⟩ (fun f1 => ?_)
        refine wk_then ?_
        refine wc_seq ?_
        refine wc_seq ?_
        refine wc_region ?_
        refine wl_val (at_move rfl) rfl ?_
        refine wl_val (at_eqlNF (v := .func (.func 32) #[] #[.pointer (some x55)]) Tryd.underlying42 rfl rfl rfl) rfl ?_
        refine wl_nil ?_
        refine wk_prune [(8, .pointer (some (⟨b1, 0, none⟩ : Addr))), (16, .pointer (some (⟨b46, 0, none⟩ : Addr))), (17, .pointer (some (⟨b49, 0, none⟩ : Addr))), (18, .pointer (some (⟨b52, 0, none⟩ : Addr))), (19, .func (.func 32) #[] #[.pointer (some x55)]), (82, .bool false)] ⟨rfl, rfl, rfl, rfl, rfl, rfl, trivial⟩ (fun f1 => ?_)
        refine wk_then ?_
        refine wc_cond_f rfl ?_
        refine wc_skip ?_
        refine wk_prune [(8, .pointer (some (⟨b1, 0, none⟩ : Addr))), (16, .pointer (some (⟨b46, 0, none⟩ : Addr))), (17, .pointer (some (⟨b49, 0, none⟩ : Addr))), (18, .pointer (some (⟨b52, 0, none⟩ : Addr))), (19, .func (.func 32) #[] #[.pointer (some x55)])] ⟨rfl, rfl, rfl, rfl, rfl, trivial⟩ (fun f1 => ?_)
        refine wk_then ?_
        refine wc_seq ?_
        refine wc_seq ?_
        refine wc_region ?_
        refine wl_val (at_move rfl) rfl ?_
        refine wl_nil ?_
        refine wk_prune [(8, .pointer (some (⟨b1, 0, none⟩ : Addr))), (16, .pointer (some (⟨b46, 0, none⟩ : Addr))), (17, .pointer (some (⟨b49, 0, none⟩ : Addr))), (18, .pointer (some (⟨b52, 0, none⟩ : Addr))), (83, .func (.func 32) #[] #[.pointer (some x55)])] ⟨rfl, rfl, rfl, rfl, rfl, trivial⟩ (fun f1 => ?_)
        refine wk_then ?_
        refine wc_block ?_
        replace h := h t_b1
        replace h := h t_b46
        replace h := h t_b49
        replace h := h t_b52
        refine wc_prune [(8, .pointer (some (⟨b1, 0, none⟩ : Addr))), (16, .pointer (some (⟨b46, 0, none⟩ : Addr))), (17, .pointer (some (⟨b49, 0, none⟩ : Addr))), (18, .pointer (some (⟨b52, 0, none⟩ : Addr))), (83, .func (.func 32) #[] #[.pointer (some x55)])] ⟨rfl, rfl, rfl, rfl, rfl, trivial⟩ (fun f1 => ?_)
        refine wc_rng (caps := [.pointer (some x55)]) rfl enter32 so h ?_; intro r58 D66 w61 q59 q60 h so
        refine Ca.mono (marker_All_1.calls _ _ (yok (ps := [84]) q60 (fun _ => rfl) fun x62 w64 K63 h => ?_) _ w61 _ h) ?_
        · refine ⟨h.1, ?_⟩; replace h := h.2; have so := Sm.refl w64; refine wc_prune [(8, .pointer (some (⟨b1, 0, none⟩ : Addr))), (16, .pointer (some (⟨b46, 0, none⟩ : Addr))), (17, .pointer (some (⟨b49, 0, none⟩ : Addr))), (18, .pointer (some (⟨b52, 0, none⟩ : Addr))), (84, .agg (c32 x62.1 x62.2.1 x62.2.2).toArray)] ⟨rfl, rfl, rfl, rfl, rfl, trivial⟩ (fun f1 => ?_)
          refine wc_region ?_
          refine wl_newT (T := 32) (cs := (c32 0 0 0)) (ef_alloc zero32 rfl) rfl so ?_; intro b67 w68 hb_b67 t_b67 k_b67 so
          have g_b67 := Nat.le_of_eq hb_b67.symm
          have hc := k_b67.ch (F := [])
          refine wl_stWT (vs := (c32 x62.1 x62.2.1 x62.2.2)) t_b67 (by first | (rw [len32, len32]) | (rw [len32]) | rfl) rfl so (fun q => ef_storeA (p := (⟨b67, 0, none⟩ : Addr)) (cs := (c32 x62.1 x62.2.1 x62.2.2)) (by rw [len32]; exact sz32) rfl rfl (one32 _ _ _) q) ?_; intro w69 t_b67 s_w69 so
          replace hc := ch_same hc s_w69 (.inr g_b67)
          refine wl_nil ?_
          replace h := h b67 _ hc g_b67 t_b67.lt; clear hc
          refine wk_prune [(8, .pointer (some (⟨b1, 0, none⟩ : Addr))), (16, .pointer (some (⟨b46, 0, none⟩ : Addr))), (17, .pointer (some (⟨b49, 0, none⟩ : Addr))), (18, .pointer (some (⟨b52, 0, none⟩ : Addr))), (20, .pointer (some (⟨b67, 0, none⟩ : Addr)))] ⟨rfl, rfl, rfl, rfl, rfl, trivial⟩ (fun f1 => ?_)
          refine wk_asg q59 h so ?_; intro w70 h so
          obtain ⟨q71, h⟩ := h
          replace t_b67 := pv_bk q71 t_b67 (by simp)
          refine wc_block ?_
          refine wc_seq ?_
          refine wc_seq ?_
          refine wc_join (w0 := w64) (fun (s73 : Bool) => [(8, .pointer (some (⟨b1, 0, none⟩ : Addr))), (18, .pointer (some (⟨b52, 0, none⟩ : Addr))), (104, .bool s73)]) h ?_ ?_
          · rintro s73 w74 f1 h so; refine wk_then ?_
            refine wc_cond rfl h (fun h => ?_) (fun h => ?_)
            · refine wc_seq ?_
              refine wc_region ?_
              refine wl_st (v := .bool false) h rfl so (fun q1 q2 => ef_store (sz := sz4) rfl rfl rfl q1 q2) ?_; intro w75 h so
              refine wl_nil ?_
              refine wk_prune [(8, .pointer (some (⟨b1, 0, none⟩ : Addr)))] ⟨rfl, trivial⟩ (fun f1 => ?_)
              refine wk_then ?_
              refine wc_ret ?_
              refine wk_thenR ?_
              refine wk_blkR ?_
              exact wk_rdR h so
            · refine wc_skip ?_
              refine wk_prune [(18, .pointer (some (⟨b52, 0, none⟩ : Addr)))] ⟨rfl, trivial⟩ (fun f1 => ?_)
              refine wk_then ?_
              refine wc_region ?_
              obtain ⟨x76, q77, h⟩ := h
              refine wl_val (at_load Tryd.underlying3 rfl rfl q77) rfl ?_
              refine wl_val (at_add rfl rfl) rfl ?_
              refine wl_st (v := .int .i64 (IntKind.wrap .i64 (x76 + 1))) h rfl so (fun q1 q2 => ef_store (sz := sz3) rfl rfl rfl q1 q2) ?_; intro w78 h so
              refine wl_nil ?_
              refine wk_blkN ?_
              exact wk_rdN q59 h so
          · intro J72 h hJ72
            refine wc_region ?_
            obtain ⟨x79, q80, h⟩ := h
            refine wl_val (at_load Tryd.underlying3 rfl rfl q80) rfl ?_
            refine wl_val (at_eql rfl rfl) rfl ?_
            refine wl_val (at_move rfl) rfl ?_
            refine bif_ h (fun hb h => ?_) (fun hb h => ?_)
            · refine wl_set (t := 87) (v := .bool true) (congrArg Value.bool hb) ?_; clear hb
              refine wl_on (t := 87) rfl (by decide) rfl ?_
              refine wl_val (at_loadA (cs := (c32 x62.1 x62.2.1 x62.2.2)) Tryd.underlying32 rfl (by rw [len32]; exact sz32) rfl (ldA_full t_b67)) rfl ?_
              refine wl_on (t := 87) rfl (by decide) rfl ?_
              obtain ⟨x81, x82, x83, q84, h⟩ := h
              refine wl_val (at_loadA (cs := (c32 x81 x82 x83)) Tryd.underlying32 rfl (by rw [len32]; exact sz32) rfl q84) rfl ?_
              refine wl_on (t := 87) rfl (by decide) rfl ?_
              refine wl_val (at_neqA (xs := (c32 x62.1 x62.2.1 x62.2.2)) (ys := (c32 x81 x82 x83)) rfl rfl (by kernel_rfl) (eqv_struct Tryd.underlying32 (by kernel_rfl) (eqf_cons rfl (pt_one (v := .int .i64 x62.1) Tryd.underlying3 rfl rfl) (pt_one (v := .int .i64 x81) Tryd.underlying3 rfl rfl) (eqv_int Tryd.underlying3) (eqf_cons rfl (pt_one (v := .int .i64 x62.2.1) Tryd.underlying3 rfl rfl) (pt_one (v := .int .i64 x82) Tryd.underlying3 rfl rfl) (eqv_int Tryd.underlying3) (eqf_last rfl (pt_one (v := .int .u8 x62.2.2) Tryd.underlying5 rfl rfl) (pt_one (v := .int .u8 x83) Tryd.underlying5 rfl rfl) (eqv_int Tryd.underlying5)))))) rfl ?_
              refine wl_val (at_pick_t rfl rfl) rfl ?_
              refine wl_val (at_move rfl) rfl ?_
              refine bif_ h (fun hb h => ?_) (fun hb h => ?_)
              · refine wl_set (t := 92) (v := .bool true) (congrArg Value.bool hb) ?_; clear hb
                refine wl_off (t := 92) rfl (by decide) rfl ?_
                refine wl_off (t := 92) rfl (by decide) rfl ?_
                refine wl_off (t := 92) rfl (by decide) rfl ?_
                refine wl_off' (t := 95) rfl (by decide) rfl ?_
                refine wl_off' (t := 95) rfl (by decide) rfl ?_
                refine wl_off' (t := 95) rfl (by decide) rfl ?_
                refine wl_off (t := 92) rfl (by decide) rfl ?_
                refine wl_val (at_pick_t rfl rfl) rfl ?_
                refine wl_val (at_move rfl) rfl ?_
                refine wl_off (t := 101) rfl (by decide) rfl ?_
                refine wl_off (t := 101) rfl (by decide) rfl ?_
                refine wl_val (at_pick_t rfl rfl) rfl ?_
                refine wl_nil ?_
                exact wk_prune [(8, .pointer (some (⟨b1, 0, none⟩ : Addr))), (18, .pointer (some (⟨b52, 0, none⟩ : Addr))), (104, .bool true)] ⟨rfl, rfl, rfl, trivial⟩ (fun f1 => hJ72 (true) _ f1 h so)
              · refine wl_set (t := 92) (v := .bool false) (congrArg Value.bool hb) ?_; clear hb
                refine wl_on (t := 92) rfl (by decide) rfl ?_
                obtain ⟨x85, q86, h⟩ := h
                refine wl_val (at_load Tryd.underlying3 rfl rfl q86) rfl ?_
                refine wl_on (t := 92) rfl (by decide) rfl ?_
                refine wl_val (at_eql rfl rfl) rfl ?_
                refine wl_on (t := 92) rfl (by decide) rfl ?_
                refine wl_val (at_move rfl) rfl ?_
                refine bif_ h (fun hb h => ?_) (fun hb h => ?_)
                · refine wl_set (t := 95) (v := .bool true) (congrArg Value.bool hb) ?_; clear hb
                  refine wl_on (t := 95) rfl (by decide) rfl ?_
                  refine wl_val (at_loadA (cs := (c32 x62.1 x62.2.1 x62.2.2)) Tryd.underlying32 rfl (by rw [len32]; exact sz32) rfl (ldA_full t_b67)) rfl ?_
                  refine wl_on (t := 95) rfl (by decide) rfl ?_
                  obtain ⟨x87, x88, x89, q90, h⟩ := h
                  refine wl_val (at_loadA (cs := (c32 x87 x88 x89)) Tryd.underlying32 rfl (by rw [len32]; exact sz32) rfl q90) rfl ?_
                  refine wl_on (t := 95) rfl (by decide) rfl ?_
                  refine wl_val (at_neqA (xs := (c32 x62.1 x62.2.1 x62.2.2)) (ys := (c32 x87 x88 x89)) rfl rfl (by kernel_rfl) (eqv_struct Tryd.underlying32 (by kernel_rfl) (eqf_cons rfl (pt_one (v := .int .i64 x62.1) Tryd.underlying3 rfl rfl) (pt_one (v := .int .i64 x87) Tryd.underlying3 rfl rfl) (eqv_int Tryd.underlying3) (eqf_cons rfl (pt_one (v := .int .i64 x62.2.1) Tryd.underlying3 rfl rfl) (pt_one (v := .int .i64 x88) Tryd.underlying3 rfl rfl) (eqv_int Tryd.underlying3) (eqf_last rfl (pt_one (v := .int .u8 x62.2.2) Tryd.underlying5 rfl rfl) (pt_one (v := .int .u8 x89) Tryd.underlying5 rfl rfl) (eqv_int Tryd.underlying5)))))) rfl ?_
                  refine wl_on (t := 92) rfl (by decide) rfl ?_
                  refine wl_val (at_pick_t rfl rfl) rfl ?_
                  refine wl_val (at_pick_f rfl rfl) rfl ?_
                  refine wl_val (at_move rfl) rfl ?_
                  refine bif_ h (fun hb h => ?_) (fun hb h => ?_)
                  · refine wl_set (t := 101) (v := .bool true) (congrArg Value.bool hb) ?_; clear hb
                    refine wl_off (t := 101) rfl (by decide) rfl ?_
                    refine wl_off (t := 101) rfl (by decide) rfl ?_
                    refine wl_val (at_pick_t rfl rfl) rfl ?_
                    refine wl_nil ?_
                    exact wk_prune [(8, .pointer (some (⟨b1, 0, none⟩ : Addr))), (18, .pointer (some (⟨b52, 0, none⟩ : Addr))), (104, .bool true)] ⟨rfl, rfl, rfl, trivial⟩ (fun f1 => hJ72 (true) _ f1 h so)
                  · refine wl_set (t := 101) (v := .bool false) (congrArg Value.bool hb) ?_; clear hb
                    refine wl_on (t := 101) rfl (by decide) rfl ?_
                    obtain ⟨x91, q92, h⟩ := h
                    refine wl_val (at_load Tryd.underlying3 rfl rfl q92) rfl ?_
                    refine wl_on (t := 101) rfl (by decide) rfl ?_
                    refine wl_val (at_gtr rfl rfl) rfl ?_
                    refine wl_val (at_pick_f rfl rfl) rfl ?_
                    refine wl_nil ?_
                    exact wk_prune [(8, .pointer (some (⟨b1, 0, none⟩ : Addr))), (18, .pointer (some (⟨b52, 0, none⟩ : Addr))), (104, .bool (decide ((1 : Int) < x91)))] ⟨rfl, rfl, rfl, trivial⟩ (fun f1 => hJ72 ((decide ((1 : Int) < x91))) _ f1 h so)
                · refine wl_set (t := 95) (v := .bool false) (congrArg Value.bool hb) ?_; clear hb
                  refine wl_off (t := 95) rfl (by decide) rfl ?_
                  refine wl_off (t := 95) rfl (by decide) rfl ?_
                  refine wl_off (t := 95) rfl (by decide) rfl ?_
                  refine wl_on (t := 92) rfl (by decide) rfl ?_
                  refine wl_val (at_pick_f rfl rfl) rfl ?_
                  refine wl_val (at_pick_f rfl rfl) rfl ?_
                  refine wl_val (at_move rfl) rfl ?_
                  refine wl_on (t := 101) rfl (by decide) rfl ?_
                  obtain ⟨x93, q94, h⟩ := h
                  refine wl_val (at_load Tryd.underlying3 rfl rfl q94) rfl ?_
                  refine wl_on (t := 101) rfl (by decide) rfl ?_
                  refine wl_val (at_gtr rfl rfl) rfl ?_
                  refine wl_val (at_pick_f rfl rfl) rfl ?_
                  refine wl_nil ?_
                  exact wk_prune [(8, .pointer (some (⟨b1, 0, none⟩ : Addr))), (18, .pointer (some (⟨b52, 0, none⟩ : Addr))), (104, .bool (decide ((1 : Int) < x93)))] ⟨rfl, rfl, rfl, trivial⟩ (fun f1 => hJ72 ((decide ((1 : Int) < x93))) _ f1 h so)
            · refine wl_set (t := 87) (v := .bool false) (congrArg Value.bool hb) ?_; clear hb
              refine wl_off (t := 87) rfl (by decide) rfl ?_
              refine wl_off (t := 87) rfl (by decide) rfl ?_
              refine wl_off (t := 87) rfl (by decide) rfl ?_
              refine wl_val (at_pick_f rfl rfl) rfl ?_
              refine wl_val (at_move rfl) rfl ?_
              refine wl_on (t := 92) rfl (by decide) rfl ?_
              obtain ⟨x95, q96, h⟩ := h
              refine wl_val (at_load Tryd.underlying3 rfl rfl q96) rfl ?_
              refine wl_on (t := 92) rfl (by decide) rfl ?_
              refine wl_val (at_eql rfl rfl) rfl ?_
              refine wl_on (t := 92) rfl (by decide) rfl ?_
              refine wl_val (at_move rfl) rfl ?_
              refine bif_ h (fun hb h => ?_) (fun hb h => ?_)
              · refine wl_set (t := 95) (v := .bool true) (congrArg Value.bool hb) ?_; clear hb
                refine wl_on (t := 95) rfl (by decide) rfl ?_
                refine wl_val (at_loadA (cs := (c32 x62.1 x62.2.1 x62.2.2)) Tryd.underlying32 rfl (by rw [len32]; exact sz32) rfl (ldA_full t_b67)) rfl ?_
                refine wl_on (t := 95) rfl (by decide) rfl ?_
                obtain ⟨x97, x98, x99, q100, h⟩ := h
                refine wl_val (at_loadA (cs := (c32 x97 x98 x99)) Tryd.underlying32 rfl (by rw [len32]; exact sz32) rfl q100) rfl ?_
                refine wl_on (t := 95) rfl (by decide) rfl ?_
                refine wl_val (at_neqA (xs := (c32 x62.1 x62.2.1 x62.2.2)) (ys := (c32 x97 x98 x99)) rfl rfl (by kernel_rfl) (eqv_struct Tryd.underlying32 (by kernel_rfl) (eqf_cons rfl (pt_one (v := .int .i64 x62.1) Tryd.underlying3 rfl rfl) (pt_one (v := .int .i64 x97) Tryd.underlying3 rfl rfl) (eqv_int Tryd.underlying3) (eqf_cons rfl (pt_one (v := .int .i64 x62.2.1) Tryd.underlying3 rfl rfl) (pt_one (v := .int .i64 x98) Tryd.underlying3 rfl rfl) (eqv_int Tryd.underlying3) (eqf_last rfl (pt_one (v := .int .u8 x62.2.2) Tryd.underlying5 rfl rfl) (pt_one (v := .int .u8 x99) Tryd.underlying5 rfl rfl) (eqv_int Tryd.underlying5)))))) rfl ?_
                refine wl_on (t := 92) rfl (by decide) rfl ?_
                refine wl_val (at_pick_t rfl rfl) rfl ?_
                refine wl_val (at_pick_f rfl rfl) rfl ?_
                refine wl_val (at_move rfl) rfl ?_
                refine bif_ h (fun hb h => ?_) (fun hb h => ?_)
                · refine wl_set (t := 101) (v := .bool true) (congrArg Value.bool hb) ?_; clear hb
                  refine wl_off (t := 101) rfl (by decide) rfl ?_
                  refine wl_off (t := 101) rfl (by decide) rfl ?_
                  refine wl_val (at_pick_t rfl rfl) rfl ?_
                  refine wl_nil ?_
                  exact wk_prune [(8, .pointer (some (⟨b1, 0, none⟩ : Addr))), (18, .pointer (some (⟨b52, 0, none⟩ : Addr))), (104, .bool true)] ⟨rfl, rfl, rfl, trivial⟩ (fun f1 => hJ72 (true) _ f1 h so)
                · refine wl_set (t := 101) (v := .bool false) (congrArg Value.bool hb) ?_; clear hb
                  refine wl_on (t := 101) rfl (by decide) rfl ?_
                  obtain ⟨x101, q102, h⟩ := h
                  refine wl_val (at_load Tryd.underlying3 rfl rfl q102) rfl ?_
                  refine wl_on (t := 101) rfl (by decide) rfl ?_
                  refine wl_val (at_gtr rfl rfl) rfl ?_
                  refine wl_val (at_pick_f rfl rfl) rfl ?_
                  refine wl_nil ?_
                  exact wk_prune [(8, .pointer (some (⟨b1, 0, none⟩ : Addr))), (18, .pointer (some (⟨b52, 0, none⟩ : Addr))), (104, .bool (decide ((1 : Int) < x101)))] ⟨rfl, rfl, rfl, trivial⟩ (fun f1 => hJ72 ((decide ((1 : Int) < x101))) _ f1 h so)
              · refine wl_set (t := 95) (v := .bool false) (congrArg Value.bool hb) ?_; clear hb
                refine wl_off (t := 95) rfl (by decide) rfl ?_
                refine wl_off (t := 95) rfl (by decide) rfl ?_
                refine wl_off (t := 95) rfl (by decide) rfl ?_
                refine wl_on (t := 92) rfl (by decide) rfl ?_
                refine wl_val (at_pick_f rfl rfl) rfl ?_
                refine wl_val (at_pick_f rfl rfl) rfl ?_
                refine wl_val (at_move rfl) rfl ?_
                refine wl_on (t := 101) rfl (by decide) rfl ?_
                obtain ⟨x103, q104, h⟩ := h
                refine wl_val (at_load Tryd.underlying3 rfl rfl q104) rfl ?_
                refine wl_on (t := 101) rfl (by decide) rfl ?_
                refine wl_val (at_gtr rfl rfl) rfl ?_
                refine wl_val (at_pick_f rfl rfl) rfl ?_
                refine wl_nil ?_
                exact wk_prune [(8, .pointer (some (⟨b1, 0, none⟩ : Addr))), (18, .pointer (some (⟨b52, 0, none⟩ : Addr))), (104, .bool (decide ((1 : Int) < x103)))] ⟨rfl, rfl, rfl, trivial⟩ (fun f1 => hJ72 ((decide ((1 : Int) < x103))) _ f1 h so)
        · rintro _ w65 ⟨_, rfl, h, q105⟩; replace so := so.trans q105
          rcases h with h | h
          · refine rp_none q59 h so ?_; intro w106 h so
            refine wk_blkN ?_
            refine wk_prune [(8, .pointer (some (⟨b1, 0, none⟩ : Addr))), (18, .pointer (some (⟨b52, 0, none⟩ : Addr)))] ⟨rfl, rfl, trivial⟩ (fun f1 => ?_)
            refine wk_then ?_
            refine wc_seq ?_
            refine wc_region ?_
            obtain ⟨x107, q108, h⟩ := h
            refine wl_val (at_load Tryd.underlying3 rfl rfl q108) rfl ?_
            refine wl_val (at_eql rfl rfl) rfl ?_
            refine wl_st (v := .bool (x107 == 2)) h rfl so (fun q1 q2 => ef_store (sz := sz4) rfl rfl rfl q1 q2) ?_; intro w109 h so
            refine wl_nil ?_
            refine wk_prune [(8, .pointer (some (⟨b1, 0, none⟩ : Addr)))] ⟨rfl, trivial⟩ (fun f1 => ?_)
            refine wk_then ?_
            refine wc_ret ?_
            refine wk_tk h so ?_; intro w110 h so
            obtain ⟨x112, q111, h⟩ := h
            exact wk_retR1 (x := x112) rfl ⟨by decide, _, rfl, loadVar_one Tryd.underlying4 rfl q111⟩ rfl so h
          · refine rp_jump h so ?_; intro w113 h so; refine wc_ret ?_
            refine wk_blkR ?_
            refine wk_thenR ?_
            refine wk_tk h so ?_; intro w114 h so
            obtain ⟨x116, q115, h⟩ := h
            exact wk_retR1 (x := x116) rfl ⟨by decide, _, rfl, loadVar_one Tryd.underlying4 rfl q115⟩ rfl so h
  · intro J9 h hJ9
    refine wc_region ?_
    refine wl_val (at_move rfl) rfl ?_
    refine wl_val (at_not rfl) rfl ?_
    refine wl_val (at_move rfl) rfl ?_
    refine bif_ h (fun hb h => ?_) (fun hb h => ?_)
    · refine wl_set (t := 26) (v := .bool true) (congrArg Value.bool hb) ?_; clear hb
      refine wl_off (t := 26) rfl (by decide) rfl ?_
      refine wl_off (t := 26) rfl (by decide) rfl ?_
      refine wl_off (t := 26) rfl (by decide) rfl ?_
      refine wl_val (at_pick_t rfl rfl) rfl ?_
      refine wl_val (at_move rfl) rfl ?_
      refine wl_off (t := 31) rfl (by decide) rfl ?_
      refine wl_off (t := 31) rfl (by decide) rfl ?_
      refine wl_off (t := 31) rfl (by decide) rfl ?_
      refine wl_off (t := 31) rfl (by decide) rfl ?_
      refine wl_off (t := 31) rfl (by decide) rfl ?_
      refine wl_off (t := 31) rfl (by decide) rfl ?_
      refine wl_off (t := 31) rfl (by decide) rfl ?_
      refine wl_off (t := 31) rfl (by decide) rfl ?_
      refine wl_val (at_pick_t rfl rfl) rfl ?_
      refine wl_val (at_move rfl) rfl ?_
      refine wl_off (t := 41) rfl (by decide) rfl ?_
      refine wl_off (t := 41) rfl (by decide) rfl ?_
      refine wl_off (t := 41) rfl (by decide) rfl ?_
      refine wl_off (t := 41) rfl (by decide) rfl ?_
      refine wl_val (at_pick_t rfl rfl) rfl ?_
      refine wl_nil ?_
      exact wk_prune [(1, .int .i64 a1), (2, .int .i64 a2), (3, .int .i64 a3), (8, .pointer (some (⟨b1, 0, none⟩ : Addr))), (10, .string x6), (46, .bool true)] ⟨rfl, rfl, rfl, rfl, rfl, rfl, trivial⟩ (fun f1 => hJ9 (true) _ f1 h ⟨t_b1, trivial⟩ so)
    · refine wl_set (t := 26) (v := .bool false) (congrArg Value.bool hb) ?_; clear hb
      refine wl_on (t := 26) rfl (by decide) rfl ?_
      refine wl_val (at_move rfl) rfl ?_
      refine wl_on (t := 26) rfl (by decide) rfl ?_
      refine wl_callF (marker_Free.calls _ _ _ h) enter16 rfl trivial so ?_; intro x117 w118 h so
      obtain ⟨q119, h⟩ := h
      replace t_b1 := pv_bk q119 t_b1 (by simp)
      refine wl_on (t := 26) rfl (by decide) rfl ?_
      refine wl_val (at_not rfl) rfl ?_
      refine wl_val (at_pick_f rfl rfl) rfl ?_
      refine wl_val (at_move rfl) rfl ?_
      refine bif_ h (fun hb h => ?_) (fun hb h => ?_)
      · refine wl_set (t := 31) (v := .bool true) (congrArg Value.bool hb) ?_; clear hb
        refine wl_off (t := 31) rfl (by decide) rfl ?_
        refine wl_off (t := 31) rfl (by decide) rfl ?_
        refine wl_off (t := 31) rfl (by decide) rfl ?_
        refine wl_off (t := 31) rfl (by decide) rfl ?_
        refine wl_off (t := 31) rfl (by decide) rfl ?_
        refine wl_off (t := 31) rfl (by decide) rfl ?_
        refine wl_off (t := 31) rfl (by decide) rfl ?_
        refine wl_off (t := 31) rfl (by decide) rfl ?_
        refine wl_val (at_pick_t rfl rfl) rfl ?_
        refine wl_val (at_move rfl) rfl ?_
        refine wl_off (t := 41) rfl (by decide) rfl ?_
        refine wl_off (t := 41) rfl (by decide) rfl ?_
        refine wl_off (t := 41) rfl (by decide) rfl ?_
        refine wl_off (t := 41) rfl (by decide) rfl ?_
        refine wl_val (at_pick_t rfl rfl) rfl ?_
        refine wl_nil ?_
        exact wk_prune [(1, .int .i64 a1), (2, .int .i64 a2), (3, .int .i64 a3), (8, .pointer (some (⟨b1, 0, none⟩ : Addr))), (10, .string x6), (46, .bool true)] ⟨rfl, rfl, rfl, rfl, rfl, rfl, trivial⟩ (fun f1 => hJ9 (true) _ f1 h ⟨t_b1, trivial⟩ so)
      · refine wl_set (t := 31) (v := .bool false) (congrArg Value.bool hb) ?_; clear hb
        refine wl_on (t := 31) rfl (by decide) rfl ?_
        refine wl_val (at_move rfl) rfl ?_
        refine wl_on (t := 31) rfl (by decide) rfl ?_
        refine wl_val (at_lenS Tryd.underlying9 rfl) rfl ?_
        refine wl_on (t := 31) rfl (by decide) rfl ?_
        refine wl_val (at_move rfl) rfl ?_
        refine wl_on (t := 31) rfl (by decide) rfl ?_
        refine wl_val (at_lenS Tryd.underlying9 rfl) rfl ?_
        refine wl_on (t := 31) rfl (by decide) rfl ?_
        refine wl_val (at_move rfl) rfl ?_
        refine wl_on (t := 31) rfl (by decide) rfl ?_
        refine wl_callF (mosaiclaw02_ffs.calls _ _ _ h) enter22 rfl trivial so ?_; intro x120 w121 h so
        obtain ⟨q122, h⟩ := h
        replace t_b1 := pv_bk q122 t_b1 (by simp)
        refine wl_on (t := 31) rfl (by decide) rfl ?_
        refine wl_val (at_add rfl rfl) rfl ?_
        refine wl_on (t := 31) rfl (by decide) rfl ?_
        refine wl_val (at_neq rfl rfl) rfl ?_
        refine wl_val (at_pick_f rfl rfl) rfl ?_
        refine wl_val (at_move rfl) rfl ?_
        refine bif_ h (fun hb h => ?_) (fun hb h => ?_)
        · refine wl_set (t := 41) (v := .bool true) (congrArg Value.bool hb) ?_; clear hb
          refine wl_off (t := 41) rfl (by decide) rfl ?_
          refine wl_off (t := 41) rfl (by decide) rfl ?_
          refine wl_off (t := 41) rfl (by decide) rfl ?_
          refine wl_off (t := 41) rfl (by decide) rfl ?_
          refine wl_val (at_pick_t rfl rfl) rfl ?_
          refine wl_nil ?_
          exact wk_prune [(1, .int .i64 a1), (2, .int .i64 a2), (3, .int .i64 a3), (8, .pointer (some (⟨b1, 0, none⟩ : Addr))), (10, .string x6), (46, .bool true)] ⟨rfl, rfl, rfl, rfl, rfl, rfl, trivial⟩ (fun f1 => hJ9 (true) _ f1 h ⟨t_b1, trivial⟩ so)
        · refine wl_set (t := 41) (v := .bool false) (congrArg Value.bool hb) ?_; clear hb
          refine wl_on (t := 41) rfl (by decide) rfl ?_
          refine wl_val (at_move rfl) rfl ?_
          refine wl_on (t := 41) rfl (by decide) rfl ?_
          refine wl_callF (mosaiclaw02_unstuffed.calls _ _ _ h) enter23 rfl trivial so ?_; intro x123 w124 h so
          obtain ⟨q125, h⟩ := h
          replace t_b1 := pv_bk q125 t_b1 (by simp)
          refine wl_on (t := 41) rfl (by decide) rfl ?_
          refine wl_val (at_move rfl) rfl ?_
          refine wl_on (t := 41) rfl (by decide) rfl ?_
          refine wl_val (at_neqS rfl rfl) rfl ?_
          refine wl_val (at_pick_f rfl rfl) rfl ?_
          refine wl_nil ?_
          exact wk_prune [(1, .int .i64 a1), (2, .int .i64 a2), (3, .int .i64 a3), (8, .pointer (some (⟨b1, 0, none⟩ : Addr))), (10, .string x6), (46, .bool (!(x123.toList == a0.toList)))] ⟨rfl, rfl, rfl, rfl, rfl, rfl, trivial⟩ (fun f1 => hJ9 ((!(x123.toList == a0.toList))) _ f1 h ⟨t_b1, trivial⟩ so)
end Go.Proofs.YtkplpbnifinlbaaDoor.G
