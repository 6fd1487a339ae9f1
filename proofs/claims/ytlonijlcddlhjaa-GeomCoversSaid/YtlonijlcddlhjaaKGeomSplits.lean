import Derived.Test.YtlonijlcddlhjaaGF
import Derived.Test.YtlonijlcddlhjaaKgeom
import Derived.Test.YtlonijlcddlhjaaKmosaiclaw14
namespace Go.Proofs.Ytlonijlcddlhjaa.G
open Go.RowKit
set_option linter.unusedVariables false
set_option linter.unusedSimpArgs false
/-- mosaic/mosaiclaw14.GeomSplits -/
def mosaiclaw14_GeomSplits.enc : Bool → Value := fun r => .bool r
def mosaiclaw14_GeomSplits.s (a0_0 : Int) (a0_1 : Int) (a0_2 : Int) (a0_3 : Sl) (a1 : Sl) (a2 : Int) (H0 : Hp) (Q : Bool → Hp → Prop) : Prop :=
  Gn [] H0 (fun (b1 : Nat) (H2 : Hp) => Gn [] H2 (fun (b3 : Nat) (H4 : Hp) => mosaiclaw14_alive.s H4 (fun x5 H6 => Pv [b1, b3] H4 H6 ∧ (Join (fun (s9 : Bool) (H10 : Hp) => if s9 = true then (Gr [b3] H10 (fun (H11 : Hp) => Q x5 H11)) else (geom_Units.s a0_0 a0_1 a0_2 a0_3 a1 H10 (fun x13 H14 => Pv [b1, b3] H10 H14 ∧ (Gn [] H14 (fun (b16 : Nat) (H17 : Hp) => geom_Walk.s a0_0 a0_1 a0_2 a0_3 a1 0 (IntKind.wrap .i64 (x13.1 * x13.2)) H17 (fun x18 H19 => Pv [b1, b3, b16] H17 H19 ∧ (Bk H19 b1 26 (c26 a0_0 a0_1 a0_2 a0_3) → (Bk H19 b3 4 [.bool false] → (Bk H19 b16 44 [.slice none 0 0] → (Rg H19 (fun r21 D29 H24 => geom_Walk_1.s (.func (.yield (D29 + 1)) #[] #[]) (fun (x25 : Int × Int × Int × Int × Bool) (H27 : Hp) (K26 : Bool → Hp → Prop) => Lp H27 (D29 + 1) r21 ∧ (Gn [] H27 (fun (b30 : Nat) (H32 : Hp) => Lp H32 (D29 + 1) r21 ∧ Up (putL H32 (D29 + 1) (bsy r21)) (fun H33 => Pv [b30] H32 H33 ∧ (ldL H33 (⟨b16, 0, none⟩ : Addr) (fun x35 => nw H33 50 (c50 x25.1 x25.2.1 x25.2.2.1 x25.2.2.2.1 x25.2.2.2.2) (fun p37 H38 => apS H38 x35 50 5 40 z50.cells 1 (c50 x25.1 x25.2.1 x25.2.2.1 x25.2.2.2.1 x25.2.2.2.2) (fun l42 H43 => st H43 (⟨b16, 0, none⟩ : Addr) (.slice l42.a l42.n l42.c) (fun H44 => Lp H44 (D29 + 1) (bsy r21) ∧ K26 true (putL H44 (D29 + 1) r21)))))))))) x18.1 x18.2.1 x18.2.2.1 x18.2.2.2.1 x18.2.2.2.2 H24 (fun _ H28 => Lp H28 (D29 + 1) r21 ∧ Up (putL H28 (D29 + 1) (exh r21)) (fun H46 => Join (fun (s48 : Int) (H49 : Hp) => ∃ x50 : Int, ∃ x51 : Int, ∃ x52 : Int, ∃ x53 : Sl, ldA H49 (⟨b1, 0, none⟩ : Addr) (c26 x50 x51 x52 x53) ∧ (geom_Intervals.s x50 x51 x52 x53 a1 a2 H49 (fun x55 H56 => Gn [] H56 (fun (b57 : Nat) (H59 : Hp) => Bk H59 b57 3 [.int .i64 0] → (∃ k60, Fix (fun (rec65 : (Int × (List Nat)) → Hp → Prop) (s62 : Int × (List Nat)) (H63 : Hp) => if decide (s62.1 < x55) = true then (ldI .i64 H63 (⟨b57, 0, none⟩ : Addr) (fun x66 => ∃ x68 : Int, ∃ x69 : Int, ∃ x70 : Int, ∃ x71 : Sl, ldA H63 (⟨b1, 0, none⟩ : Addr) (c26 x68 x69 x70 x71) ∧ (geom_Walk.s x68 x69 x70 x71 a1 (IntKind.wrap .i64 (s62.1 * s48)) s48 H63 (fun x73 H74 => Rg H74 (fun r75 D83 H78 => geom_Walk_1.s (.func (.yield (D83 + 1)) #[] #[]) (fun (x79 : Int × Int × Int × Int × Bool) (H81 : Hp) (K80 : Bool → Hp → Prop) => Lp H81 (D83 + 1) r75 ∧ (Gn [] H81 (fun (b84 : Nat) (H86 : Hp) => Lp H86 (D83 + 1) r75 ∧ Up (putL H86 (D83 + 1) (bsy r75)) (fun H87 => Pv [b84] H86 H87 ∧ (Join (fun (s90 : Bool) (H91 : Hp) => if s90 = true then (st H91 (⟨b3, 0, none⟩ : Addr) (.bool false) (fun H92 => Lp H92 (D83 + 1) (bsy r75) ∧ K80 false (putL H92 (D83 + 1) (dn r75 .ret)))) else (ldI .i64 H91 (⟨b57, 0, none⟩ : Addr) (fun x93 => st H91 (⟨b57, 0, none⟩ : Addr) (.int .i64 (IntKind.wrap .i64 (x93 + 1))) (fun H95 => Lp H95 (D83 + 1) (bsy r75) ∧ K80 true (putL H95 (D83 + 1) r75))))) (fun (J89 : Bool → Hp → Prop) => ldI .i64 H87 (⟨b57, 0, none⟩ : Addr) (fun x97 => ldL H87 (⟨b16, 0, none⟩ : Addr) (fun x99 => if decide ((x99.n : Int) ≤ x97) = true then (J89 (true) H87) else (ldL H87 (⟨b16, 0, none⟩ : Addr) (fun x102 => ldI .i64 H87 (⟨b57, 0, none⟩ : Addr) (fun x104 => 0 ≤ x104 ∧ x104 < (x102.n : Int) ∧ someA x102.a (fun p108 => ∃ x110 : Int, ∃ x111 : Int, ∃ x112 : Int, ∃ x113 : Int, ∃ x114 : Bool, ldA H87 (p108.add (Int.toNat x104 * 5)) (c50 x110 x111 x112 x113 x114) ∧ (J89 ((!((x79.1 == x110) && ((x79.2.1 == x111) && ((x79.2.2.1 == x112) && ((x79.2.2.2.1 == x113) && (x79.2.2.2.2 == x114))))))) H87))))))))))))) x73.1 x73.2.1 x73.2.2.1 x73.2.2.2.1 x73.2.2.2.2 H78 (fun _ H82 => (Lp H82 (D83 + 1) r75 ∧ Up (putL H82 (D83 + 1) (exh r75)) (fun H117 => ldI .i64 H117 (⟨b57, 0, none⟩ : Addr) (fun x118 => if (x118 == x66) = true then (st H117 (⟨b3, 0, none⟩ : Addr) (.bool false) (fun H120 => tkD (D83 :: s62.2) H120 (fun H121 => ldB H121 (⟨b3, 0, none⟩ : Addr) (fun x123 => Q x123 H121)))) else (rec65 ((IntKind.wrap .i64 (s62.1 + 1)), (D83 :: s62.2)) H117)))) ∨ (Lp H82 (D83 + 1) (dn r75 .ret) ∧ Up (putL H82 (D83 + 1) (exh (dn r75 .ret))) (fun H124 => tkD (D83 :: s62.2) H124 (fun H125 => ldB H125 (⟨b3, 0, none⟩ : Addr) (fun x127 => Q x127 H125)))))))))) else (if x5 = true then (ldI .i64 H63 (⟨b57, 0, none⟩ : Addr) (fun x128 => ldL H63 (⟨b16, 0, none⟩ : Addr) (fun x130 => if (x128 == (x130.n : Int)) = true then (st H63 (⟨b3, 0, none⟩ : Addr) (.bool (decide ((1 : Int) ≤ x55))) (fun H132 => tkD s62.2 H132 (fun H133 => ldB H133 (⟨b3, 0, none⟩ : Addr) (fun x135 => Q x135 H133)))) else (st H63 (⟨b3, 0, none⟩ : Addr) (.bool false) (fun H136 => tkD s62.2 H136 (fun H137 => ldB H137 (⟨b3, 0, none⟩ : Addr) (fun x139 => Q x139 H137))))))) else (st H63 (⟨b3, 0, none⟩ : Addr) (.bool false) (fun H140 => tkD s62.2 H140 (fun H141 => ldB H141 (⟨b3, 0, none⟩ : Addr) (fun x143 => Q x143 H141)))))) k60 (0, (D29 :: [])) H59))))) (fun (J47 : Int → Hp → Prop) => Join (fun (s145 : Bool) (H146 : Hp) => if s145 = true then (J47 ((IntKind.wrap .i64 (x13.1 * x13.2))) H146) else (J47 (a2) H146)) (fun (J144 : Bool → Hp → Prop) => if (a2 == 0) = true then (J144 (true) H46) else (J144 ((decide ((IntKind.wrap .i64 (x13.1 * x13.2)) < a2))) H46)))))))))))))))) (fun (J8 : Bool → Hp → Prop) => geom_Parts.s a0_0 a0_1 a0_2 a0_3 a1 H6 (fun x147 H148 => Pv [b1, b3] H6 H148 ∧ (if (x147 != 0) = true then (J8 (true) H148) else (mosaiclaw14_many.s a0_0 a0_1 a0_2 a0_3 H148 (fun x150 H151 => Pv [b1, b3] H148 H151 ∧ (if x150 = true then (J8 (true) H151) else (J8 ((decide (a2 < 0))) H151)))))))))))
set_option maxRecDepth 20000 in
set_option maxHeartbeats 4000000 in
theorem mosaiclaw14_GeomSplits.calls (a0_0 : Int) (a0_1 : Int) (a0_2 : Int) (a0_3 : Sl) (a1 : Sl) (a2 : Int) (w0 : World) (Q : Bool → Hp → Prop) (h : mosaiclaw14_GeomSplits.s a0_0 a0_1 a0_2 a0_3 a1 a2 w0.heap Q) :
    Ca Try.prog 8 #[.agg (c26 a0_0 a0_1 a0_2 a0_3).toArray, .slice a1.a a1.n a1.c, .int .i64 a2] w0 (Rt mosaiclaw14_GeomSplits.enc Q w0) := by
  refine ca_startM (c := _) Try.func8 rfl Try.ntmps8 rfl ?_
  have so : Sm w0 w0 := Sm.refl w0
  unfold mosaiclaw14_GeomSplits.s at h
  refine wc_prune [(0, .agg (c26 a0_0 a0_1 a0_2 a0_3).toArray), (1, .slice a1.a a1.n a1.c), (2, .int .i64 a2)] ⟨rfl, rfl, rfl, trivial⟩ (fun f1 => ?_)
  refine wc_seq ?_
  refine wc_region ?_
  refine wl_newT (T := 26) (cs := (c26 a0_0 a0_1 a0_2 a0_3)) (ef_box rfl rfl) rfl so ?_; intro b1 w2 hb_b1 t_b1 k_b1 so
  have g_b1 := Nat.le_of_eq hb_b1.symm
  have hc := k_b1.ch (F := [])
  replace h := h b1 _ hc g_b1 t_b1.lt; clear hc
  refine wl_newT (T := 4) (cs := [.bool false]) (ef_alloc zero4 rfl) rfl so ?_; intro b3 w4 hb_b3 t_b3 k_b3 so
  have g_b3 := Nat.le_of_eq hb_b3.symm
  have hc := k_b3.ch (F := [])
  have n_b1_b3 : b1 ≠ b3 := fun e => by have := t_b1.lt; omega
  replace t_b1 := t_b1.keep k_b3
  refine wl_nil ?_
  refine wk_prune [(1, .slice a1.a a1.n a1.c), (2, .int .i64 a2), (3, .pointer (some (⟨b1, 0, none⟩ : Addr))), (6, .pointer (some (⟨b3, 0, none⟩ : Addr)))] ⟨rfl, rfl, rfl, rfl, trivial⟩ (fun f1 => ?_)
  refine wk_then ?_
  refine wc_seq ?_
  refine wc_region ?_
  replace h := h b3 _ hc g_b3 t_b3.lt; clear hc
  refine wl_callF (mosaiclaw14_alive.calls _ _ h) enter28 rfl trivial so ?_; intro x5 w6 h so
  obtain ⟨q7, h⟩ := h
  replace t_b1 := pv_bk q7 t_b1 (by simp)
  replace t_b3 := pv_bk q7 t_b3 (by simp)
  refine wl_val (at_assign rfl) rfl ?_
  refine wl_nil ?_
  refine wk_prune [(1, .slice a1.a a1.n a1.c), (2, .int .i64 a2), (3, .pointer (some (⟨b1, 0, none⟩ : Addr))), (6, .pointer (some (⟨b3, 0, none⟩ : Addr))), (7, .bool x5)] ⟨rfl, rfl, rfl, rfl, rfl, trivial⟩ (fun f1 => ?_)
  refine wk_then ?_
  refine wc_seq ?_
  refine wc_seq ?_
  refine wc_joinG (w0 := w0) (fun (H : Hp) => Bk H b1 26 (c26 a0_0 a0_1 a0_2 a0_3) ∧ Bk H b3 4 [.bool false] ∧ True) (fun (s9 : Bool) => [(1, .slice a1.a a1.n a1.c), (2, .int .i64 a2), (3, .pointer (some (⟨b1, 0, none⟩ : Addr))), (6, .pointer (some (⟨b3, 0, none⟩ : Addr))), (7, .bool x5), (32, .bool s9)]) (fun (s9 : Bool) => (mks [])) h ?_ ?_
  · rintro s9 w10 f1 h ⟨t_b1, t_b3, _⟩ so; refine wk_then ?_
    refine wc_cond rfl h (fun h => ?_) (fun h => ?_)
    · refine wc_seq ?_
      refine wc_region ?_
      refine wl_val (at_move rfl) rfl ?_
      refine wl_stT (v := .bool x5) (cs' := [.bool x5]) t_b3 (by first | decide | simp [ints_len, bools_len]) (by first | rfl | simp [List.set_append, ints_len, bools_len]) rfl so (fun q1 q2 => ef_store (sz := sz4) rfl rfl rfl q1 q2) ?_; intro w11 t_b3 s_w11 so
      replace t_b1 := t_b1.same s_w11 (n_b1_b3)
      have hc := s_w11.ch
      refine wl_nil ?_
      refine wk_prune [(6, .pointer (some (⟨b3, 0, none⟩ : Addr)))] ⟨rfl, trivial⟩ (fun f1 => ?_)
      refine wk_then ?_
      refine wc_ret ?_
      refine wk_thenR ?_
      replace h := h _ hc; clear hc
      refine wk_tk (K := fun H => H = w11.heap) (Ds := []) rfl so ?_; intro w12 hw so; rw [← hw] at h t_b3; clear hw
      exact wk_retR1 (x := x5) rfl ⟨by decide, _, rfl, loadVar_one Try.underlying4 rfl ((t_b3.cell 0).trans (by first | rfl | simp [List.getElem?_append, ints_len, bools_len]))⟩ rfl so h
    · refine wc_skip ?_
      refine wk_prune [(1, .slice a1.a a1.n a1.c), (2, .int .i64 a2), (3, .pointer (some (⟨b1, 0, none⟩ : Addr))), (6, .pointer (some (⟨b3, 0, none⟩ : Addr))), (7, .bool x5)] ⟨rfl, rfl, rfl, rfl, rfl, trivial⟩ (fun f1 => ?_)
      refine wk_then ?_
      refine wc_seq ?_
      refine wc_region ?_
      refine wl_val (at_loadA (cs := (c26 a0_0 a0_1 a0_2 a0_3)) Try.underlying26 rfl (by rw [len26]; exact sz26) rfl (ldA_full t_b1)) rfl ?_
      refine wl_val (at_move rfl) rfl ?_
      refine wl_callF (geom_Units.calls _ _ _ _ _ _ _ h) enter20 rfl trivial so ?_; intro x13 w14 h so
      obtain ⟨q15, h⟩ := h
      replace t_b1 := pv_bk q15 t_b1 (by simp)
      replace t_b3 := pv_bk q15 t_b3 (by simp)
      refine wl_val (at_move rfl) rfl ?_
      refine wl_val (at_extract rfl rfl) rfl ?_
      refine wl_val (at_extract rfl rfl) rfl ?_
      refine wl_val (at_assign rfl) rfl ?_
      refine wl_val (at_assign rfl) rfl ?_
      refine wl_nil ?_
      refine wk_prune [(1, .slice a1.a a1.n a1.c), (2, .int .i64 a2), (3, .pointer (some (⟨b1, 0, none⟩ : Addr))), (6, .pointer (some (⟨b3, 0, none⟩ : Addr))), (7, .bool x5), (8, .int .i64 x13.1), (9, .int .i64 x13.2)] ⟨rfl, rfl, rfl, rfl, rfl, rfl, rfl, trivial⟩ (fun f1 => ?_)
      refine wk_then ?_
      refine wc_seq ?_
      refine wc_region ?_
      refine wl_newT (T := 44) (cs := [.slice none 0 0]) (ef_alloc zero44 rfl) rfl so ?_; intro b16 w17 hb_b16 t_b16 k_b16 so
      have g_b16 := Nat.le_of_eq hb_b16.symm
      have hc := k_b16.ch (F := [])
      have n_b1_b16 : b1 ≠ b16 := fun e => by have := t_b1.lt; omega
      replace t_b1 := t_b1.keep k_b16
      have n_b3_b16 : b3 ≠ b16 := fun e => by have := t_b3.lt; omega
      replace t_b3 := t_b3.keep k_b16
      refine wl_nil ?_
      refine wk_prune [(1, .slice a1.a a1.n a1.c), (2, .int .i64 a2), (3, .pointer (some (⟨b1, 0, none⟩ : Addr))), (6, .pointer (some (⟨b3, 0, none⟩ : Addr))), (7, .bool x5), (8, .int .i64 x13.1), (9, .int .i64 x13.2), (10, .pointer (some (⟨b16, 0, none⟩ : Addr)))] ⟨rfl, rfl, rfl, rfl, rfl, rfl, rfl, rfl, trivial⟩ (fun f1 => ?_)
      refine wk_then ?_
      refine wc_seq ?_
      refine wc_region ?_
      refine wl_val (at_loadA (cs := (c26 a0_0 a0_1 a0_2 a0_3)) Try.underlying26 rfl (by rw [len26]; exact sz26) rfl (ldA_full t_b1)) rfl ?_
      refine wl_val (at_move rfl) rfl ?_
      refine wl_val (at_move rfl) rfl ?_
      refine wl_val (at_move rfl) rfl ?_
      refine wl_val (at_mul rfl rfl) rfl ?_
      replace h := h b16 _ hc g_b16 t_b16.lt; clear hc
      refine wl_callF (geom_Walk.calls _ _ _ _ _ _ _ _ _ h) enter27 rfl trivial so ?_; intro x18 w19 h so
      obtain ⟨q20, h⟩ := h
      replace t_b1 := pv_bk q20 t_b1 (by simp)
      replace t_b3 := pv_bk q20 t_b3 (by simp)
      replace t_b16 := pv_bk q20 t_b16 (by simp)
      refine wl_val (at_assign rfl) rfl ?_
      refine wl_nil ?_
      refine wk_prune [(1, .slice a1.a a1.n a1.c), (2, .int .i64 a2), (3, .pointer (some (⟨b1, 0, none⟩ : Addr))), (6, .pointer (some (⟨b3, 0, none⟩ : Addr))), (7, .bool x5), (8, .int .i64 x13.1), (9, .int .i64 x13.2), (10, .pointer (some (⟨b16, 0, none⟩ : Addr))), (11, .func (.func 36) #[] #[.pointer (some x18.1), .pointer (some x18.2.1), .pointer (some x18.2.2.1), .pointer (some x18.2.2.2.1), .pointer (some x18.2.2.2.2)])] ⟨rfl, rfl, rfl, rfl, rfl, rfl, rfl, rfl, rfl, trivial⟩ (fun f1 => ?_)
      refine wk_then ?_
      refine wc_seq ?_
      refine wc_seq ?_
      refine wc_region ?_
      refine wl_val (at_move rfl) rfl ?_
      refine wl_val (at_eqlNF (v := .func (.func 36) #[] #[.pointer (some x18.1), .pointer (some x18.2.1), .pointer (some x18.2.2.1), .pointer (some x18.2.2.2.1), .pointer (some x18.2.2.2.2)]) Try.underlying47 rfl rfl rfl) rfl ?_
      refine wl_nil ?_
      refine wk_prune [(1, .slice a1.a a1.n a1.c), (2, .int .i64 a2), (3, .pointer (some (⟨b1, 0, none⟩ : Addr))), (6, .pointer (some (⟨b3, 0, none⟩ : Addr))), (7, .bool x5), (8, .int .i64 x13.1), (9, .int .i64 x13.2), (10, .pointer (some (⟨b16, 0, none⟩ : Addr))), (11, .func (.func 36) #[] #[.pointer (some x18.1), .pointer (some x18.2.1), .pointer (some x18.2.2.1), .pointer (some x18.2.2.2.1), .pointer (some x18.2.2.2.2)]), (47, .bool false)] ⟨rfl, rfl, rfl, rfl, rfl, rfl, rfl, rfl, rfl, rfl, trivial⟩ (fun f1 => ?_)
      refine wk_then ?_
      refine wc_cond_f rfl ?_
      refine wc_skip ?_
      refine wk_prune [(1, .slice a1.a a1.n a1.c), (2, .int .i64 a2), (3, .pointer (some (⟨b1, 0, none⟩ : Addr))), (6, .pointer (some (⟨b3, 0, none⟩ : Addr))), (7, .bool x5), (8, .int .i64 x13.1), (9, .int .i64 x13.2), (10, .pointer (some (⟨b16, 0, none⟩ : Addr))), (11, .func (.func 36) #[] #[.pointer (some x18.1), .pointer (some x18.2.1), .pointer (some x18.2.2.1), .pointer (some x18.2.2.2.1), .pointer (some x18.2.2.2.2)])] ⟨rfl, rfl, rfl, rfl, rfl, rfl, rfl, rfl, rfl, trivial⟩ (fun f1 => ?_)
      refine wk_then ?_
      refine wc_seq ?_
      refine wc_seq ?_
      refine wc_region ?_
      refine wl_val (at_move rfl) rfl ?_
      refine wl_nil ?_
      refine wk_prune [(1, .slice a1.a a1.n a1.c), (2, .int .i64 a2), (3, .pointer (some (⟨b1, 0, none⟩ : Addr))), (6, .pointer (some (⟨b3, 0, none⟩ : Addr))), (7, .bool x5), (8, .int .i64 x13.1), (9, .int .i64 x13.2), (10, .pointer (some (⟨b16, 0, none⟩ : Addr))), (48, .func (.func 36) #[] #[.pointer (some x18.1), .pointer (some x18.2.1), .pointer (some x18.2.2.1), .pointer (some x18.2.2.2.1), .pointer (some x18.2.2.2.2)])] ⟨rfl, rfl, rfl, rfl, rfl, rfl, rfl, rfl, rfl, trivial⟩ (fun f1 => ?_)
      refine wk_then ?_
      refine wc_block ?_
      replace h := h t_b1
      replace h := h t_b3
      replace h := h t_b16
      refine wc_prune [(1, .slice a1.a a1.n a1.c), (2, .int .i64 a2), (3, .pointer (some (⟨b1, 0, none⟩ : Addr))), (6, .pointer (some (⟨b3, 0, none⟩ : Addr))), (7, .bool x5), (8, .int .i64 x13.1), (9, .int .i64 x13.2), (10, .pointer (some (⟨b16, 0, none⟩ : Addr))), (48, .func (.func 36) #[] #[.pointer (some x18.1), .pointer (some x18.2.1), .pointer (some x18.2.2.1), .pointer (some x18.2.2.2.1), .pointer (some x18.2.2.2.2)])] ⟨rfl, rfl, rfl, rfl, rfl, rfl, rfl, rfl, rfl, trivial⟩ (fun f1 => ?_)
      refine wc_rng (caps := [.pointer (some x18.1), .pointer (some x18.2.1), .pointer (some x18.2.2.1), .pointer (some x18.2.2.2.1), .pointer (some x18.2.2.2.2)]) rfl enter36 so h ?_; intro r21 D29 w24 q22 q23 h so
      refine Ca.mono (geom_Walk_1.calls _ _ (yok (ps := [49]) q23 (fun _ => rfl) fun x25 w27 K26 h => ?_) _ _ _ _ _ w24 _ h) ?_
      · refine ⟨h.1, ?_⟩; replace h := h.2; have so := Sm.refl w27; refine wc_prune [(10, .pointer (some (⟨b16, 0, none⟩ : Addr))), (49, .agg (c50 x25.1 x25.2.1 x25.2.2.1 x25.2.2.2.1 x25.2.2.2.2).toArray)] ⟨rfl, rfl, trivial⟩ (fun f1 => ?_)
        refine wc_region ?_
        refine wl_newT (T := 50) (cs := (c50 0 0 0 0 false)) (ef_alloc zero50 rfl) rfl so ?_; intro b30 w31 hb_b30 t_b30 k_b30 so
        have g_b30 := Nat.le_of_eq hb_b30.symm
        have hc := k_b30.ch (F := [])
        refine wl_stWT (vs := (c50 x25.1 x25.2.1 x25.2.2.1 x25.2.2.2.1 x25.2.2.2.2)) t_b30 (by first | (rw [len50, len50]) | (rw [len50]) | rfl) rfl so (fun q => ef_storeA (p := (⟨b30, 0, none⟩ : Addr)) (cs := (c50 x25.1 x25.2.1 x25.2.2.1 x25.2.2.2.1 x25.2.2.2.2)) (by rw [len50]; exact sz50) rfl rfl (one50 _ _ _ _ _) q) ?_; intro w32 t_b30 s_w32 so
        replace hc := ch_same hc s_w32 (.inr g_b30)
        refine wl_nil ?_
        replace h := h b30 _ hc g_b30 t_b30.lt; clear hc
        refine wk_prune [(10, .pointer (some (⟨b16, 0, none⟩ : Addr))), (12, .pointer (some (⟨b30, 0, none⟩ : Addr)))] ⟨rfl, rfl, trivial⟩ (fun f1 => ?_)
        refine wk_asg q22 h so ?_; intro w33 h so
        obtain ⟨q34, h⟩ := h
        replace t_b30 := pv_bk q34 t_b30 (by simp)
        refine wc_block ?_
        refine wc_region ?_
        obtain ⟨x35, q36, h⟩ := h
        refine wl_val (at_load Try.underlying44 rfl rfl q36) rfl ?_
        refine wl_val (at_loadA (cs := (c50 x25.1 x25.2.1 x25.2.2.1 x25.2.2.2.1 x25.2.2.2.2)) Try.underlying50 rfl (by rw [len50]; exact sz50) rfl (ldA_full t_b30)) rfl ?_
        obtain ⟨i40, i40a, i40b, i40c, i40d⟩ := info50
        refine wl_newS (ef_buildSlice (cs := (c50 x25.1 x25.2.1 x25.2.2.1 x25.2.2.2.1 x25.2.2.2.2)) (ps := [(0, .agg (c50 x25.1 x25.2.1 x25.2.2.1 x25.2.2.2.1 x25.2.2.2.2).toArray)]) Try.underlying44 i40a i40b rfl (by rw [i40c]; decide) (by rw [i40c]; exact fill_full (vs := [.agg (c50 x25.1 x25.2.1 x25.2.2.1 x25.2.2.2.1 x25.2.2.2.2).toArray]) rfl (by simp [Value.cells]) (by simp [Value.cells, len50]) rfl (by simp))) rfl so (one50 _ _ _ _ _) h ?_; intro p37 w38 h r39 so
        obtain ⟨i41, i41a, i41b, i41c, i41d⟩ := info50
        refine wl_ap (fx_append (s := x35) (t := ⟨(some p37), 1, 1⟩) (m := 1) (xs := (c50 x25.1 x25.2.1 x25.2.2.1 x25.2.2.2.1 x25.2.2.2.2)) Try.underlying44 Try.underlying44 i41a i41b i41c i41d rfl rfl rfl (by first | rfl | simp [len50]) r39 h) rfl so ?_; intro l42 w43 h so
        refine wl_st (v := .slice l42.a l42.n l42.c) h rfl so (fun q1 q2 => ef_store (sz := sz44) rfl rfl rfl q1 q2) ?_; intro w44 h so
        refine wl_nil ?_
        refine wk_blkN ?_
        exact wk_rdN q22 h so
      · rintro _ w28 ⟨_, rfl, h, q45⟩; replace so := so.trans q45
        skip
        · refine rp_none q22 h so ?_; intro w46 h so
          refine wk_blkN ?_
          refine wk_prune [(1, .slice a1.a a1.n a1.c), (2, .int .i64 a2), (3, .pointer (some (⟨b1, 0, none⟩ : Addr))), (6, .pointer (some (⟨b3, 0, none⟩ : Addr))), (7, .bool x5), (8, .int .i64 x13.1), (9, .int .i64 x13.2), (10, .pointer (some (⟨b16, 0, none⟩ : Addr)))] ⟨rfl, rfl, rfl, rfl, rfl, rfl, rfl, rfl, trivial⟩ (fun f1 => ?_)
          refine wk_then ?_
          refine wc_seq ?_
          refine wc_region ?_
          refine wl_val (at_move rfl) rfl ?_
          refine wl_val (at_assign rfl) rfl ?_
          refine wl_nil ?_
          refine wk_prune [(1, .slice a1.a a1.n a1.c), (2, .int .i64 a2), (3, .pointer (some (⟨b1, 0, none⟩ : Addr))), (6, .pointer (some (⟨b3, 0, none⟩ : Addr))), (7, .bool x5), (8, .int .i64 x13.1), (9, .int .i64 x13.2), (10, .pointer (some (⟨b16, 0, none⟩ : Addr))), (13, .int .i64 a2)] ⟨rfl, rfl, rfl, rfl, rfl, rfl, rfl, rfl, rfl, trivial⟩ (fun f1 => ?_)
          refine wk_then ?_
          refine wc_seq ?_
          refine wc_join (w0 := w0) (fun (s48 : Int) => [(1, .slice a1.a a1.n a1.c), (2, .int .i64 a2), (3, .pointer (some (⟨b1, 0, none⟩ : Addr))), (6, .pointer (some (⟨b3, 0, none⟩ : Addr))), (7, .bool x5), (10, .pointer (some (⟨b16, 0, none⟩ : Addr))), (13, .int .i64 s48)]) h ?_ ?_
          · rintro s48 w49 f1 h so; refine wk_then ?_
            refine wc_seq ?_
            refine wc_region ?_
            obtain ⟨x50, x51, x52, x53, q54, h⟩ := h
            refine wl_val (at_loadA (cs := (c26 x50 x51 x52 x53)) Try.underlying26 rfl (by rw [len26]; exact sz26) rfl q54) rfl ?_
            refine wl_val (at_move rfl) rfl ?_
            refine wl_val (at_move rfl) rfl ?_
            refine wl_callF (geom_Intervals.calls _ _ _ _ _ _ _ _ h) enter22 rfl trivial so ?_; intro x55 w56 h so
            refine wl_val (at_assign rfl) rfl ?_
            refine wl_nil ?_
            refine wk_prune [(1, .slice a1.a a1.n a1.c), (3, .pointer (some (⟨b1, 0, none⟩ : Addr))), (6, .pointer (some (⟨b3, 0, none⟩ : Addr))), (7, .bool x5), (10, .pointer (some (⟨b16, 0, none⟩ : Addr))), (13, .int .i64 s48), (14, .int .i64 x55)] ⟨rfl, rfl, rfl, rfl, rfl, rfl, rfl, trivial⟩ (fun f1 => ?_)
            refine wk_then ?_
            refine wc_seq ?_
            refine wc_region ?_
            refine wl_newT (T := 3) (cs := [.int .i64 0]) (ef_alloc zero3 rfl) rfl so ?_; intro b57 w58 hb_b57 t_b57 k_b57 so
            have g_b57 := Nat.le_of_eq hb_b57.symm
            have hc := k_b57.ch (F := [])
            refine wl_stT (v := .int .i64 0) (cs' := [.int .i64 0]) t_b57 (by first | decide | simp [ints_len, bools_len]) (by first | rfl | simp [List.set_append, ints_len, bools_len]) rfl so (fun q1 q2 => ef_store (sz := sz3) rfl rfl rfl q1 q2) ?_; intro w59 t_b57 s_w59 so
            replace hc := ch_same hc s_w59 (.inr g_b57)
            refine wl_nil ?_
            refine wk_prune [(1, .slice a1.a a1.n a1.c), (3, .pointer (some (⟨b1, 0, none⟩ : Addr))), (6, .pointer (some (⟨b3, 0, none⟩ : Addr))), (7, .bool x5), (10, .pointer (some (⟨b16, 0, none⟩ : Addr))), (13, .int .i64 s48), (14, .int .i64 x55), (15, .pointer (some (⟨b57, 0, none⟩ : Addr)))] ⟨rfl, rfl, rfl, rfl, rfl, rfl, rfl, rfl, trivial⟩ (fun f1 => ?_)
            refine wk_then ?_
            refine wc_seq ?_
            refine wc_seq ?_
            refine wc_region ?_
            refine wl_val (at_assign rfl) rfl ?_
            refine wl_nil ?_
            refine wk_prune [(1, .slice a1.a a1.n a1.c), (3, .pointer (some (⟨b1, 0, none⟩ : Addr))), (6, .pointer (some (⟨b3, 0, none⟩ : Addr))), (7, .bool x5), (10, .pointer (some (⟨b16, 0, none⟩ : Addr))), (13, .int .i64 s48), (14, .int .i64 x55), (15, .pointer (some (⟨b57, 0, none⟩ : Addr))), (16, .int .i64 0)] ⟨rfl, rfl, rfl, rfl, rfl, rfl, rfl, rfl, rfl, trivial⟩ (fun f1 => ?_)
            refine wk_then ?_
            refine wc_block ?_
            replace h := h b57 _ hc g_b57 t_b57.lt; clear hc
            replace h := h t_b57
            obtain ⟨k60, h⟩ := h
            refine wc_loop (fun k a w => ∃ (s62 : Int × (List Nat)) (f1 : Nat → Value), a = ac 116 (en f1 [(1, .slice a1.a a1.n a1.c), (3, .pointer (some (⟨b1, 0, none⟩ : Addr))), (6, .pointer (some (⟨b3, 0, none⟩ : Addr))), (7, .bool x5), (10, .pointer (some (⟨b16, 0, none⟩ : Addr))), (13, .int .i64 s48), (14, .int .i64 x55), (15, .pointer (some (⟨b57, 0, none⟩ : Addr))), (16, .int .i64 s62.1)]) (mks s62.2) ∧ Sm w0 w ∧ Fix _ k s62 w.heap) k60 ⟨(0, (D29 :: [])), _, ac_again ⟨rfl, rfl, rfl, rfl, rfl, rfl, rfl, rfl, rfl, trivial⟩, so, h⟩ ?_
            rintro k61 a64 w63 ⟨s62, f1, rfl, so, h⟩
            rcases k61 with _ | k61
            · exact h.elim
            replace h := Fix.un h; refine wc_in ?_
            refine wc_seq ?_
            refine wc_seq ?_
            refine wc_region ?_
            refine wl_val (at_move rfl) rfl ?_
            refine wl_val (at_move rfl) rfl ?_
            refine wl_val (at_lss rfl rfl) rfl ?_
            refine wl_nil ?_
            refine wk_prune [(1, .slice a1.a a1.n a1.c), (3, .pointer (some (⟨b1, 0, none⟩ : Addr))), (6, .pointer (some (⟨b3, 0, none⟩ : Addr))), (7, .bool x5), (10, .pointer (some (⟨b16, 0, none⟩ : Addr))), (13, .int .i64 s48), (14, .int .i64 x55), (15, .pointer (some (⟨b57, 0, none⟩ : Addr))), (16, .int .i64 s62.1), (73, .bool (decide (s62.1 < x55)))] ⟨rfl, rfl, rfl, rfl, rfl, rfl, rfl, rfl, rfl, rfl, trivial⟩ (fun f1 => ?_)
            refine wk_then ?_
            refine wc_cond rfl h (fun h => ?_) (fun h => ?_)
            · refine wc_skip ?_
              refine wk_prune [(1, .slice a1.a a1.n a1.c), (3, .pointer (some (⟨b1, 0, none⟩ : Addr))), (6, .pointer (some (⟨b3, 0, none⟩ : Addr))), (7, .bool x5), (10, .pointer (some (⟨b16, 0, none⟩ : Addr))), (13, .int .i64 s48), (14, .int .i64 x55), (15, .pointer (some (⟨b57, 0, none⟩ : Addr))), (16, .int .i64 s62.1)] ⟨rfl, rfl, rfl, rfl, rfl, rfl, rfl, rfl, rfl, trivial⟩ (fun f1 => ?_)
              refine wk_then ?_
              refine wc_seq ?_
              refine wc_block ?_
              refine wc_seq ?_
              refine wc_region ?_
              obtain ⟨x66, q67, h⟩ := h
              refine wl_val (at_load Try.underlying3 rfl rfl q67) rfl ?_
              refine wl_val (at_assign rfl) rfl ?_
              refine wl_nil ?_
              refine wk_prune [(1, .slice a1.a a1.n a1.c), (3, .pointer (some (⟨b1, 0, none⟩ : Addr))), (6, .pointer (some (⟨b3, 0, none⟩ : Addr))), (7, .bool x5), (10, .pointer (some (⟨b16, 0, none⟩ : Addr))), (13, .int .i64 s48), (14, .int .i64 x55), (15, .pointer (some (⟨b57, 0, none⟩ : Addr))), (16, .int .i64 s62.1), (17, .int .i64 x66)] ⟨rfl, rfl, rfl, rfl, rfl, rfl, rfl, rfl, rfl, rfl, trivial⟩ (fun f1 => ?_)
              refine wk_then ?_
              refine wc_seq ?_
              refine wc_region ?_
              obtain ⟨x68, x69, x70, x71, q72, h⟩ := h
              refine wl_val (at_loadA (cs := (c26 x68 x69 x70 x71)) Try.underlying26 rfl (by rw [len26]; exact sz26) rfl q72) rfl ?_
              refine wl_val (at_move rfl) rfl ?_
              refine wl_val (at_move rfl) rfl ?_
              refine wl_val (at_move rfl) rfl ?_
              refine wl_val (at_mul rfl rfl) rfl ?_
              refine wl_val (at_move rfl) rfl ?_
              refine wl_callF (geom_Walk.calls _ _ _ _ _ _ _ _ _ h) enter27 rfl trivial so ?_; intro x73 w74 h so
              refine wl_val (at_assign rfl) rfl ?_
              refine wl_nil ?_
              refine wk_prune [(1, .slice a1.a a1.n a1.c), (3, .pointer (some (⟨b1, 0, none⟩ : Addr))), (6, .pointer (some (⟨b3, 0, none⟩ : Addr))), (7, .bool x5), (10, .pointer (some (⟨b16, 0, none⟩ : Addr))), (13, .int .i64 s48), (14, .int .i64 x55), (15, .pointer (some (⟨b57, 0, none⟩ : Addr))), (16, .int .i64 s62.1), (17, .int .i64 x66), (18, .func (.func 36) #[] #[.pointer (some x73.1), .pointer (some x73.2.1), .pointer (some x73.2.2.1), .pointer (some x73.2.2.2.1), .pointer (some x73.2.2.2.2)])] ⟨rfl, rfl, rfl, rfl, rfl, rfl, rfl, rfl, rfl, rfl, rfl, trivial⟩ (fun f1 => ?_)
              refine wk_then ?_
              refine wc_seq ?_
              refine wc_seq ?_
              refine wc_region ?_
              refine wl_val (at_move rfl) rfl ?_
              refine wl_val (at_eqlNF (v := .func (.func 36) #[] #[.pointer (some x73.1), .pointer (some x73.2.1), .pointer (some x73.2.2.1), .pointer (some x73.2.2.2.1), .pointer (some x73.2.2.2.2)]) Try.underlying47 rfl rfl rfl) rfl ?_
              refine wl_nil ?_
              refine wk_prune [(1, .slice a1.a a1.n a1.c), (3, .pointer (some (⟨b1, 0, none⟩ : Addr))), (6, .pointer (some (⟨b3, 0, none⟩ : Addr))), (7, .bool x5), (10, .pointer (some (⟨b16, 0, none⟩ : Addr))), (13, .int .i64 s48), (14, .int .i64 x55), (15, .pointer (some (⟨b57, 0, none⟩ : Addr))), (16, .int .i64 s62.1), (17, .int .i64 x66), (18, .func (.func 36) #[] #[.pointer (some x73.1), .pointer (some x73.2.1), .pointer (some x73.2.2.1), .pointer (some x73.2.2.2.1), .pointer (some x73.2.2.2.2)]), (85, .bool false)] ⟨rfl, rfl, rfl, rfl, rfl, rfl, rfl, rfl, rfl, rfl, rfl, rfl, trivial⟩ (fun f1 => ?_)
              refine wk_then ?_
              refine wc_cond_f rfl ?_
              refine wc_skip ?_
              refine wk_prune [(1, .slice a1.a a1.n a1.c), (3, .pointer (some (⟨b1, 0, none⟩ : Addr))), (6, .pointer (some (⟨b3, 0, none⟩ : Addr))), (7, .bool x5), (10, .pointer (some (⟨b16, 0, none⟩ : Addr))), (13, .int .i64 s48), (14, .int .i64 x55), (15, .pointer (some (⟨b57, 0, none⟩ : Addr))), (16, .int .i64 s62.1), (17, .int .i64 x66), (18, .func (.func 36) #[] #[.pointer (some x73.1), .pointer (some x73.2.1), .pointer (some x73.2.2.1), .pointer (some x73.2.2.2.1), .pointer (some x73.2.2.2.2)])] ⟨rfl, rfl, rfl, rfl, rfl, rfl, rfl, rfl, rfl, rfl, rfl, trivial⟩ (fun f1 => ?_)
              refine wk_then ?_
              refine wc_seq ?_
              refine wc_seq ?_
              refine wc_region ?_
              refine wl_val (at_move rfl) rfl ?_
              refine wl_nil ?_
              refine wk_prune [(1, .slice a1.a a1.n a1.c), (3, .pointer (some (⟨b1, 0, none⟩ : Addr))), (6, .pointer (some (⟨b3, 0, none⟩ : Addr))), (7, .bool x5), (10, .pointer (some (⟨b16, 0, none⟩ : Addr))), (13, .int .i64 s48), (14, .int .i64 x55), (15, .pointer (some (⟨b57, 0, none⟩ : Addr))), (16, .int .i64 s62.1), (17, .int .i64 x66), (86, .func (.func 36) #[] #[.pointer (some x73.1), .pointer (some x73.2.1), .pointer (some x73.2.2.1), .pointer (some x73.2.2.2.1), .pointer (some x73.2.2.2.2)])] ⟨rfl, rfl, rfl, rfl, rfl, rfl, rfl, rfl, rfl, rfl, rfl, trivial⟩ (fun f1 => ?_)
              refine wk_then ?_
              refine wc_block ?_
              refine wc_prune [(1, .slice a1.a a1.n a1.c), (3, .pointer (some (⟨b1, 0, none⟩ : Addr))), (6, .pointer (some (⟨b3, 0, none⟩ : Addr))), (7, .bool x5), (10, .pointer (some (⟨b16, 0, none⟩ : Addr))), (13, .int .i64 s48), (14, .int .i64 x55), (15, .pointer (some (⟨b57, 0, none⟩ : Addr))), (16, .int .i64 s62.1), (17, .int .i64 x66), (86, .func (.func 36) #[] #[.pointer (some x73.1), .pointer (some x73.2.1), .pointer (some x73.2.2.1), .pointer (some x73.2.2.2.1), .pointer (some x73.2.2.2.2)])] ⟨rfl, rfl, rfl, rfl, rfl, rfl, rfl, rfl, rfl, rfl, rfl, trivial⟩ (fun f1 => ?_)
              refine wc_rng (caps := [.pointer (some x73.1), .pointer (some x73.2.1), .pointer (some x73.2.2.1), .pointer (some x73.2.2.2.1), .pointer (some x73.2.2.2.2)]) rfl enter36 so h ?_; intro r75 D83 w78 q76 q77 h so
              refine Ca.mono (geom_Walk_1.calls _ _ (yok (ps := [87]) q77 (fun _ => rfl) fun x79 w81 K80 h => ?_) _ _ _ _ _ w78 _ h) ?_
              · refine ⟨h.1, ?_⟩; replace h := h.2; have so := Sm.refl w81; refine wc_prune [(6, .pointer (some (⟨b3, 0, none⟩ : Addr))), (10, .pointer (some (⟨b16, 0, none⟩ : Addr))), (15, .pointer (some (⟨b57, 0, none⟩ : Addr))), (87, .agg (c50 x79.1 x79.2.1 x79.2.2.1 x79.2.2.2.1 x79.2.2.2.2).toArray)] ⟨rfl, rfl, rfl, rfl, trivial⟩ (fun f1 => ?_)
                refine wc_region ?_
                refine wl_newT (T := 50) (cs := (c50 0 0 0 0 false)) (ef_alloc zero50 rfl) rfl so ?_; intro b84 w85 hb_b84 t_b84 k_b84 so
                have g_b84 := Nat.le_of_eq hb_b84.symm
                have hc := k_b84.ch (F := [])
                refine wl_stWT (vs := (c50 x79.1 x79.2.1 x79.2.2.1 x79.2.2.2.1 x79.2.2.2.2)) t_b84 (by first | (rw [len50, len50]) | (rw [len50]) | rfl) rfl so (fun q => ef_storeA (p := (⟨b84, 0, none⟩ : Addr)) (cs := (c50 x79.1 x79.2.1 x79.2.2.1 x79.2.2.2.1 x79.2.2.2.2)) (by rw [len50]; exact sz50) rfl rfl (one50 _ _ _ _ _) q) ?_; intro w86 t_b84 s_w86 so
                replace hc := ch_same hc s_w86 (.inr g_b84)
                refine wl_nil ?_
                replace h := h b84 _ hc g_b84 t_b84.lt; clear hc
                refine wk_prune [(6, .pointer (some (⟨b3, 0, none⟩ : Addr))), (10, .pointer (some (⟨b16, 0, none⟩ : Addr))), (15, .pointer (some (⟨b57, 0, none⟩ : Addr))), (19, .pointer (some (⟨b84, 0, none⟩ : Addr)))] ⟨rfl, rfl, rfl, rfl, trivial⟩ (fun f1 => ?_)
                refine wk_asg q76 h so ?_; intro w87 h so
                obtain ⟨q88, h⟩ := h
                replace t_b84 := pv_bk q88 t_b84 (by simp)
                refine wc_block ?_
                refine wc_seq ?_
                refine wc_seq ?_
                refine wc_join (w0 := w81) (fun (s90 : Bool) => [(6, .pointer (some (⟨b3, 0, none⟩ : Addr))), (15, .pointer (some (⟨b57, 0, none⟩ : Addr))), (99, .bool s90)]) h ?_ ?_
                · rintro s90 w91 f1 h so; refine wk_then ?_
                  refine wc_cond rfl h (fun h => ?_) (fun h => ?_)
                  · refine wc_seq ?_
                    refine wc_region ?_
                    refine wl_st (v := .bool false) h rfl so (fun q1 q2 => ef_store (sz := sz4) rfl rfl rfl q1 q2) ?_; intro w92 h so
                    refine wl_nil ?_
                    refine wk_prune [(6, .pointer (some (⟨b3, 0, none⟩ : Addr)))] ⟨rfl, trivial⟩ (fun f1 => ?_)
                    refine wk_then ?_
                    refine wc_ret ?_
                    refine wk_thenR ?_
                    refine wk_blkR ?_
                    exact wk_rdR h so
                  · refine wc_skip ?_
                    refine wk_prune [(15, .pointer (some (⟨b57, 0, none⟩ : Addr)))] ⟨rfl, trivial⟩ (fun f1 => ?_)
                    refine wk_then ?_
                    refine wc_region ?_
                    obtain ⟨x93, q94, h⟩ := h
                    refine wl_val (at_load Try.underlying3 rfl rfl q94) rfl ?_
                    refine wl_val (at_add rfl rfl) rfl ?_
                    refine wl_st (v := .int .i64 (IntKind.wrap .i64 (x93 + 1))) h rfl so (fun q1 q2 => ef_store (sz := sz3) rfl rfl rfl q1 q2) ?_; intro w95 h so
                    refine wl_nil ?_
                    refine wk_blkN ?_
                    exact wk_rdN q76 h so
                · intro J89 h hJ89
                  refine wc_wo [0, 0, 2, 7, 15, 31, 31, 31, 223, 479, 1023, 2047] mixed (by kernel_rfl) so ?_; intro w96 hw so; rw [← hw] at h t_b84; clear hw
                  obtain ⟨x97, q98, h⟩ := h
                  refine wo_load (m' := 1) 0 (fun H => cellAt H (⟨b57, 0, none⟩ : Addr) = some (.int .i64 x97)) rfl (by kernel_rfl) rfl rfl (fun H q98 => at_load Try.underlying3 rfl rfl q98) q98 ?_
                  obtain ⟨x99, q100, h⟩ := h
                  refine wo_load (m' := 3) 1 (fun H => cellAt H (⟨b16, 0, none⟩ : Addr) = some (.slice x99.a x99.n x99.c)) rfl (by kernel_rfl) rfl rfl (fun H q100 => at_load Try.underlying44 rfl rfl q100) q100 ?_
                  refine wo_pure (m' := 7) 2 rfl (by kernel_rfl) rfl rfl (fun H => at_lenL Try.underlying44 rfl) ?_
                  refine wo_pure (m' := 15) 3 rfl (by kernel_rfl) rfl rfl (fun H => at_geq rfl rfl) ?_
                  refine wo_pure (m' := 31) 4 rfl (by kernel_rfl) rfl rfl (fun H => at_move rfl) ?_
                  refine bif_ h (fun hb h => ?_) (fun hb h => ?_)
                  · refine wo_set (t := 92) (v := .bool true) (congrArg Value.bool hb) ?_; clear hb
                    refine wo_off (m' := 63) 5 rfl (by kernel_rfl) rfl (t := 92) rfl (by decide) rfl ?_
                    refine wo_off (m' := 127) 6 rfl (by kernel_rfl) rfl (t := 92) rfl (by decide) rfl ?_
                    refine wo_off (m' := 255) 7 rfl (by kernel_rfl) rfl (t := 92) rfl (by decide) rfl ?_
                    refine wo_off (m' := 511) 8 rfl (by kernel_rfl) rfl (t := 92) rfl (by decide) rfl ?_
                    refine wo_off (m' := 1023) 9 rfl (by kernel_rfl) rfl (t := 92) rfl (by decide) rfl ?_
                    refine wo_off (m' := 2047) 10 rfl (by kernel_rfl) rfl (t := 92) rfl (by decide) rfl ?_
                    refine wo_pure (m' := 4095) 11 rfl (by kernel_rfl) rfl rfl (fun H => at_pick_t rfl rfl) ?_
                    refine wo_done (by kernel_rfl) ?_
                    exact wk_prune [(6, .pointer (some (⟨b3, 0, none⟩ : Addr))), (15, .pointer (some (⟨b57, 0, none⟩ : Addr))), (99, .bool true)] ⟨rfl, rfl, rfl, trivial⟩ (fun f1 => hJ89 (true) _ f1 h so)
                  · refine wo_set (t := 92) (v := .bool false) (congrArg Value.bool hb) ?_; clear hb
                    have q101 : ldA w96.heap (⟨b84, 0, none⟩ : Addr) (c50 x79.1 x79.2.1 x79.2.2.1 x79.2.2.2.1 x79.2.2.2.2) := ldA_full t_b84
                    refine wo_loadG (m' := 63) 5 (fun H => ldA H (⟨b84, 0, none⟩ : Addr) (c50 x79.1 x79.2.1 x79.2.2.1 x79.2.2.2.1 x79.2.2.2.2)) rfl (by kernel_rfl) rfl (t := 92) rfl (by decide) rfl (fun H q101 => at_loadA (cs := (c50 x79.1 x79.2.1 x79.2.2.1 x79.2.2.2.1 x79.2.2.2.2)) Try.underlying50 rfl (by rw [len50]; exact sz50) rfl (q101)) q101 ?_
                    obtain ⟨x102, q103, h⟩ := h
                    refine wo_loadG (m' := 127) 6 (fun H => cellAt H (⟨b16, 0, none⟩ : Addr) = some (.slice x102.a x102.n x102.c)) rfl (by kernel_rfl) rfl (t := 92) rfl (by decide) rfl (fun H q103 => at_load Try.underlying44 rfl rfl q103) q103 ?_
                    obtain ⟨x104, q105, h⟩ := h
                    refine wo_loadG (m' := 255) 7 (fun H => cellAt H (⟨b57, 0, none⟩ : Addr) = some (.int .i64 x104)) rfl (by kernel_rfl) rfl (t := 92) rfl (by decide) rfl (fun H q105 => at_load Try.underlying3 rfl rfl q105) q105 ?_
                    obtain ⟨q106, q107, p108, q109, h⟩ := h
                    refine wo_pureG (m' := 511) 8 rfl (by kernel_rfl) rfl (t := 92) rfl (by decide) rfl (fun H => at_ixAddrL Try.underlying44 sz50 (sl_some q109) rfl q106 q107) ?_
                    obtain ⟨x110, x111, x112, x113, x114, q115, h⟩ := h
                    refine wo_loadG (m' := 1023) 9 (fun H => ldA H (p108.add (Int.toNat x104 * 5)) (c50 x110 x111 x112 x113 x114)) rfl (by kernel_rfl) rfl (t := 92) rfl (by decide) rfl (fun H q115 => at_loadA (cs := (c50 x110 x111 x112 x113 x114)) Try.underlying50 rfl (by rw [len50]; exact sz50) rfl q115) q115 ?_
                    refine wo_pureG (m' := 2047) 10 rfl (by kernel_rfl) rfl (t := 92) rfl (by decide) rfl (fun H => at_neqA (xs := (c50 x79.1 x79.2.1 x79.2.2.1 x79.2.2.2.1 x79.2.2.2.2)) (ys := (c50 x110 x111 x112 x113 x114)) rfl rfl (by kernel_rfl) (eqv_struct Try.underlying50 (by kernel_rfl) (eqf_cons rfl (pt_one (v := .int .i64 x79.1) Try.underlying3 rfl rfl) (pt_one (v := .int .i64 x110) Try.underlying3 rfl rfl) (eqv_int Try.underlying3) (eqf_cons rfl (pt_one (v := .int .i64 x79.2.1) Try.underlying3 rfl rfl) (pt_one (v := .int .i64 x111) Try.underlying3 rfl rfl) (eqv_int Try.underlying3) (eqf_cons rfl (pt_one (v := .int .i64 x79.2.2.1) Try.underlying3 rfl rfl) (pt_one (v := .int .i64 x112) Try.underlying3 rfl rfl) (eqv_int Try.underlying3) (eqf_cons rfl (pt_one (v := .int .i64 x79.2.2.2.1) Try.underlying3 rfl rfl) (pt_one (v := .int .i64 x113) Try.underlying3 rfl rfl) (eqv_int Try.underlying3) (eqf_last rfl (pt_one (v := .bool x79.2.2.2.2) Try.underlying4 rfl rfl) (pt_one (v := .bool x114) Try.underlying4 rfl rfl) (eqv_bool Try.underlying4)))))))) ?_
                    refine wo_pure (m' := 4095) 11 rfl (by kernel_rfl) rfl rfl (fun H => at_pick_f rfl rfl) ?_
                    refine wo_done (by kernel_rfl) ?_
                    exact wk_prune [(6, .pointer (some (⟨b3, 0, none⟩ : Addr))), (15, .pointer (some (⟨b57, 0, none⟩ : Addr))), (99, .bool (!((x79.1 == x110) && ((x79.2.1 == x111) && ((x79.2.2.1 == x112) && ((x79.2.2.2.1 == x113) && (x79.2.2.2.2 == x114)))))))] ⟨rfl, rfl, rfl, trivial⟩ (fun f1 => hJ89 ((!((x79.1 == x110) && ((x79.2.1 == x111) && ((x79.2.2.1 == x112) && ((x79.2.2.2.1 == x113) && (x79.2.2.2.2 == x114))))))) _ f1 h so)
              · rintro _ w82 ⟨_, rfl, h, q116⟩; replace so := so.trans q116
                rcases h with h | h
                · refine rp_none q76 h so ?_; intro w117 h so
                  refine wk_blkN ?_
                  refine wk_prune [(1, .slice a1.a a1.n a1.c), (3, .pointer (some (⟨b1, 0, none⟩ : Addr))), (6, .pointer (some (⟨b3, 0, none⟩ : Addr))), (7, .bool x5), (10, .pointer (some (⟨b16, 0, none⟩ : Addr))), (13, .int .i64 s48), (14, .int .i64 x55), (15, .pointer (some (⟨b57, 0, none⟩ : Addr))), (16, .int .i64 s62.1), (17, .int .i64 x66)] ⟨rfl, rfl, rfl, rfl, rfl, rfl, rfl, rfl, rfl, rfl, trivial⟩ (fun f1 => ?_)
                  refine wk_then ?_
                  refine wc_seq ?_
                  refine wc_region ?_
                  obtain ⟨x118, q119, h⟩ := h
                  refine wl_val (at_load Try.underlying3 rfl rfl q119) rfl ?_
                  refine wl_val (at_move rfl) rfl ?_
                  refine wl_val (at_eql rfl rfl) rfl ?_
                  refine wl_nil ?_
                  refine wk_prune [(1, .slice a1.a a1.n a1.c), (3, .pointer (some (⟨b1, 0, none⟩ : Addr))), (6, .pointer (some (⟨b3, 0, none⟩ : Addr))), (7, .bool x5), (10, .pointer (some (⟨b16, 0, none⟩ : Addr))), (13, .int .i64 s48), (14, .int .i64 x55), (15, .pointer (some (⟨b57, 0, none⟩ : Addr))), (16, .int .i64 s62.1), (104, .bool (x118 == x66))] ⟨rfl, rfl, rfl, rfl, rfl, rfl, rfl, rfl, rfl, rfl, trivial⟩ (fun f1 => ?_)
                  refine wk_then ?_
                  refine wc_cond rfl h (fun h => ?_) (fun h => ?_)
                  · refine wc_seq ?_
                    refine wc_region ?_
                    refine wl_st (v := .bool false) h rfl so (fun q1 q2 => ef_store (sz := sz4) rfl rfl rfl q1 q2) ?_; intro w120 h so
                    refine wl_nil ?_
                    refine wk_prune [(6, .pointer (some (⟨b3, 0, none⟩ : Addr)))] ⟨rfl, trivial⟩ (fun f1 => ?_)
                    refine wk_then ?_
                    refine wc_ret ?_
                    refine wk_blkR ?_
                    refine wk_thenR ?_
                    refine wk_thenR ?_
                    refine wk_blkR ?_
                    refine wk_thenR ?_
                    refine wk_tk h so ?_; intro w121 h so
                    obtain ⟨x123, q122, h⟩ := h
                    exact wk_retR1 (x := x123) rfl ⟨by decide, _, rfl, loadVar_one Try.underlying4 rfl q122⟩ rfl so h
                  · refine wc_skip ?_
                    refine wk_blkN ?_
                    refine wk_prune [(1, .slice a1.a a1.n a1.c), (3, .pointer (some (⟨b1, 0, none⟩ : Addr))), (6, .pointer (some (⟨b3, 0, none⟩ : Addr))), (7, .bool x5), (10, .pointer (some (⟨b16, 0, none⟩ : Addr))), (13, .int .i64 s48), (14, .int .i64 x55), (15, .pointer (some (⟨b57, 0, none⟩ : Addr))), (16, .int .i64 s62.1)] ⟨rfl, rfl, rfl, rfl, rfl, rfl, rfl, rfl, rfl, trivial⟩ (fun f1 => ?_)
                    refine wk_then ?_
                    refine wc_region ?_
                    refine wl_val (at_move rfl) rfl ?_
                    refine wl_val (at_add rfl rfl) rfl ?_
                    refine wl_val (at_assign rfl) rfl ?_
                    refine wl_nil ?_
                    exact wk_again ⟨((IntKind.wrap .i64 (s62.1 + 1)), (D83 :: s62.2)), _, ac_again ⟨rfl, rfl, rfl, rfl, rfl, rfl, rfl, rfl, rfl, trivial⟩, so, h⟩
                · refine rp_jump h so ?_; intro w124 h so; refine wc_ret ?_
                  refine wk_blkR ?_
                  refine wk_thenR ?_
                  refine wk_blkR ?_
                  refine wk_thenR ?_
                  refine wk_thenR ?_
                  refine wk_blkR ?_
                  refine wk_thenR ?_
                  refine wk_tk h so ?_; intro w125 h so
                  obtain ⟨x127, q126, h⟩ := h
                  exact wk_retR1 (x := x127) rfl ⟨by decide, _, rfl, loadVar_one Try.underlying4 rfl q126⟩ rfl so h
            · refine wc_exit ?_
              refine wk_thenE ?_
              refine wk_thenE ?_
              refine wk_blkE ?_
              refine wk_prune [(6, .pointer (some (⟨b3, 0, none⟩ : Addr))), (7, .bool x5), (10, .pointer (some (⟨b16, 0, none⟩ : Addr))), (14, .int .i64 x55), (15, .pointer (some (⟨b57, 0, none⟩ : Addr)))] ⟨rfl, rfl, rfl, rfl, rfl, trivial⟩ (fun f1 => ?_)
              refine wk_then ?_
              refine wc_seq ?_
              refine wc_region ?_
              refine wl_val (at_move rfl) rfl ?_
              refine wl_val (at_move rfl) rfl ?_
              refine bif_ h (fun hb h => ?_) (fun hb h => ?_)
              · refine wl_set (t := 106) (v := .bool true) (congrArg Value.bool hb) ?_; clear hb
                refine wl_on (t := 106) rfl (by decide) rfl ?_
                obtain ⟨x128, q129, h⟩ := h
                refine wl_val (at_load Try.underlying3 rfl rfl q129) rfl ?_
                refine wl_on (t := 106) rfl (by decide) rfl ?_
                obtain ⟨x130, q131, h⟩ := h
                refine wl_val (at_load Try.underlying44 rfl rfl q131) rfl ?_
                refine wl_on (t := 106) rfl (by decide) rfl ?_
                refine wl_val (at_lenL Try.underlying44 rfl) rfl ?_
                refine wl_on (t := 106) rfl (by decide) rfl ?_
                refine wl_val (at_eql rfl rfl) rfl ?_
                refine wl_val (at_pick_t rfl rfl) rfl ?_
                refine wl_val (at_move rfl) rfl ?_
                refine bif_ h (fun hb h => ?_) (fun hb h => ?_)
                · refine wl_set (t := 112) (v := .bool true) (congrArg Value.bool hb) ?_; clear hb
                  refine wl_on (t := 112) rfl (by decide) rfl ?_
                  refine wl_val (at_move rfl) rfl ?_
                  refine wl_on (t := 112) rfl (by decide) rfl ?_
                  refine wl_val (at_geq rfl rfl) rfl ?_
                  refine wl_val (at_pick_t rfl rfl) rfl ?_
                  refine wl_st (v := .bool (decide ((1 : Int) ≤ x55))) h rfl so (fun q1 q2 => ef_store (sz := sz4) rfl rfl rfl q1 q2) ?_; intro w132 h so
                  refine wl_nil ?_
                  refine wk_prune [(6, .pointer (some (⟨b3, 0, none⟩ : Addr)))] ⟨rfl, trivial⟩ (fun f1 => ?_)
                  refine wk_then ?_
                  refine wc_ret ?_
                  refine wk_tk h so ?_; intro w133 h so
                  obtain ⟨x135, q134, h⟩ := h
                  exact wk_retR1 (x := x135) rfl ⟨by decide, _, rfl, loadVar_one Try.underlying4 rfl q134⟩ rfl so h
                · refine wl_set (t := 112) (v := .bool false) (congrArg Value.bool hb) ?_; clear hb
                  refine wl_off (t := 112) rfl (by decide) rfl ?_
                  refine wl_off (t := 112) rfl (by decide) rfl ?_
                  refine wl_val (at_pick_f rfl rfl) rfl ?_
                  refine wl_st (v := .bool false) h rfl so (fun q1 q2 => ef_store (sz := sz4) rfl rfl rfl q1 q2) ?_; intro w136 h so
                  refine wl_nil ?_
                  refine wk_prune [(6, .pointer (some (⟨b3, 0, none⟩ : Addr)))] ⟨rfl, trivial⟩ (fun f1 => ?_)
                  refine wk_then ?_
                  refine wc_ret ?_
                  refine wk_tk h so ?_; intro w137 h so
                  obtain ⟨x139, q138, h⟩ := h
                  exact wk_retR1 (x := x139) rfl ⟨by decide, _, rfl, loadVar_one Try.underlying4 rfl q138⟩ rfl so h
              · refine wl_set (t := 106) (v := .bool false) (congrArg Value.bool hb) ?_; clear hb
                refine wl_off (t := 106) rfl (by decide) rfl ?_
                refine wl_off (t := 106) rfl (by decide) rfl ?_
                refine wl_off (t := 106) rfl (by decide) rfl ?_
                refine wl_off (t := 106) rfl (by decide) rfl ?_
                refine wl_val (at_pick_f rfl rfl) rfl ?_
                refine wl_val (at_move rfl) rfl ?_
                refine wl_off (t := 112) rfl (by decide) rfl ?_
                refine wl_off (t := 112) rfl (by decide) rfl ?_
                refine wl_val (at_pick_f rfl rfl) rfl ?_
                refine wl_st (v := .bool false) h rfl so (fun q1 q2 => ef_store (sz := sz4) rfl rfl rfl q1 q2) ?_; intro w140 h so
                refine wl_nil ?_
                refine wk_prune [(6, .pointer (some (⟨b3, 0, none⟩ : Addr)))] ⟨rfl, trivial⟩ (fun f1 => ?_)
                refine wk_then ?_
                refine wc_ret ?_
                refine wk_tk h so ?_; intro w141 h so
                obtain ⟨x143, q142, h⟩ := h
                exact wk_retR1 (x := x143) rfl ⟨by decide, _, rfl, loadVar_one Try.underlying4 rfl q142⟩ rfl so h
          · intro J47 h hJ47
            refine wc_seq ?_
            refine wc_join (w0 := w0) (fun (s145 : Bool) => [(1, .slice a1.a a1.n a1.c), (2, .int .i64 a2), (3, .pointer (some (⟨b1, 0, none⟩ : Addr))), (6, .pointer (some (⟨b3, 0, none⟩ : Addr))), (7, .bool x5), (8, .int .i64 x13.1), (9, .int .i64 x13.2), (10, .pointer (some (⟨b16, 0, none⟩ : Addr))), (13, .int .i64 a2), (63, .bool s145)]) h ?_ ?_
            · rintro s145 w146 f1 h so; refine wk_then ?_
              refine wc_cond rfl h (fun h => ?_) (fun h => ?_)
              · refine wc_region ?_
                refine wl_val (at_move rfl) rfl ?_
                refine wl_val (at_move rfl) rfl ?_
                refine wl_val (at_mul rfl rfl) rfl ?_
                refine wl_val (at_assign rfl) rfl ?_
                refine wl_nil ?_
                exact wk_prune [(1, .slice a1.a a1.n a1.c), (2, .int .i64 a2), (3, .pointer (some (⟨b1, 0, none⟩ : Addr))), (6, .pointer (some (⟨b3, 0, none⟩ : Addr))), (7, .bool x5), (10, .pointer (some (⟨b16, 0, none⟩ : Addr))), (13, .int .i64 (IntKind.wrap .i64 (x13.1 * x13.2)))] ⟨rfl, rfl, rfl, rfl, rfl, rfl, rfl, trivial⟩ (fun f1 => hJ47 ((IntKind.wrap .i64 (x13.1 * x13.2))) _ f1 h so)
              · refine wc_skip ?_
                exact wk_prune [(1, .slice a1.a a1.n a1.c), (2, .int .i64 a2), (3, .pointer (some (⟨b1, 0, none⟩ : Addr))), (6, .pointer (some (⟨b3, 0, none⟩ : Addr))), (7, .bool x5), (10, .pointer (some (⟨b16, 0, none⟩ : Addr))), (13, .int .i64 a2)] ⟨rfl, rfl, rfl, rfl, rfl, rfl, rfl, trivial⟩ (fun f1 => hJ47 (a2) _ f1 h so)
            · intro J144 h hJ144
              refine wc_region ?_
              refine wl_val (at_move rfl) rfl ?_
              refine wl_val (at_eql rfl rfl) rfl ?_
              refine wl_val (at_move rfl) rfl ?_
              refine bif_ h (fun hb h => ?_) (fun hb h => ?_)
              · refine wl_set (t := 57) (v := .bool true) (congrArg Value.bool hb) ?_; clear hb
                refine wl_off (t := 57) rfl (by decide) rfl ?_
                refine wl_off (t := 57) rfl (by decide) rfl ?_
                refine wl_off (t := 57) rfl (by decide) rfl ?_
                refine wl_off (t := 57) rfl (by decide) rfl ?_
                refine wl_off (t := 57) rfl (by decide) rfl ?_
                refine wl_val (at_pick_t rfl rfl) rfl ?_
                refine wl_nil ?_
                exact wk_prune [(1, .slice a1.a a1.n a1.c), (2, .int .i64 a2), (3, .pointer (some (⟨b1, 0, none⟩ : Addr))), (6, .pointer (some (⟨b3, 0, none⟩ : Addr))), (7, .bool x5), (8, .int .i64 x13.1), (9, .int .i64 x13.2), (10, .pointer (some (⟨b16, 0, none⟩ : Addr))), (13, .int .i64 a2), (63, .bool true)] ⟨rfl, rfl, rfl, rfl, rfl, rfl, rfl, rfl, rfl, rfl, trivial⟩ (fun f1 => hJ144 (true) _ f1 h so)
              · refine wl_set (t := 57) (v := .bool false) (congrArg Value.bool hb) ?_; clear hb
                refine wl_on (t := 57) rfl (by decide) rfl ?_
                refine wl_val (at_move rfl) rfl ?_
                refine wl_on (t := 57) rfl (by decide) rfl ?_
                refine wl_val (at_move rfl) rfl ?_
                refine wl_on (t := 57) rfl (by decide) rfl ?_
                refine wl_val (at_move rfl) rfl ?_
                refine wl_on (t := 57) rfl (by decide) rfl ?_
                refine wl_val (at_mul rfl rfl) rfl ?_
                refine wl_on (t := 57) rfl (by decide) rfl ?_
                refine wl_val (at_gtr rfl rfl) rfl ?_
                refine wl_val (at_pick_f rfl rfl) rfl ?_
                refine wl_nil ?_
                exact wk_prune [(1, .slice a1.a a1.n a1.c), (2, .int .i64 a2), (3, .pointer (some (⟨b1, 0, none⟩ : Addr))), (6, .pointer (some (⟨b3, 0, none⟩ : Addr))), (7, .bool x5), (8, .int .i64 x13.1), (9, .int .i64 x13.2), (10, .pointer (some (⟨b16, 0, none⟩ : Addr))), (13, .int .i64 a2), (63, .bool (decide ((IntKind.wrap .i64 (x13.1 * x13.2)) < a2)))] ⟨rfl, rfl, rfl, rfl, rfl, rfl, rfl, rfl, rfl, rfl, trivial⟩ (fun f1 => hJ144 ((decide ((IntKind.wrap .i64 (x13.1 * x13.2)) < a2))) _ f1 h so)
  · intro J8 h hJ8
    refine wc_region ?_
    refine wl_val (at_loadA (cs := (c26 a0_0 a0_1 a0_2 a0_3)) Try.underlying26 rfl (by rw [len26]; exact sz26) rfl (ldA_full t_b1)) rfl ?_
    refine wl_val (at_move rfl) rfl ?_
    refine wl_callF (geom_Parts.calls _ _ _ _ _ _ _ h) enter13 rfl trivial so ?_; intro x147 w148 h so
    obtain ⟨q149, h⟩ := h
    replace t_b1 := pv_bk q149 t_b1 (by simp)
    replace t_b3 := pv_bk q149 t_b3 (by simp)
    refine wl_val (at_neq rfl rfl) rfl ?_
    refine wl_val (at_move rfl) rfl ?_
    refine bif_ h (fun hb h => ?_) (fun hb h => ?_)
    · refine wl_set (t := 25) (v := .bool true) (congrArg Value.bool hb) ?_; clear hb
      refine wl_off (t := 25) rfl (by decide) rfl ?_
      refine wl_off (t := 25) rfl (by decide) rfl ?_
      refine wl_val (at_pick_t rfl rfl) rfl ?_
      refine wl_val (at_move rfl) rfl ?_
      refine wl_off (t := 29) rfl (by decide) rfl ?_
      refine wl_off (t := 29) rfl (by decide) rfl ?_
      refine wl_val (at_pick_t rfl rfl) rfl ?_
      refine wl_nil ?_
      exact wk_prune [(1, .slice a1.a a1.n a1.c), (2, .int .i64 a2), (3, .pointer (some (⟨b1, 0, none⟩ : Addr))), (6, .pointer (some (⟨b3, 0, none⟩ : Addr))), (7, .bool x5), (32, .bool true)] ⟨rfl, rfl, rfl, rfl, rfl, rfl, trivial⟩ (fun f1 => hJ8 (true) _ f1 h ⟨t_b1, t_b3, trivial⟩ so)
    · refine wl_set (t := 25) (v := .bool false) (congrArg Value.bool hb) ?_; clear hb
      refine wl_on (t := 25) rfl (by decide) rfl ?_
      refine wl_val (at_loadA (cs := (c26 a0_0 a0_1 a0_2 a0_3)) Try.underlying26 rfl (by rw [len26]; exact sz26) rfl (ldA_full t_b1)) rfl ?_
      refine wl_on (t := 25) rfl (by decide) rfl ?_
      refine wl_callF (mosaiclaw14_many.calls _ _ _ _ _ _ h) enter29 rfl trivial so ?_; intro x150 w151 h so
      obtain ⟨q152, h⟩ := h
      replace t_b1 := pv_bk q152 t_b1 (by simp)
      replace t_b3 := pv_bk q152 t_b3 (by simp)
      refine wl_val (at_pick_f rfl rfl) rfl ?_
      refine wl_val (at_move rfl) rfl ?_
      refine bif_ h (fun hb h => ?_) (fun hb h => ?_)
      · refine wl_set (t := 29) (v := .bool true) (congrArg Value.bool hb) ?_; clear hb
        refine wl_off (t := 29) rfl (by decide) rfl ?_
        refine wl_off (t := 29) rfl (by decide) rfl ?_
        refine wl_val (at_pick_t rfl rfl) rfl ?_
        refine wl_nil ?_
        exact wk_prune [(1, .slice a1.a a1.n a1.c), (2, .int .i64 a2), (3, .pointer (some (⟨b1, 0, none⟩ : Addr))), (6, .pointer (some (⟨b3, 0, none⟩ : Addr))), (7, .bool x5), (32, .bool true)] ⟨rfl, rfl, rfl, rfl, rfl, rfl, trivial⟩ (fun f1 => hJ8 (true) _ f1 h ⟨t_b1, t_b3, trivial⟩ so)
      · refine wl_set (t := 29) (v := .bool false) (congrArg Value.bool hb) ?_; clear hb
        refine wl_on (t := 29) rfl (by decide) rfl ?_
        refine wl_val (at_move rfl) rfl ?_
        refine wl_on (t := 29) rfl (by decide) rfl ?_
        refine wl_val (at_lss rfl rfl) rfl ?_
        refine wl_val (at_pick_f rfl rfl) rfl ?_
        refine wl_nil ?_
        exact wk_prune [(1, .slice a1.a a1.n a1.c), (2, .int .i64 a2), (3, .pointer (some (⟨b1, 0, none⟩ : Addr))), (6, .pointer (some (⟨b3, 0, none⟩ : Addr))), (7, .bool x5), (32, .bool (decide (a2 < 0)))] ⟨rfl, rfl, rfl, rfl, rfl, rfl, trivial⟩ (fun f1 => hJ8 ((decide (a2 < 0))) _ f1 h ⟨t_b1, t_b3, trivial⟩ so)
end Go.Proofs.Ytlonijlcddlhjaa.G
