import Derived.Test.YtdcjjoihlnjpnaaKshelf
import Derived.Test.YtdcjjoihlnjpnaaKcuts
import Derived.Test.YtdcjjoihlnjpnaaKmosaicref19
namespace Go.Proofs.Ytdcjjoihlnjpnaa.G
open Go.RowKit
set_option linter.unusedVariables false
set_option linter.unusedSimpArgs false
/-- mosaic/mosaiclaw19.CutsEach -/
def mosaiclaw19_CutsEach.enc : Bool → Value := fun r => .bool r
def mosaiclaw19_CutsEach.s (a0 : ByteArray) (a1 : Int) (a2 : Int) (H0 : Hp) (Q : Bool → Hp → Prop) : Prop :=
  Gn [] H0 (fun (b1 : Nat) (H2 : Hp) => mosaicref19_All.s a0 a1 H2 (fun x3 H4 => Pv [b1] H2 H4 ∧ (cuts_Each.s a0 a1 H4 (fun x6 H7 => Pv [b1] H4 H7 ∧ (Gn [] H7 (fun (b9 : Nat) (H11 : Hp) => Gn [] H11 (fun (b12 : Nat) (H13 : Hp) => Bk H13 b1 3 [.int .i64 a2] → (Bk H13 b9 25 [.func (.func 16) #[] #[.pointer (some x6.1), .pointer (some x6.2)]] → (Bk H13 b12 22 [.slice none 0 0] → (Join (fun (s15 : (List Nat)) (H16 : Hp) => Join (fun (s18 : Int) (H19 : Hp) => Gn [] H19 (fun (b20 : Nat) (H21 : Hp) => Gn [] H21 (fun (b22 : Nat) (H23 : Hp) => ldF H23 (⟨b9, 0, none⟩ : Addr) (fun x24 => Bk H23 b20 22 [.slice none 0 0] → (Bk H23 b22 22 [.slice none 0 0] → (∃ p26 p27 : Addr, x24 = .func (.func 16) #[] #[.pointer (some p26), .pointer (some p27)] ∧ (Rg H23 (fun r29 D37 H32 => cuts_Each_1.s (fun (x33 : Int × Int × Int × Int) (H35 : Hp) (K34 : Bool → Hp → Prop) => Lp H35 (D37 + 1) r29 ∧ (Gn [] H35 (fun (b38 : Nat) (H40 : Hp) => Lp H40 (D37 + 1) r29 ∧ Up (putL H40 (D37 + 1) (bsy r29)) (fun H41 => Pv [b38] H40 H41 ∧ (ldL H41 (⟨b20, 0, none⟩ : Addr) (fun x43 => nw H41 29 (c29 x33.1 x33.2.1 x33.2.2.1 x33.2.2.2) (fun p45 H46 => apS H46 x43 29 4 32 z29.cells 1 (c29 x33.1 x33.2.1 x33.2.2.1 x33.2.2.2) (fun l50 H51 => st H51 (⟨b20, 0, none⟩ : Addr) (.slice l50.a l50.n l50.c) (fun H52 => ldL H52 (⟨b20, 0, none⟩ : Addr) (fun x53 => if ((x53.n : Int) == 1) = true then (ldF H52 (⟨b9, 0, none⟩ : Addr) (fun x55 => ∃ p57 p58 : Addr, x55 = .func (.func 16) #[] #[.pointer (some p57), .pointer (some p58)] ∧ (Rg1 (D37 + 1) H52 (fun r60 l68 H63 => cuts_Each_1.s (fun (x64 : Int × Int × Int × Int) (H66 : Hp) (K65 : Bool → Hp → Prop) => Lp H66 l68 r60 ∧ (Gn [] H66 (fun (b69 : Nat) (H71 : Hp) => Lp H71 l68 r60 ∧ Up (putL H71 l68 (bsy r60)) (fun H72 => Pv [b69] H71 H72 ∧ (ldL H72 (⟨b22, 0, none⟩ : Addr) (fun x74 => nw H72 29 (c29 x64.1 x64.2.1 x64.2.2.1 x64.2.2.2) (fun p76 H77 => apS H77 x74 29 4 32 z29.cells 1 (c29 x64.1 x64.2.1 x64.2.2.1 x64.2.2.2) (fun l81 H82 => st H82 (⟨b22, 0, none⟩ : Addr) (.slice l81.a l81.n l81.c) (fun H83 => Lp H83 l68 (bsy r60) ∧ K65 true (putL H83 l68 r60)))))))))) p57 p58 H63 (fun _ H67 => Lp H67 l68 r60 ∧ Up (putL H67 l68 (exh r60)) (fun H85 => Lp H85 (D37 + 1) (bsy r29) ∧ K34 true (putL H85 (D37 + 1) r29))))))) else (Lp H52 (D37 + 1) (bsy r29) ∧ K34 true (putL H52 (D37 + 1) r29)))))))))))) p26 p27 H32 (fun _ H36 => Lp H36 (D37 + 1) r29 ∧ Up (putL H36 (D37 + 1) (exh r29)) (fun H87 => 0 ≤ s18 ∧ s18 ≤ (x3.c : Int) ∧ (ldL H87 (⟨b12, 0, none⟩ : Addr) (fun x91 => mosaicref19_Same.s x91 (slS x3 4 0 s18) H87 (fun x93 H94 => if x93 = true then (ldL H94 (⟨b20, 0, none⟩ : Addr) (fun x95 => mosaicref19_Same.s x95 x3 H94 (fun x97 H98 => if x97 = true then (ldL H98 (⟨b22, 0, none⟩ : Addr) (fun x99 => mosaicref19_Same.s x99 x3 H98 (fun x101 H102 => tkD (D37 :: s15) H102 (fun H103 => Q x101 H103)))) else (tkD (D37 :: s15) H98 (fun H104 => Q false H104))))) else (tkD (D37 :: s15) H94 (fun H105 => Q false H105))))))))))))))) (fun (J17 : Int → Hp → Prop) => Join (fun (s107 : Bool) (H108 : Hp) => if s107 = true then (ldI .i64 H108 (⟨b1, 0, none⟩ : Addr) (fun x109 => J17 (x109) H108)) else (J17 ((x3.n : Int)) H108)) (fun (J106 : Bool → Hp → Prop) => ldI .i64 H16 (⟨b1, 0, none⟩ : Addr) (fun x111 => if decide ((0 : Int) ≤ x111) = true then (ldI .i64 H16 (⟨b1, 0, none⟩ : Addr) (fun x113 => J106 ((decide (x113 < (x3.n : Int)))) H16)) else (J106 (false) H16))))) (fun (J14 : (List Nat) → Hp → Prop) => ldF H13 (⟨b9, 0, none⟩ : Addr) (fun x115 => ∃ p117 p118 : Addr, x115 = .func (.func 16) #[] #[.pointer (some p117), .pointer (some p118)] ∧ (Rg H13 (fun r120 D128 H123 => cuts_Each_1.s (fun (x124 : Int × Int × Int × Int) (H126 : Hp) (K125 : Bool → Hp → Prop) => Lp H126 (D128 + 1) r120 ∧ (Gn [] H126 (fun (b129 : Nat) (H131 : Hp) => Lp H131 (D128 + 1) r120 ∧ Up (putL H131 (D128 + 1) (bsy r120)) (fun H132 => Pv [b129] H131 H132 ∧ (ldL H132 (⟨b12, 0, none⟩ : Addr) (fun x134 => ldI .i64 H132 (⟨b1, 0, none⟩ : Addr) (fun x136 => if ((x134.n : Int) == x136) = true then (Lp H132 (D128 + 1) (bsy r120) ∧ K125 false (putL H132 (D128 + 1) (dn r120 (.exit 0)))) else (ldL H132 (⟨b12, 0, none⟩ : Addr) (fun x138 => nw H132 29 (c29 x124.1 x124.2.1 x124.2.2.1 x124.2.2.2) (fun p140 H141 => apS H141 x138 29 4 32 z29.cells 1 (c29 x124.1 x124.2.1 x124.2.2.1 x124.2.2.2) (fun l145 H146 => st H146 (⟨b12, 0, none⟩ : Addr) (.slice l145.a l145.n l145.c) (fun H147 => Lp H147 (D128 + 1) (bsy r120) ∧ K125 true (putL H147 (D128 + 1) r120))))))))))))) p117 p118 H123 (fun _ H127 => (Lp H127 (D128 + 1) r120 ∧ Up (putL H127 (D128 + 1) (exh r120)) (fun H149 => J14 ((D128 :: [])) H149)) ∨ (Lp H127 (D128 + 1) (dn r120 (.exit 0)) ∧ Up (putL H127 (D128 + 1) (exh (dn r120 (.exit 0)))) (fun H150 => J14 ((D128 :: [])) H150)))))))))))))))))
set_option maxRecDepth 20000 in
set_option maxHeartbeats 4000000 in
theorem mosaiclaw19_CutsEach.calls (a0 : ByteArray) (a1 : Int) (a2 : Int) (w0 : World) (Q : Bool → Hp → Prop) (h : mosaiclaw19_CutsEach.s a0 a1 a2 w0.heap Q) :
    Ca Try.prog 3 #[.string a0, .int .i64 a1, .int .i64 a2] w0 (Rt mosaiclaw19_CutsEach.enc Q w0) := by
  refine ca_startM (c := _) Try.func3 rfl Try.ntmps3 rfl ?_
  have so : Sm w0 w0 := Sm.refl w0
  unfold mosaiclaw19_CutsEach.s at h
  refine wc_prune [(0, .string a0), (1, .int .i64 a1), (2, .int .i64 a2)] ⟨rfl, rfl, rfl, trivial⟩ (fun f1 => ?_)
  refine wc_seq ?_
  refine wc_region ?_
  refine wl_newT (T := 3) (cs := [.int .i64 a2]) (ef_box rfl rfl) rfl so ?_; intro b1 w2 hb_b1 t_b1 k_b1 so
  have g_b1 := Nat.le_of_eq hb_b1.symm
  have hc := k_b1.ch (F := [])
  refine wl_val (at_assign rfl) rfl ?_
  refine wl_nil ?_
  refine wk_prune [(0, .string a0), (1, .int .i64 a1), (5, .pointer (some (⟨b1, 0, none⟩ : Addr)))] ⟨rfl, rfl, rfl, trivial⟩ (fun f1 => ?_)
  refine wk_then ?_
  refine wc_seq ?_
  refine wc_region ?_
  refine wl_val (at_move rfl) rfl ?_
  refine wl_val (at_move rfl) rfl ?_
  replace h := h b1 _ hc g_b1 t_b1.lt; clear hc
  refine wl_callF (mosaicref19_All.calls _ _ _ _ h) enter7 rfl trivial so ?_; intro x3 w4 h so
  obtain ⟨q5, h⟩ := h
  replace t_b1 := pv_bk q5 t_b1 (by simp)
  refine wl_val (at_assign rfl) rfl ?_
  refine wl_nil ?_
  refine wk_prune [(0, .string a0), (1, .int .i64 a1), (5, .pointer (some (⟨b1, 0, none⟩ : Addr))), (7, .slice x3.a x3.n x3.c)] ⟨rfl, rfl, rfl, rfl, trivial⟩ (fun f1 => ?_)
  refine wk_then ?_
  refine wc_seq ?_
  refine wc_region ?_
  refine wl_val (at_move rfl) rfl ?_
  refine wl_val (at_move rfl) rfl ?_
  refine wl_callF (cuts_Each.calls _ _ _ _ h) enter8 rfl trivial so ?_; intro x6 w7 h so
  obtain ⟨q8, h⟩ := h
  replace t_b1 := pv_bk q8 t_b1 (by simp)
  refine wl_newT (T := 25) (cs := [.nilFunc]) (ef_alloc zero25 rfl) rfl so ?_; intro b9 w10 hb_b9 t_b9 k_b9 so
  have g_b9 := Nat.le_of_eq hb_b9.symm
  have hc := k_b9.ch (F := [])
  have n_b1_b9 : b1 ≠ b9 := fun e => by have := t_b1.lt; omega
  replace t_b1 := t_b1.keep k_b9
  refine wl_stT (v := .func (.func 16) #[] #[.pointer (some x6.1), .pointer (some x6.2)]) (cs' := [.func (.func 16) #[] #[.pointer (some x6.1), .pointer (some x6.2)]]) t_b9 (by first | decide | simp [ints_len, bools_len]) (by first | rfl | simp [List.set_append, ints_len, bools_len]) rfl so (fun q1 q2 => ef_store (sz := sz25) rfl rfl rfl q1 q2) ?_; intro w11 t_b9 s_w11 so
  replace t_b1 := t_b1.same s_w11 (n_b1_b9)
  replace hc := ch_same hc s_w11 (.inr g_b9)
  refine wl_nil ?_
  refine wk_prune [(5, .pointer (some (⟨b1, 0, none⟩ : Addr))), (7, .slice x3.a x3.n x3.c), (8, .pointer (some (⟨b9, 0, none⟩ : Addr)))] ⟨rfl, rfl, rfl, trivial⟩ (fun f1 => ?_)
  refine wk_then ?_
  refine wc_seq ?_
  refine wc_seq ?_
  refine wc_region ?_
  refine wl_val (at_load (v := .func (.func 16) #[] #[.pointer (some x6.1), .pointer (some x6.2)]) Try.underlying25 rfl rfl ((t_b9.cell 0).trans (by first | rfl | simp [List.getElem?_append, ints_len, bools_len]))) rfl ?_
  refine wl_val (at_eqlNF (v := .func (.func 16) #[] #[.pointer (some x6.1), .pointer (some x6.2)]) Try.underlying25 rfl rfl rfl) rfl ?_
  refine wl_nil ?_
  refine wk_prune [(5, .pointer (some (⟨b1, 0, none⟩ : Addr))), (7, .slice x3.a x3.n x3.c), (8, .pointer (some (⟨b9, 0, none⟩ : Addr))), (23, .bool false)] ⟨rfl, rfl, rfl, rfl, trivial⟩ (fun f1 => ?_)
  refine wk_then ?_
  replace h := h b9 _ hc g_b9 t_b9.lt; clear hc
  refine wc_cond_f rfl ?_
  refine wc_skip ?_
  refine wk_prune [(5, .pointer (some (⟨b1, 0, none⟩ : Addr))), (7, .slice x3.a x3.n x3.c), (8, .pointer (some (⟨b9, 0, none⟩ : Addr)))] ⟨rfl, rfl, rfl, trivial⟩ (fun f1 => ?_)
  refine wk_then ?_
  refine wc_seq ?_
  refine wc_region ?_
  refine wl_newT (T := 22) (cs := [.slice none 0 0]) (ef_alloc zero22 rfl) rfl so ?_; intro b12 w13 hb_b12 t_b12 k_b12 so
  have g_b12 := Nat.le_of_eq hb_b12.symm
  have hc := k_b12.ch (F := [])
  have n_b1_b12 : b1 ≠ b12 := fun e => by have := t_b1.lt; omega
  replace t_b1 := t_b1.keep k_b12
  have n_b9_b12 : b9 ≠ b12 := fun e => by have := t_b9.lt; omega
  replace t_b9 := t_b9.keep k_b12
  refine wl_nil ?_
  refine wk_prune [(5, .pointer (some (⟨b1, 0, none⟩ : Addr))), (7, .slice x3.a x3.n x3.c), (8, .pointer (some (⟨b9, 0, none⟩ : Addr))), (9, .pointer (some (⟨b12, 0, none⟩ : Addr)))] ⟨rfl, rfl, rfl, rfl, trivial⟩ (fun f1 => ?_)
  refine wk_then ?_
  replace h := h b12 _ hc g_b12 t_b12.lt; clear hc
  replace h := h t_b1
  replace h := h t_b9
  replace h := h t_b12
  refine wc_seq ?_
  refine wc_joinM (w0 := w0) (fun (s15 : (List Nat)) => [(5, .pointer (some (⟨b1, 0, none⟩ : Addr))), (7, .slice x3.a x3.n x3.c), (8, .pointer (some (⟨b9, 0, none⟩ : Addr))), (9, .pointer (some (⟨b12, 0, none⟩ : Addr)))]) (fun (s15 : (List Nat)) => (mks s15)) h ?_ ?_
  · rintro s15 w16 f1 h so; refine wk_then ?_
    refine wc_seq ?_
    refine wc_region ?_
    refine wl_val (at_move rfl) rfl ?_
    refine wl_val (at_lenL Try.underlying22 rfl) rfl ?_
    refine wl_val (at_assign rfl) rfl ?_
    refine wl_nil ?_
    refine wk_prune [(5, .pointer (some (⟨b1, 0, none⟩ : Addr))), (7, .slice x3.a x3.n x3.c), (8, .pointer (some (⟨b9, 0, none⟩ : Addr))), (9, .pointer (some (⟨b12, 0, none⟩ : Addr))), (11, .int .i64 (x3.n : Int))] ⟨rfl, rfl, rfl, rfl, rfl, trivial⟩ (fun f1 => ?_)
    refine wk_then ?_
    refine wc_seq ?_
    refine wc_join (w0 := w0) (fun (s18 : Int) => [(7, .slice x3.a x3.n x3.c), (8, .pointer (some (⟨b9, 0, none⟩ : Addr))), (9, .pointer (some (⟨b12, 0, none⟩ : Addr))), (11, .int .i64 s18)]) h ?_ ?_
    · rintro s18 w19 f1 h so; refine wk_then ?_
      refine wc_seq ?_
      refine wc_region ?_
      refine wl_newT (T := 22) (cs := [.slice none 0 0]) (ef_alloc zero22 rfl) rfl so ?_; intro b20 w21 hb_b20 t_b20 k_b20 so
      have g_b20 := Nat.le_of_eq hb_b20.symm
      have hc := k_b20.ch (F := [])
      refine wl_nil ?_
      refine wk_prune [(7, .slice x3.a x3.n x3.c), (8, .pointer (some (⟨b9, 0, none⟩ : Addr))), (9, .pointer (some (⟨b12, 0, none⟩ : Addr))), (11, .int .i64 s18), (12, .pointer (some (⟨b20, 0, none⟩ : Addr)))] ⟨rfl, rfl, rfl, rfl, rfl, trivial⟩ (fun f1 => ?_)
      refine wk_then ?_
      refine wc_seq ?_
      refine wc_region ?_
      replace h := h b20 _ hc g_b20 t_b20.lt; clear hc
      refine wl_newT (T := 22) (cs := [.slice none 0 0]) (ef_alloc zero22 rfl) rfl so ?_; intro b22 w23 hb_b22 t_b22 k_b22 so
      have g_b22 := Nat.le_of_eq hb_b22.symm
      have hc := k_b22.ch (F := [])
      have n_b20_b22 : b20 ≠ b22 := fun e => by have := t_b20.lt; omega
      replace t_b20 := t_b20.keep k_b22
      refine wl_nil ?_
      refine wk_prune [(7, .slice x3.a x3.n x3.c), (8, .pointer (some (⟨b9, 0, none⟩ : Addr))), (9, .pointer (some (⟨b12, 0, none⟩ : Addr))), (11, .int .i64 s18), (12, .pointer (some (⟨b20, 0, none⟩ : Addr))), (13, .pointer (some (⟨b22, 0, none⟩ : Addr)))] ⟨rfl, rfl, rfl, rfl, rfl, rfl, trivial⟩ (fun f1 => ?_)
      refine wk_then ?_
      refine wc_seq ?_
      refine wc_seq ?_
      refine wc_region ?_
      replace h := h b22 _ hc g_b22 t_b22.lt; clear hc
      obtain ⟨x24, q25, h⟩ := h
      refine wl_val (at_load Try.underlying25 rfl rfl q25) rfl ?_
      refine wl_nil ?_
      refine wk_prune [(7, .slice x3.a x3.n x3.c), (8, .pointer (some (⟨b9, 0, none⟩ : Addr))), (9, .pointer (some (⟨b12, 0, none⟩ : Addr))), (11, .int .i64 s18), (12, .pointer (some (⟨b20, 0, none⟩ : Addr))), (13, .pointer (some (⟨b22, 0, none⟩ : Addr))), (44, x24)] ⟨rfl, rfl, rfl, rfl, rfl, rfl, rfl, trivial⟩ (fun f1 => ?_)
      refine wk_then ?_
      refine wc_block ?_
      replace h := h t_b20
      replace h := h t_b22
      refine wc_prune [(7, .slice x3.a x3.n x3.c), (8, .pointer (some (⟨b9, 0, none⟩ : Addr))), (9, .pointer (some (⟨b12, 0, none⟩ : Addr))), (11, .int .i64 s18), (12, .pointer (some (⟨b20, 0, none⟩ : Addr))), (13, .pointer (some (⟨b22, 0, none⟩ : Addr))), (44, x24)] ⟨rfl, rfl, rfl, rfl, rfl, rfl, rfl, trivial⟩ (fun f1 => ?_)
      obtain ⟨p26, p27, q28, h⟩ := h
      refine wc_prune [(7, .slice x3.a x3.n x3.c), (8, .pointer (some (⟨b9, 0, none⟩ : Addr))), (9, .pointer (some (⟨b12, 0, none⟩ : Addr))), (11, .int .i64 s18), (12, .pointer (some (⟨b20, 0, none⟩ : Addr))), (13, .pointer (some (⟨b22, 0, none⟩ : Addr))), (44, .func (.func 16) #[] #[.pointer (some p26), .pointer (some p27)])] ⟨rfl, rfl, rfl, rfl, rfl, rfl, q28, trivial⟩ (fun f1 => ?_)
      refine wc_rng (caps := [.pointer (some p26), .pointer (some p27)]) rfl enter16 so h ?_; intro r29 D37 w32 q30 q31 h so
      refine Ca.mono (cuts_Each_1.calls _ _ (yok (ps := [45]) q31 (fun _ => rfl) fun x33 w35 K34 h => ?_) _ _ w32 _ h) ?_
      · refine ⟨h.1, ?_⟩; replace h := h.2; have so := Sm.refl w35; refine wc_prune [(8, .pointer (some (⟨b9, 0, none⟩ : Addr))), (12, .pointer (some (⟨b20, 0, none⟩ : Addr))), (13, .pointer (some (⟨b22, 0, none⟩ : Addr))), (45, .agg (c29 x33.1 x33.2.1 x33.2.2.1 x33.2.2.2).toArray)] ⟨rfl, rfl, rfl, rfl, trivial⟩ (fun f1 => ?_)
        refine wc_region ?_
        refine wl_newT (T := 29) (cs := (c29 0 0 0 0)) (ef_alloc zero29 rfl) rfl so ?_; intro b38 w39 hb_b38 t_b38 k_b38 so
        have g_b38 := Nat.le_of_eq hb_b38.symm
        have hc := k_b38.ch (F := [])
        refine wl_stWT (vs := (c29 x33.1 x33.2.1 x33.2.2.1 x33.2.2.2)) t_b38 (by first | (rw [len29, len29]) | (rw [len29]) | rfl) rfl so (fun q => ef_storeA (p := (⟨b38, 0, none⟩ : Addr)) (cs := (c29 x33.1 x33.2.1 x33.2.2.1 x33.2.2.2)) (by rw [len29]; exact sz29) rfl rfl (one29 _ _ _ _) q) ?_; intro w40 t_b38 s_w40 so
        replace hc := ch_same hc s_w40 (.inr g_b38)
        refine wl_nil ?_
        replace h := h b38 _ hc g_b38 t_b38.lt; clear hc
        refine wk_prune [(8, .pointer (some (⟨b9, 0, none⟩ : Addr))), (12, .pointer (some (⟨b20, 0, none⟩ : Addr))), (13, .pointer (some (⟨b22, 0, none⟩ : Addr))), (14, .pointer (some (⟨b38, 0, none⟩ : Addr)))] ⟨rfl, rfl, rfl, rfl, trivial⟩ (fun f1 => ?_)
        refine wk_asg q30 h so ?_; intro w41 h so
        obtain ⟨q42, h⟩ := h
        replace t_b38 := pv_bk q42 t_b38 (by simp)
        refine wc_block ?_
        refine wc_seq ?_
        refine wc_region ?_
        obtain ⟨x43, q44, h⟩ := h
        refine wl_val (at_load Try.underlying22 rfl rfl q44) rfl ?_
        refine wl_val (at_loadA (cs := (c29 x33.1 x33.2.1 x33.2.2.1 x33.2.2.2)) Try.underlying29 rfl (by rw [len29]; exact sz29) rfl (ldA_full t_b38)) rfl ?_
        obtain ⟨i48, i48a, i48b, i48c, i48d⟩ := info29
        refine wl_newS (ef_buildSlice (cs := (c29 x33.1 x33.2.1 x33.2.2.1 x33.2.2.2)) (ps := [(0, .agg (c29 x33.1 x33.2.1 x33.2.2.1 x33.2.2.2).toArray)]) Try.underlying22 i48a i48b rfl (by rw [i48c]; decide) (by rw [i48c]; exact fill_full (vs := [.agg (c29 x33.1 x33.2.1 x33.2.2.1 x33.2.2.2).toArray]) rfl (by simp [Value.cells]) (by simp [Value.cells, len29]) rfl (by simp))) rfl so (one29 _ _ _ _) h ?_; intro p45 w46 h r47 so
        obtain ⟨i49, i49a, i49b, i49c, i49d⟩ := info29
        refine wl_ap (fx_append (s := x43) (t := ⟨(some p45), 1, 1⟩) (m := 1) (xs := (c29 x33.1 x33.2.1 x33.2.2.1 x33.2.2.2)) Try.underlying22 Try.underlying22 i49a i49b i49c i49d rfl rfl rfl (by first | rfl | simp [len29]) r47 h) rfl so ?_; intro l50 w51 h so
        refine wl_st (v := .slice l50.a l50.n l50.c) h rfl so (fun q1 q2 => ef_store (sz := sz22) rfl rfl rfl q1 q2) ?_; intro w52 h so
        refine wl_nil ?_
        refine wk_prune [(8, .pointer (some (⟨b9, 0, none⟩ : Addr))), (12, .pointer (some (⟨b20, 0, none⟩ : Addr))), (13, .pointer (some (⟨b22, 0, none⟩ : Addr)))] ⟨rfl, rfl, rfl, trivial⟩ (fun f1 => ?_)
        refine wk_then ?_
        refine wc_seq ?_
        refine wc_region ?_
        obtain ⟨x53, q54, h⟩ := h
        refine wl_val (at_load Try.underlying22 rfl rfl q54) rfl ?_
        refine wl_val (at_lenL Try.underlying22 rfl) rfl ?_
        refine wl_val (at_eql rfl rfl) rfl ?_
        refine wl_nil ?_
        refine wk_prune [(8, .pointer (some (⟨b9, 0, none⟩ : Addr))), (13, .pointer (some (⟨b22, 0, none⟩ : Addr))), (52, .bool ((x53.n : Int) == 1))] ⟨rfl, rfl, rfl, trivial⟩ (fun f1 => ?_)
        refine wk_then ?_
        refine wc_cond rfl h (fun h => ?_) (fun h => ?_)
        · refine wc_seq ?_
          refine wc_region ?_
          obtain ⟨x55, q56, h⟩ := h
          refine wl_val (at_load Try.underlying25 rfl rfl q56) rfl ?_
          refine wl_nil ?_
          refine wk_prune [(13, .pointer (some (⟨b22, 0, none⟩ : Addr))), (53, x55)] ⟨rfl, rfl, trivial⟩ (fun f1 => ?_)
          refine wk_then ?_
          refine wc_block ?_
          refine wc_prune [(13, .pointer (some (⟨b22, 0, none⟩ : Addr))), (53, x55)] ⟨rfl, rfl, trivial⟩ (fun f1 => ?_)
          obtain ⟨p57, p58, q59, h⟩ := h
          refine wc_prune [(13, .pointer (some (⟨b22, 0, none⟩ : Addr))), (53, .func (.func 16) #[] #[.pointer (some p57), .pointer (some p58)])] ⟨rfl, q59, trivial⟩ (fun f1 => ?_)
          refine wc_rng1 (caps := [.pointer (some p57), .pointer (some p58)]) rfl enter16 so h ?_; intro r60 l68 w63 q61 q62 h so
          refine Ca.mono (cuts_Each_1.calls _ _ (yok (ps := [54]) q62 (fun _ => rfl) fun x64 w66 K65 h => ?_) _ _ w63 _ h) ?_
          · refine ⟨h.1, ?_⟩; replace h := h.2; have so := Sm.refl w66; refine wc_prune [(13, .pointer (some (⟨b22, 0, none⟩ : Addr))), (54, .agg (c29 x64.1 x64.2.1 x64.2.2.1 x64.2.2.2).toArray)] ⟨rfl, rfl, trivial⟩ (fun f1 => ?_)
            refine wc_region ?_
            refine wl_newT (T := 29) (cs := (c29 0 0 0 0)) (ef_alloc zero29 rfl) rfl so ?_; intro b69 w70 hb_b69 t_b69 k_b69 so
            have g_b69 := Nat.le_of_eq hb_b69.symm
            have hc := k_b69.ch (F := [])
            refine wl_stWT (vs := (c29 x64.1 x64.2.1 x64.2.2.1 x64.2.2.2)) t_b69 (by first | (rw [len29, len29]) | (rw [len29]) | rfl) rfl so (fun q => ef_storeA (p := (⟨b69, 0, none⟩ : Addr)) (cs := (c29 x64.1 x64.2.1 x64.2.2.1 x64.2.2.2)) (by rw [len29]; exact sz29) rfl rfl (one29 _ _ _ _) q) ?_; intro w71 t_b69 s_w71 so
            replace hc := ch_same hc s_w71 (.inr g_b69)
            refine wl_nil ?_
            replace h := h b69 _ hc g_b69 t_b69.lt; clear hc
            refine wk_prune [(13, .pointer (some (⟨b22, 0, none⟩ : Addr))), (15, .pointer (some (⟨b69, 0, none⟩ : Addr)))] ⟨rfl, rfl, trivial⟩ (fun f1 => ?_)
            refine wk_asg q61 h so ?_; intro w72 h so
            obtain ⟨q73, h⟩ := h
            replace t_b69 := pv_bk q73 t_b69 (by simp)
            refine wc_block ?_
            refine wc_region ?_
            obtain ⟨x74, q75, h⟩ := h
            refine wl_val (at_load Try.underlying22 rfl rfl q75) rfl ?_
            refine wl_val (at_loadA (cs := (c29 x64.1 x64.2.1 x64.2.2.1 x64.2.2.2)) Try.underlying29 rfl (by rw [len29]; exact sz29) rfl (ldA_full t_b69)) rfl ?_
            obtain ⟨i79, i79a, i79b, i79c, i79d⟩ := info29
            refine wl_newS (ef_buildSlice (cs := (c29 x64.1 x64.2.1 x64.2.2.1 x64.2.2.2)) (ps := [(0, .agg (c29 x64.1 x64.2.1 x64.2.2.1 x64.2.2.2).toArray)]) Try.underlying22 i79a i79b rfl (by rw [i79c]; decide) (by rw [i79c]; exact fill_full (vs := [.agg (c29 x64.1 x64.2.1 x64.2.2.1 x64.2.2.2).toArray]) rfl (by simp [Value.cells]) (by simp [Value.cells, len29]) rfl (by simp))) rfl so (one29 _ _ _ _) h ?_; intro p76 w77 h r78 so
            obtain ⟨i80, i80a, i80b, i80c, i80d⟩ := info29
            refine wl_ap (fx_append (s := x74) (t := ⟨(some p76), 1, 1⟩) (m := 1) (xs := (c29 x64.1 x64.2.1 x64.2.2.1 x64.2.2.2)) Try.underlying22 Try.underlying22 i80a i80b i80c i80d rfl rfl rfl (by first | rfl | simp [len29]) r78 h) rfl so ?_; intro l81 w82 h so
            refine wl_st (v := .slice l81.a l81.n l81.c) h rfl so (fun q1 q2 => ef_store (sz := sz22) rfl rfl rfl q1 q2) ?_; intro w83 h so
            refine wl_nil ?_
            refine wk_blkN ?_
            exact wk_rdN q61 h so
          · rintro _ w67 ⟨_, rfl, h, q84⟩; replace so := so.trans q84
            skip
            · refine rp_none q61 h so ?_; intro w85 h so
              refine wk_blkN ?_
              refine wk_blkN ?_
              exact wk_rdN q30 h so
        · refine wc_skip ?_
          refine wk_blkN ?_
          exact wk_rdN q30 h so
      · rintro _ w36 ⟨_, rfl, h, q86⟩; replace so := so.trans q86
        skip
        · refine rp_none q30 h so ?_; intro w87 h so
          refine wk_blkN ?_
          refine wk_prune [(7, .slice x3.a x3.n x3.c), (9, .pointer (some (⟨b12, 0, none⟩ : Addr))), (11, .int .i64 s18), (12, .pointer (some (⟨b20, 0, none⟩ : Addr))), (13, .pointer (some (⟨b22, 0, none⟩ : Addr)))] ⟨rfl, rfl, rfl, rfl, rfl, trivial⟩ (fun f1 => ?_)
          refine wk_then ?_
          refine wc_seq ?_
          refine wc_wo [0, 0, 0, 6, 15, 31, 63, 63, 255, 511, 1023, 2047, 2047, 8191, 16383, 32767] mixed (by kernel_rfl) so ?_; intro w88 hw so; rw [← hw] at h; clear hw
          refine wo_pure (m' := 2) 1 rfl (by kernel_rfl) rfl rfl (fun H => at_move rfl) ?_
          refine wo_pure (m' := 6) 2 rfl (by kernel_rfl) rfl rfl (fun H => at_move rfl) ?_
          obtain ⟨q89, q90, h⟩ := h
          refine wo_pure (m' := 14) 3 rfl (by kernel_rfl) rfl rfl (fun H => at_subLh (s := x3) Try.underlying22 sz29 rfl rfl q89 q90) ?_
          obtain ⟨x91, q92, h⟩ := h
          refine wo_load (m' := 15) 0 (fun H => cellAt H (⟨b12, 0, none⟩ : Addr) = some (.slice x91.a x91.n x91.c)) rfl (by kernel_rfl) rfl rfl (fun H q92 => at_load Try.underlying22 rfl rfl q92) q92 ?_
          refine wo_take (m' := 31) 4 [true] rfl (by kernel_rfl) rfl (by kernel_rfl) ?_
          refine wl_callF (mosaicref19_Same.calls _ _ _ _ h) enter9 rfl trivial so ?_; intro x93 w94 h so
          refine wl_nil ?_
          refine wk_tq trivial ?_
          refine wo_pure (m' := 63) 5 rfl (by kernel_rfl) rfl rfl (fun H => at_move rfl) ?_
          refine bif_ h (fun hb h => ?_) (fun hb h => ?_)
          · refine wo_set (t := 64) (v := .bool true) (congrArg Value.bool hb) ?_; clear hb
            refine wo_pureG (m' := 191) 7 rfl (by kernel_rfl) rfl (t := 64) rfl (by decide) rfl (fun H => at_move rfl) ?_
            obtain ⟨x95, q96, h⟩ := h
            refine wo_loadG (m' := 255) 6 (fun H => cellAt H (⟨b20, 0, none⟩ : Addr) = some (.slice x95.a x95.n x95.c)) rfl (by kernel_rfl) rfl (t := 64) rfl (by decide) rfl (fun H q96 => at_load Try.underlying22 rfl rfl q96) q96 ?_
            refine wo_take (m' := 511) 8 [true] rfl (by kernel_rfl) rfl (by kernel_rfl) ?_
            refine wl_on (t := 64) rfl (by decide) rfl ?_
            refine wl_callF (mosaicref19_Same.calls _ _ _ _ h) enter9 rfl trivial so ?_; intro x97 w98 h so
            refine wl_nil ?_
            refine wk_tq trivial ?_
            refine wo_pure (m' := 1023) 9 rfl (by kernel_rfl) rfl rfl (fun H => at_pick_t rfl rfl) ?_
            refine wo_pure (m' := 2047) 10 rfl (by kernel_rfl) rfl rfl (fun H => at_move rfl) ?_
            refine bif_ h (fun hb h => ?_) (fun hb h => ?_)
            · refine wo_set (t := 69) (v := .bool true) (congrArg Value.bool hb) ?_; clear hb
              refine wo_pureG (m' := 6143) 12 rfl (by kernel_rfl) rfl (t := 69) rfl (by decide) rfl (fun H => at_move rfl) ?_
              obtain ⟨x99, q100, h⟩ := h
              refine wo_loadG (m' := 8191) 11 (fun H => cellAt H (⟨b22, 0, none⟩ : Addr) = some (.slice x99.a x99.n x99.c)) rfl (by kernel_rfl) rfl (t := 69) rfl (by decide) rfl (fun H q100 => at_load Try.underlying22 rfl rfl q100) q100 ?_
              refine wo_take (m' := 16383) 13 [true] rfl (by kernel_rfl) rfl (by kernel_rfl) ?_
              refine wl_on (t := 69) rfl (by decide) rfl ?_
              refine wl_callF (mosaicref19_Same.calls _ _ _ _ h) enter9 rfl trivial so ?_; intro x101 w102 h so
              refine wl_nil ?_
              refine wk_tq trivial ?_
              refine wo_pure (m' := 32767) 14 rfl (by kernel_rfl) rfl rfl (fun H => at_pick_t rfl rfl) ?_
              refine wo_pure (m' := 65535) 15 rfl (by kernel_rfl) rfl rfl (fun H => at_assign rfl) ?_
              refine wo_done (by kernel_rfl) ?_
              refine wk_prune [(6, .bool x101)] ⟨rfl, trivial⟩ (fun f1 => ?_)
              refine wk_then ?_
              refine wc_ret ?_
              refine wk_tk h so ?_; intro w103 h so
              exact wk_ret1 (x := x101) rfl (by decide) rfl so h
            · refine wo_set (t := 69) (v := .bool false) (congrArg Value.bool hb) ?_; clear hb
              refine wo_off (m' := 4095) 11 rfl (by kernel_rfl) rfl (t := 69) rfl (by decide) rfl ?_
              refine wo_off (m' := 8191) 12 rfl (by kernel_rfl) rfl (t := 69) rfl (by decide) rfl ?_
              refine wo_off (m' := 16383) 13 rfl (by kernel_rfl) rfl (t := 69) rfl (by decide) rfl ?_
              refine wo_pure (m' := 32767) 14 rfl (by kernel_rfl) rfl rfl (fun H => at_pick_f rfl rfl) ?_
              refine wo_pure (m' := 65535) 15 rfl (by kernel_rfl) rfl rfl (fun H => at_assign rfl) ?_
              refine wo_done (by kernel_rfl) ?_
              refine wk_prune [(6, .bool false)] ⟨rfl, trivial⟩ (fun f1 => ?_)
              refine wk_then ?_
              refine wc_ret ?_
              refine wk_tk h so ?_; intro w104 h so
              exact wk_ret1 (x := false) rfl (by decide) rfl so h
          · refine wo_set (t := 64) (v := .bool false) (congrArg Value.bool hb) ?_; clear hb
            refine wo_off (m' := 127) 6 rfl (by kernel_rfl) rfl (t := 64) rfl (by decide) rfl ?_
            refine wo_off (m' := 255) 7 rfl (by kernel_rfl) rfl (t := 64) rfl (by decide) rfl ?_
            refine wo_off (m' := 511) 8 rfl (by kernel_rfl) rfl (t := 64) rfl (by decide) rfl ?_
            refine wo_pure (m' := 1023) 9 rfl (by kernel_rfl) rfl rfl (fun H => at_pick_f rfl rfl) ?_
            refine wo_pure (m' := 2047) 10 rfl (by kernel_rfl) rfl rfl (fun H => at_move rfl) ?_
            refine wo_off (m' := 4095) 11 rfl (by kernel_rfl) rfl (t := 69) rfl (by decide) rfl ?_
            refine wo_off (m' := 8191) 12 rfl (by kernel_rfl) rfl (t := 69) rfl (by decide) rfl ?_
            refine wo_off (m' := 16383) 13 rfl (by kernel_rfl) rfl (t := 69) rfl (by decide) rfl ?_
            refine wo_pure (m' := 32767) 14 rfl (by kernel_rfl) rfl rfl (fun H => at_pick_f rfl rfl) ?_
            refine wo_pure (m' := 65535) 15 rfl (by kernel_rfl) rfl rfl (fun H => at_assign rfl) ?_
            refine wo_done (by kernel_rfl) ?_
            refine wk_prune [(6, .bool false)] ⟨rfl, trivial⟩ (fun f1 => ?_)
            refine wk_then ?_
            refine wc_ret ?_
            refine wk_tk h so ?_; intro w105 h so
            exact wk_ret1 (x := false) rfl (by decide) rfl so h
    · intro J17 h hJ17
      refine wc_seq ?_
      refine wc_join (w0 := w0) (fun (s107 : Bool) => [(5, .pointer (some (⟨b1, 0, none⟩ : Addr))), (7, .slice x3.a x3.n x3.c), (8, .pointer (some (⟨b9, 0, none⟩ : Addr))), (9, .pointer (some (⟨b12, 0, none⟩ : Addr))), (11, .int .i64 (x3.n : Int)), (42, .bool s107)]) h ?_ ?_
      · rintro s107 w108 f1 h so; refine wk_then ?_
        refine wc_cond rfl h (fun h => ?_) (fun h => ?_)
        · refine wc_region ?_
          obtain ⟨x109, q110, h⟩ := h
          refine wl_val (at_load Try.underlying3 rfl rfl q110) rfl ?_
          refine wl_val (at_assign rfl) rfl ?_
          refine wl_nil ?_
          exact wk_prune [(7, .slice x3.a x3.n x3.c), (8, .pointer (some (⟨b9, 0, none⟩ : Addr))), (9, .pointer (some (⟨b12, 0, none⟩ : Addr))), (11, .int .i64 x109)] ⟨rfl, rfl, rfl, rfl, trivial⟩ (fun f1 => hJ17 (x109) _ f1 h so)
        · refine wc_skip ?_
          exact wk_prune [(7, .slice x3.a x3.n x3.c), (8, .pointer (some (⟨b9, 0, none⟩ : Addr))), (9, .pointer (some (⟨b12, 0, none⟩ : Addr))), (11, .int .i64 (x3.n : Int))] ⟨rfl, rfl, rfl, rfl, trivial⟩ (fun f1 => hJ17 ((x3.n : Int)) _ f1 h so)
      · intro J106 h hJ106
        refine wc_region ?_
        obtain ⟨x111, q112, h⟩ := h
        refine wl_val (at_load Try.underlying3 rfl rfl q112) rfl ?_
        refine wl_val (at_geq rfl rfl) rfl ?_
        refine wl_val (at_move rfl) rfl ?_
        refine bif_ h (fun hb h => ?_) (fun hb h => ?_)
        · refine wl_set (t := 38) (v := .bool true) (congrArg Value.bool hb) ?_; clear hb
          refine wl_on (t := 38) rfl (by decide) rfl ?_
          obtain ⟨x113, q114, h⟩ := h
          refine wl_val (at_load Try.underlying3 rfl rfl q114) rfl ?_
          refine wl_on (t := 38) rfl (by decide) rfl ?_
          refine wl_val (at_move rfl) rfl ?_
          refine wl_on (t := 38) rfl (by decide) rfl ?_
          refine wl_val (at_lss rfl rfl) rfl ?_
          refine wl_val (at_pick_t rfl rfl) rfl ?_
          refine wl_nil ?_
          exact wk_prune [(5, .pointer (some (⟨b1, 0, none⟩ : Addr))), (7, .slice x3.a x3.n x3.c), (8, .pointer (some (⟨b9, 0, none⟩ : Addr))), (9, .pointer (some (⟨b12, 0, none⟩ : Addr))), (11, .int .i64 (x3.n : Int)), (42, .bool (decide (x113 < (x3.n : Int))))] ⟨rfl, rfl, rfl, rfl, rfl, rfl, trivial⟩ (fun f1 => hJ106 ((decide (x113 < (x3.n : Int)))) _ f1 h so)
        · refine wl_set (t := 38) (v := .bool false) (congrArg Value.bool hb) ?_; clear hb
          refine wl_off (t := 38) rfl (by decide) rfl ?_
          refine wl_off (t := 38) rfl (by decide) rfl ?_
          refine wl_off (t := 38) rfl (by decide) rfl ?_
          refine wl_val (at_pick_f rfl rfl) rfl ?_
          refine wl_nil ?_
          exact wk_prune [(5, .pointer (some (⟨b1, 0, none⟩ : Addr))), (7, .slice x3.a x3.n x3.c), (8, .pointer (some (⟨b9, 0, none⟩ : Addr))), (9, .pointer (some (⟨b12, 0, none⟩ : Addr))), (11, .int .i64 (x3.n : Int)), (42, .bool false)] ⟨rfl, rfl, rfl, rfl, rfl, rfl, trivial⟩ (fun f1 => hJ106 (false) _ f1 h so)
  · intro J14 h hJ14
    refine wc_seq ?_
    refine wc_region ?_
    obtain ⟨x115, q116, h⟩ := h
    refine wl_val (at_load Try.underlying25 rfl rfl q116) rfl ?_
    refine wl_nil ?_
    refine wk_prune [(5, .pointer (some (⟨b1, 0, none⟩ : Addr))), (7, .slice x3.a x3.n x3.c), (8, .pointer (some (⟨b9, 0, none⟩ : Addr))), (9, .pointer (some (⟨b12, 0, none⟩ : Addr))), (24, x115)] ⟨rfl, rfl, rfl, rfl, rfl, trivial⟩ (fun f1 => ?_)
    refine wk_then ?_
    refine wc_block ?_
    refine wc_prune [(5, .pointer (some (⟨b1, 0, none⟩ : Addr))), (7, .slice x3.a x3.n x3.c), (8, .pointer (some (⟨b9, 0, none⟩ : Addr))), (9, .pointer (some (⟨b12, 0, none⟩ : Addr))), (24, x115)] ⟨rfl, rfl, rfl, rfl, rfl, trivial⟩ (fun f1 => ?_)
    obtain ⟨p117, p118, q119, h⟩ := h
    refine wc_prune [(5, .pointer (some (⟨b1, 0, none⟩ : Addr))), (7, .slice x3.a x3.n x3.c), (8, .pointer (some (⟨b9, 0, none⟩ : Addr))), (9, .pointer (some (⟨b12, 0, none⟩ : Addr))), (24, .func (.func 16) #[] #[.pointer (some p117), .pointer (some p118)])] ⟨rfl, rfl, rfl, rfl, q119, trivial⟩ (fun f1 => ?_)
    refine wc_rng (caps := [.pointer (some p117), .pointer (some p118)]) rfl enter16 so h ?_; intro r120 D128 w123 q121 q122 h so
    refine Ca.mono (cuts_Each_1.calls _ _ (yok (ps := [25]) q122 (fun _ => rfl) fun x124 w126 K125 h => ?_) _ _ w123 _ h) ?_
    · refine ⟨h.1, ?_⟩; replace h := h.2; have so := Sm.refl w126; refine wc_prune [(5, .pointer (some (⟨b1, 0, none⟩ : Addr))), (7, .slice x3.a x3.n x3.c), (8, .pointer (some (⟨b9, 0, none⟩ : Addr))), (9, .pointer (some (⟨b12, 0, none⟩ : Addr))), (25, .agg (c29 x124.1 x124.2.1 x124.2.2.1 x124.2.2.2).toArray)] ⟨rfl, rfl, rfl, rfl, rfl, trivial⟩ (fun f1 => ?_)
      refine wc_region ?_
      refine wl_newT (T := 29) (cs := (c29 0 0 0 0)) (ef_alloc zero29 rfl) rfl so ?_; intro b129 w130 hb_b129 t_b129 k_b129 so
      have g_b129 := Nat.le_of_eq hb_b129.symm
      have hc := k_b129.ch (F := [])
      refine wl_stWT (vs := (c29 x124.1 x124.2.1 x124.2.2.1 x124.2.2.2)) t_b129 (by first | (rw [len29, len29]) | (rw [len29]) | rfl) rfl so (fun q => ef_storeA (p := (⟨b129, 0, none⟩ : Addr)) (cs := (c29 x124.1 x124.2.1 x124.2.2.1 x124.2.2.2)) (by rw [len29]; exact sz29) rfl rfl (one29 _ _ _ _) q) ?_; intro w131 t_b129 s_w131 so
      replace hc := ch_same hc s_w131 (.inr g_b129)
      refine wl_nil ?_
      replace h := h b129 _ hc g_b129 t_b129.lt; clear hc
      refine wk_prune [(5, .pointer (some (⟨b1, 0, none⟩ : Addr))), (7, .slice x3.a x3.n x3.c), (8, .pointer (some (⟨b9, 0, none⟩ : Addr))), (9, .pointer (some (⟨b12, 0, none⟩ : Addr))), (10, .pointer (some (⟨b129, 0, none⟩ : Addr)))] ⟨rfl, rfl, rfl, rfl, rfl, trivial⟩ (fun f1 => ?_)
      refine wk_asg q121 h so ?_; intro w132 h so
      obtain ⟨q133, h⟩ := h
      replace t_b129 := pv_bk q133 t_b129 (by simp)
      refine wc_block ?_
      refine wc_seq ?_
      refine wc_seq ?_
      refine wc_region ?_
      obtain ⟨x134, q135, h⟩ := h
      refine wl_val (at_load Try.underlying22 rfl rfl q135) rfl ?_
      refine wl_val (at_lenL Try.underlying22 rfl) rfl ?_
      obtain ⟨x136, q137, h⟩ := h
      refine wl_val (at_load Try.underlying3 rfl rfl q137) rfl ?_
      refine wl_val (at_eql rfl rfl) rfl ?_
      refine wl_nil ?_
      refine wk_prune [(5, .pointer (some (⟨b1, 0, none⟩ : Addr))), (7, .slice x3.a x3.n x3.c), (8, .pointer (some (⟨b9, 0, none⟩ : Addr))), (9, .pointer (some (⟨b12, 0, none⟩ : Addr))), (10, .pointer (some (⟨b129, 0, none⟩ : Addr))), (29, .bool ((x134.n : Int) == x136))] ⟨rfl, rfl, rfl, rfl, rfl, rfl, trivial⟩ (fun f1 => ?_)
      refine wk_then ?_
      refine wc_cond rfl h (fun h => ?_) (fun h => ?_)
      · refine wc_exit ?_
        refine wk_thenE ?_
        refine wk_blkO (by decide) ?_
        exact wk_rdE h so
      · refine wc_skip ?_
        refine wk_prune [(9, .pointer (some (⟨b12, 0, none⟩ : Addr))), (10, .pointer (some (⟨b129, 0, none⟩ : Addr)))] ⟨rfl, rfl, trivial⟩ (fun f1 => ?_)
        refine wk_then ?_
        refine wc_region ?_
        obtain ⟨x138, q139, h⟩ := h
        refine wl_val (at_load Try.underlying22 rfl rfl q139) rfl ?_
        refine wl_val (at_loadA (cs := (c29 x124.1 x124.2.1 x124.2.2.1 x124.2.2.2)) Try.underlying29 rfl (by rw [len29]; exact sz29) rfl (ldA_full t_b129)) rfl ?_
        obtain ⟨i143, i143a, i143b, i143c, i143d⟩ := info29
        refine wl_newS (ef_buildSlice (cs := (c29 x124.1 x124.2.1 x124.2.2.1 x124.2.2.2)) (ps := [(0, .agg (c29 x124.1 x124.2.1 x124.2.2.1 x124.2.2.2).toArray)]) Try.underlying22 i143a i143b rfl (by rw [i143c]; decide) (by rw [i143c]; exact fill_full (vs := [.agg (c29 x124.1 x124.2.1 x124.2.2.1 x124.2.2.2).toArray]) rfl (by simp [Value.cells]) (by simp [Value.cells, len29]) rfl (by simp))) rfl so (one29 _ _ _ _) h ?_; intro p140 w141 h r142 so
        obtain ⟨i144, i144a, i144b, i144c, i144d⟩ := info29
        refine wl_ap (fx_append (s := x138) (t := ⟨(some p140), 1, 1⟩) (m := 1) (xs := (c29 x124.1 x124.2.1 x124.2.2.1 x124.2.2.2)) Try.underlying22 Try.underlying22 i144a i144b i144c i144d rfl rfl rfl (by first | rfl | simp [len29]) r142 h) rfl so ?_; intro l145 w146 h so
        refine wl_st (v := .slice l145.a l145.n l145.c) h rfl so (fun q1 q2 => ef_store (sz := sz22) rfl rfl rfl q1 q2) ?_; intro w147 h so
        refine wl_nil ?_
        refine wk_blkN ?_
        exact wk_rdN q121 h so
    · rintro _ w127 ⟨_, rfl, h, q148⟩; replace so := so.trans q148
      rcases h with h | h
      · refine rp_none q121 h so ?_; intro w149 h so
        refine wk_blkN ?_
        exact wk_prune [(5, .pointer (some (⟨b1, 0, none⟩ : Addr))), (7, .slice x3.a x3.n x3.c), (8, .pointer (some (⟨b9, 0, none⟩ : Addr))), (9, .pointer (some (⟨b12, 0, none⟩ : Addr)))] ⟨rfl, rfl, rfl, rfl, trivial⟩ (fun f1 => hJ14 ((D128 :: [])) _ f1 h so)
      · refine rp_jump h so ?_; intro w150 h so; refine wc_exit ?_
        refine wk_blkE ?_
        exact wk_prune [(5, .pointer (some (⟨b1, 0, none⟩ : Addr))), (7, .slice x3.a x3.n x3.c), (8, .pointer (some (⟨b9, 0, none⟩ : Addr))), (9, .pointer (some (⟨b12, 0, none⟩ : Addr)))] ⟨rfl, rfl, rfl, rfl, trivial⟩ (fun f1 => hJ14 ((D128 :: [])) _ f1 h so)
end Go.Proofs.Ytdcjjoihlnjpnaa.G
