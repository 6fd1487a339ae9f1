import Derived.Test.YtdcjjoihlnjpnaaKshelf
import Derived.Test.YtdcjjoihlnjpnaaKcuts
import Derived.Test.YtdcjjoihlnjpnaaKmosaiclaw19
namespace Go.Proofs.Ytdcjjoihlnjpnaa.G
open Go.RowKit
set_option linter.unusedVariables false
set_option linter.unusedSimpArgs false
/-- mosaic/mosaiclaw19.CutsMade -/
def mosaiclaw19_CutsMade.enc : Bool → Value := fun r => .bool r
def mosaiclaw19_CutsMade.s (a0 : ByteArray) (a1 : Sl) (a2_0 : ByteArray) (a2_1 : Int) (a2_2 : Int) (a3 : Int) (a4 : ByteArray) (H0 : Hp) (Q : Bool → Hp → Prop) : Prop :=
  Gn [] H0 (fun (b1 : Nat) (H2 : Hp) => mosaiclaw19_alive.s H2 (fun x3 H4 => Pv [b1] H2 H4 ∧ (∃ k6, Fix (fun (rec11 : (ByteArray × Sl × Int) → Hp → Prop) (s8 : ByteArray × Sl × Int) (H9 : Hp) => if decide (s8.2.2 < (a1.n : Int)) = true then (0 ≤ s8.2.2 ∧ s8.2.2 < (a1.n : Int) ∧ someA a1.a (fun p14 => ldI .i64 H9 ((p14.add (Int.toNat s8.2.2 * 3)).add 1) (fun x16 => Join (fun (s19 : Int) (H20 : Hp) => Gn [] H20 (fun (b21 : Nat) (H23 : Hp) => 0 ≤ s8.2.2 ∧ s8.2.2 < (a1.n : Int) ∧ (ldS H23 ((p14.add (Int.toNat s8.2.2 * 3)).add 0) (fun x26 => mosaiclaw19_stuffed.s x26 H23 (fun x28 H29 => Pv [b1, b21] H23 H29 ∧ (s8.1.size + x28.size ≤ 9223372036854775807 ∧ (Gr [b21] H29 (fun (H32 : Hp) => Join (fun (s34 : ByteArray) (H35 : Hp) => Gr [b21] H35 (fun (H36 : Hp) => nw H36 29 (c29 (s8.1.size : Int) ((s8.1 ++ x28).size : Int) (IntKind.wrap .i8 s19) (s34.size : Int)) (fun p37 H38 => Pv [b1] H36 H38 ∧ (apS H38 s8.2.1 29 4 32 z29.cells 1 (c29 (s8.1.size : Int) ((s8.1 ++ x28).size : Int) (IntKind.wrap .i8 s19) (s34.size : Int)) (fun l43 H44 => Pv [b1] H38 H44 ∧ (rec11 (s34, l43, (IntKind.wrap .i64 (s8.2.2 + 1))) H44)))))) (fun (J33 : ByteArray → Hp → Prop) => 0 ≤ s8.2.2 ∧ s8.2.2 < (a1.n : Int) ∧ (ldI .i64 H32 ((p14.add (Int.toNat s8.2.2 * 3)).add 2) (fun x49 => (mosaiclaw19_fill.s x49 H32 (fun x51 H52 => Pv [b1, b21] H32 H52 ∧ ((s8.1 ++ x28).size + x51.size ≤ 9223372036854775807 ∧ (nw H52 5 [.int .u8 255, .int .u8 (IntKind.wrap .u8 (IntKind.wrap .i64 ((208 : Int) + s19)))] (fun p55 H56 => Pv [b1, b21] H52 H56 ∧ (∃ b60 : ByteArray, 2 = b60.size ∧ rdS H56 (some p55) (byteCells b60) ∧ (((s8.1 ++ x28) ++ x51).size + b60.size ≤ 9223372036854775807 ∧ (J33 ((((s8.1 ++ x28) ++ x51) ++ b60)) H56)))))))) ∧ (nw H32 5 [.int .u8 255, .int .u8 (IntKind.wrap .u8 (IntKind.wrap .i64 ((208 : Int) + s19)))] (fun p64 H65 => Pv [b1, b21] H32 H65 ∧ (cellAt H65 ((p14.add (Int.toNat s8.2.2 * 3)).add 2) = some (.int .i64 x49) ∧ (∃ b70 : ByteArray, 2 = b70.size ∧ rdS H65 (some p64) (byteCells b70) ∧ (mosaiclaw19_fill.s x49 H65 (fun x73 H74 => Pv [b1, b21] H65 H74 ∧ (rdS H74 (some p64) (byteCells b70) ∧ ((s8.1 ++ x28).size + x73.size ≤ 9223372036854775807 ∧ (((s8.1 ++ x28) ++ x73).size + b70.size ≤ 9223372036854775807 ∧ (J33 ((((s8.1 ++ x28) ++ x73) ++ b70)) H74))))))))))))))))))))) (fun (J18 : Int → Hp → Prop) => if decide ((Int.tmod x16 8) < 0) = true then (J18 ((IntKind.wrap .i64 ((Int.tmod x16 8) + 8))) H9) else (J18 ((Int.tmod x16 8)) H9))))) else (Gn [] H9 (fun (b79 : Nat) (H81 : Hp) => mosaiclaw19_stuffed.s a2_0 H81 (fun x82 H83 => Pv [b1, b79] H81 H83 ∧ (s8.1.size + x82.size ≤ 9223372036854775807 ∧ (Gr [b79] H83 (fun (H86 : Hp) => mosaiclaw19_fill.s a2_2 H86 (fun x87 H88 => Pv [b79] H86 H88 ∧ ((s8.1 ++ x82).size + x87.size ≤ 9223372036854775807 ∧ (Bk H88 b79 29 (c29 (s8.1.size : Int) ((s8.1 ++ x82).size : Int) (-2) 0) → (Join (fun (s92 : ByteArray) (H93 : Hp) => ∃ x94 : Int, ∃ x95 : Int, ∃ x96 : Int, ∃ x97 : Int, ldA H93 (⟨b79, 0, none⟩ : Addr) (c29 x94 x95 x96 x97) ∧ (nw H93 29 (c29 x94 x95 x96 x97) (fun p99 H100 => apS H100 s8.2.1 29 4 32 z29.cells 1 (c29 x94 x95 x96 x97) (fun l104 H105 => cuts_Pieces.s s92 (a0.size : Int) (l104.n : Int) H105 (fun x106 H107 => cuts_Pieces.s s92 (a0.size : Int) (IntKind.wrap .i64 ((l104.n : Int) - 1)) H107 (fun x108 H109 => Join (fun (s111 : Bool) (H112 : Hp) => if s111 = true then (Q false H112) else (∃ k113, Fix (fun (rec118 : Int → Hp → Prop) (s115 : Int) (H116 : Hp) => if decide (s115 < (l104.n : Int)) = true then (0 ≤ s115 ∧ s115 < (x106.1.n : Int) ∧ someA x106.1.a (fun p121 => ∃ x123 : Int, ∃ x124 : Int, ∃ x125 : Int, ∃ x126 : Int, ldA H116 (p121.add (Int.toNat s115 * 4)) (c29 x123 x124 x125 x126) ∧ (0 ≤ s115 ∧ s115 < (l104.n : Int) ∧ someA l104.a (fun p130 => ∃ x132 : Int, ∃ x133 : Int, ∃ x134 : Int, ∃ x135 : Int, ldA H116 (p130.add (Int.toNat s115 * 4)) (c29 x132 x133 x134 x135) ∧ (if (!((x123 == x132) && ((x124 == x133) && ((x125 == x134) && (x126 == x135))))) = true then (Q false H116) else (rec118 ((IntKind.wrap .i64 (s115 + 1))) H116)))))) else (Q true H116)) k113 (0) H112)) (fun (J110 : Bool → Hp → Prop) => if (!x3) = true then (J110 (true) H109) else (if (x106.2.2 != 0) = true then (J110 (true) H109) else (ldI .i64 H109 (⟨b79, 3, none⟩ : Addr) (fun x138 => if (x106.2.1 != x138) = true then (J110 (true) H109) else (if ((x106.1.n : Int) != (l104.n : Int)) = true then (J110 (true) H109) else (if (x108.2.2 != 5) = true then (J110 (true) H109) else (if ((x108.1.n : Int) != 0) = true then (J110 (true) H109) else (J110 ((x108.2.1 != 0)) H109)))))))))))))) (fun (J91 : ByteArray → Hp → Prop) => Join (fun (s141 : Bool) (H142 : Hp) => if s141 = true then (st H142 (⟨b79, 2, none⟩ : Addr) (.int .i8 (-1)) (fun H143 => st H143 (⟨b79, 3, none⟩ : Addr) (.int .i64 (((s8.1 ++ x82) ++ x87).size : Int)) (fun H144 => nw H144 5 [.int .u8 255, .int .u8 a3] (fun p145 H146 => ∃ b149 : ByteArray, 2 = b149.size ∧ rdS H146 (some p145) (byteCells b149) ∧ (((s8.1 ++ x82) ++ x87).size + b149.size ≤ 9223372036854775807 ∧ ((((s8.1 ++ x82) ++ x87) ++ b149).size + a4.size ≤ 9223372036854775807 ∧ (J91 (((((s8.1 ++ x82) ++ x87) ++ b149) ++ a4)) H146))))))) else (st H142 (⟨b79, 3, none⟩ : Addr) (.int .i64 (((s8.1 ++ x82) ++ x87).size : Int)) (fun H154 => J91 (((s8.1 ++ x82) ++ x87)) H154))) (fun (J140 : Bool → Hp → Prop) => if (a3 != 0) = true then (if (a3 != 255) = true then (if decide (a3 < 208) = true then (J140 (true) H88) else (J140 ((decide ((215 : Int) < a3))) H88)) else (J140 (false) H88)) else (J140 (false) H88)))))))))))))) k6 (a0, ⟨none, 0, 0⟩, 0) H4)))
set_option maxRecDepth 20000 in
set_option maxHeartbeats 4000000 in
theorem mosaiclaw19_CutsMade.calls (a0 : ByteArray) (a1 : Sl) (a2_0 : ByteArray) (a2_1 : Int) (a2_2 : Int) (a3 : Int) (a4 : ByteArray) (w0 : World) (Q : Bool → Hp → Prop) (h : mosaiclaw19_CutsMade.s a0 a1 a2_0 a2_1 a2_2 a3 a4 w0.heap Q) :
    Ca Try.prog 5 #[.string a0, .slice a1.a a1.n a1.c, .agg (c40 a2_0 a2_1 a2_2).toArray, .int .u8 a3, .string a4] w0 (Rt mosaiclaw19_CutsMade.enc Q w0) := by
  refine ca_start (c := _) Try.func5 rfl Try.ntmps5 rfl ?_
  have so : Sm w0 w0 := Sm.refl w0
  unfold mosaiclaw19_CutsMade.s at h
  refine wc_prune [(0, .string a0), (1, .slice a1.a a1.n a1.c), (2, .agg (c40 a2_0 a2_1 a2_2).toArray), (3, .int .u8 a3), (4, .string a4)] ⟨rfl, rfl, rfl, rfl, rfl, trivial⟩ (fun f1 => ?_)
  refine wc_seq ?_
  refine wc_region ?_
  refine wl_newT (T := 40) (cs := (c40 a2_0 a2_1 a2_2)) (ef_box rfl rfl) rfl so ?_; intro b1 w2 hb_b1 t_b1 k_b1 so
  have g_b1 := Nat.le_of_eq hb_b1.symm
  have hc := k_b1.ch (F := [])
  refine wl_val (at_assign rfl) rfl ?_
  refine wl_nil ?_
  refine wk_prune [(0, .string a0), (1, .slice a1.a a1.n a1.c), (3, .int .u8 a3), (4, .string a4), (7, .pointer (some (⟨b1, 0, none⟩ : Addr)))] ⟨rfl, rfl, rfl, rfl, rfl, trivial⟩ (fun f1 => ?_)
  refine wk_then ?_
  refine wc_seq ?_
  refine wc_region ?_
  replace h := h b1 _ hc g_b1 t_b1.lt; clear hc
  refine wl_callF (mosaiclaw19_alive.calls _ _ h) enter13 rfl trivial so ?_; intro x3 w4 h so
  obtain ⟨q5, h⟩ := h
  replace t_b1 := pv_bk q5 t_b1 (by simp)
  refine wl_val (at_assign rfl) rfl ?_
  refine wl_nil ?_
  refine wk_prune [(0, .string a0), (1, .slice a1.a a1.n a1.c), (3, .int .u8 a3), (4, .string a4), (7, .pointer (some (⟨b1, 0, none⟩ : Addr))), (11, .bool x3)] ⟨rfl, rfl, rfl, rfl, rfl, rfl, trivial⟩ (fun f1 => ?_)
  refine wk_then ?_
  refine wc_seq ?_
  refine wc_region ?_
  refine wl_val (at_move rfl) rfl ?_
  refine wl_val (at_assign rfl) rfl ?_
  refine wl_nil ?_
  refine wk_prune [(0, .string a0), (1, .slice a1.a a1.n a1.c), (3, .int .u8 a3), (4, .string a4), (7, .pointer (some (⟨b1, 0, none⟩ : Addr))), (11, .bool x3), (12, .string a0)] ⟨rfl, rfl, rfl, rfl, rfl, rfl, rfl, trivial⟩ (fun f1 => ?_)
  refine wk_then ?_
  refine wc_seq ?_
  refine wc_region ?_
  refine wl_val (at_assign rfl) rfl ?_
  refine wl_nil ?_
  refine wk_prune [(0, .string a0), (1, .slice a1.a a1.n a1.c), (3, .int .u8 a3), (4, .string a4), (7, .pointer (some (⟨b1, 0, none⟩ : Addr))), (11, .bool x3), (12, .string a0), (13, .slice none 0 0)] ⟨rfl, rfl, rfl, rfl, rfl, rfl, rfl, rfl, trivial⟩ (fun f1 => ?_)
  refine wk_then ?_
  refine wc_seq ?_
  refine wc_seq ?_
  refine wc_region ?_
  refine wl_val (at_assign rfl) rfl ?_
  refine wl_nil ?_
  refine wk_prune [(0, .string a0), (1, .slice a1.a a1.n a1.c), (3, .int .u8 a3), (4, .string a4), (7, .pointer (some (⟨b1, 0, none⟩ : Addr))), (11, .bool x3), (12, .string a0), (13, .slice none 0 0), (14, .int .i64 0)] ⟨rfl, rfl, rfl, rfl, rfl, rfl, rfl, rfl, rfl, trivial⟩ (fun f1 => ?_)
  refine wk_then ?_
  refine wc_block ?_
  obtain ⟨k6, h⟩ := h
  refine wc_loop (fun k a w => ∃ (s8 : ByteArray × Sl × Int) (f1 : Nat → Value), a = ac 196 (en f1 [(0, .string a0), (1, .slice a1.a a1.n a1.c), (3, .int .u8 a3), (4, .string a4), (7, .pointer (some (⟨b1, 0, none⟩ : Addr))), (11, .bool x3), (12, .string s8.1), (13, .slice s8.2.1.a s8.2.1.n s8.2.1.c), (14, .int .i64 s8.2.2)]) [] ∧ Sm w0 w ∧ (Bk w.heap b1 40 (c40 a2_0 a2_1 a2_2) ∧ True) ∧ Fix _ k s8 w.heap) k6 ⟨(a0, ⟨none, 0, 0⟩, 0), _, ac_again ⟨rfl, rfl, rfl, rfl, rfl, rfl, rfl, rfl, rfl, trivial⟩, so, ⟨t_b1, trivial⟩, h⟩ ?_
  rintro k7 a10 w9 ⟨s8, f1, rfl, so, ⟨t_b1, _⟩, h⟩
  rcases k7 with _ | k7
  · exact h.elim
  replace h := Fix.un h; refine wc_in ?_
  refine wc_seq ?_
  refine wc_seq ?_
  refine wc_region ?_
  refine wl_val (at_move rfl) rfl ?_
  refine wl_val (at_move rfl) rfl ?_
  refine wl_val (at_lenL Try.underlying38 rfl) rfl ?_
  refine wl_val (at_lss rfl rfl) rfl ?_
  refine wl_nil ?_
  refine wk_prune [(0, .string a0), (1, .slice a1.a a1.n a1.c), (3, .int .u8 a3), (4, .string a4), (7, .pointer (some (⟨b1, 0, none⟩ : Addr))), (11, .bool x3), (12, .string s8.1), (13, .slice s8.2.1.a s8.2.1.n s8.2.1.c), (14, .int .i64 s8.2.2), (30, .bool (decide (s8.2.2 < (a1.n : Int))))] ⟨rfl, rfl, rfl, rfl, rfl, rfl, rfl, rfl, rfl, rfl, trivial⟩ (fun f1 => ?_)
  refine wk_then ?_
  refine wc_cond rfl h (fun h => ?_) (fun h => ?_)
  · refine wc_skip ?_
    refine wk_prune [(0, .string a0), (1, .slice a1.a a1.n a1.c), (3, .int .u8 a3), (4, .string a4), (7, .pointer (some (⟨b1, 0, none⟩ : Addr))), (11, .bool x3), (12, .string s8.1), (13, .slice s8.2.1.a s8.2.1.n s8.2.1.c), (14, .int .i64 s8.2.2)] ⟨rfl, rfl, rfl, rfl, rfl, rfl, rfl, rfl, rfl, trivial⟩ (fun f1 => ?_)
    refine wk_then ?_
    refine wc_seq ?_
    refine wc_block ?_
    refine wc_seq ?_
    refine wc_region ?_
    refine wl_val (at_move rfl) rfl ?_
    refine wl_val (at_move rfl) rfl ?_
    obtain ⟨q12, q13, p14, q15, h⟩ := h
    refine wl_val (at_ixAddrL Try.underlying38 sz40 (sl_some q15) rfl q12 q13) rfl ?_
    refine wl_val (at_fieldAddr Try.underlying40 rfl rfl sz3 (by decide) rfl) rfl ?_
    obtain ⟨x16, q17, h⟩ := h
    refine wl_val (at_load Try.underlying3 rfl rfl q17) rfl ?_
    refine wl_val (at_rem rfl rfl (by decide)) rfl ?_
    refine wl_val (at_assign rfl) rfl ?_
    refine wl_nil ?_
    refine wk_prune [(0, .string a0), (1, .slice a1.a a1.n a1.c), (3, .int .u8 a3), (4, .string a4), (7, .pointer (some (⟨b1, 0, none⟩ : Addr))), (11, .bool x3), (12, .string s8.1), (13, .slice s8.2.1.a s8.2.1.n s8.2.1.c), (14, .int .i64 s8.2.2), (15, .int .i64 (Int.tmod x16 8))] ⟨rfl, rfl, rfl, rfl, rfl, rfl, rfl, rfl, rfl, rfl, trivial⟩ (fun f1 => ?_)
    refine wk_then ?_
    refine wc_seq ?_
    refine wc_joinG (w0 := w0) (fun (H : Hp) => Bk H b1 40 (c40 a2_0 a2_1 a2_2) ∧ True) (fun (s19 : Int) => [(0, .string a0), (1, .slice a1.a a1.n a1.c), (3, .int .u8 a3), (4, .string a4), (7, .pointer (some (⟨b1, 0, none⟩ : Addr))), (11, .bool x3), (12, .string s8.1), (13, .slice s8.2.1.a s8.2.1.n s8.2.1.c), (14, .int .i64 s8.2.2), (15, .int .i64 s19)]) (fun (s19 : Int) => []) h ?_ ?_
    · rintro s19 w20 f1 h ⟨t_b1, _⟩ so; refine wk_then ?_
      refine wc_seq ?_
      refine wc_region ?_
      refine wl_val (at_move rfl) rfl ?_
      refine wl_val (at_lenS Try.underlying9 rfl) rfl ?_
      refine wl_val (at_move rfl) rfl ?_
      refine wl_val (at_conv Try.underlying3 Try.underlying27 rfl) rfl ?_
      refine wl_val (at_build (cs := (c29 (s8.1.size : Int) 0 (IntKind.wrap .i8 s19) 0)) (ps := [(0, .int .i64 (s8.1.size : Int)), (2, .int .i8 (IntKind.wrap .i8 s19))]) rfl (fun w => by simp [Instr.build, Instr.fill, go_sem, Try.underlying29, z29])) rfl ?_
      refine wl_newT (T := 29) (cs := (c29 0 0 0 0)) (ef_alloc zero29 rfl) rfl so ?_; intro b21 w22 hb_b21 t_b21 k_b21 so
      have g_b21 := Nat.le_of_eq hb_b21.symm
      have hc := k_b21.ch (F := [])
      have n_b1_b21 : b1 ≠ b21 := fun e => by have := t_b1.lt; omega
      replace t_b1 := t_b1.keep k_b21
      refine wl_stWT (vs := (c29 (s8.1.size : Int) 0 (IntKind.wrap .i8 s19) 0)) t_b21 (by first | (rw [len29, len29]) | (rw [len29]) | rfl) rfl so (fun q => ef_storeA (p := (⟨b21, 0, none⟩ : Addr)) (cs := (c29 (s8.1.size : Int) 0 (IntKind.wrap .i8 s19) 0)) (by rw [len29]; exact sz29) rfl rfl (one29 _ _ _ _) q) ?_; intro w23 t_b21 s_w23 so
      replace t_b1 := t_b1.same s_w23 (n_b1_b21)
      replace hc := ch_same hc s_w23 (.inr g_b21)
      refine wl_nil ?_
      refine wk_prune [(0, .string a0), (1, .slice a1.a a1.n a1.c), (3, .int .u8 a3), (4, .string a4), (7, .pointer (some (⟨b1, 0, none⟩ : Addr))), (11, .bool x3), (12, .string s8.1), (13, .slice s8.2.1.a s8.2.1.n s8.2.1.c), (14, .int .i64 s8.2.2), (15, .int .i64 s19), (16, .pointer (some (⟨b21, 0, none⟩ : Addr)))] ⟨rfl, rfl, rfl, rfl, rfl, rfl, rfl, rfl, rfl, rfl, rfl, trivial⟩ (fun f1 => ?_)
      refine wk_then ?_
      refine wc_seq ?_
      refine wc_region ?_
      refine wl_val (at_move rfl) rfl ?_
      refine wl_val (at_move rfl) rfl ?_
      refine wl_val (at_move rfl) rfl ?_
      replace h := h b21 _ hc g_b21 t_b21.lt; clear hc
      obtain ⟨q24, q25, h⟩ := h
      refine wl_val (at_ixAddrL Try.underlying38 sz40 (sl_some q15) rfl q24 q25) rfl ?_
      refine wl_val (at_fieldAddr Try.underlying40 rfl rfl sz9 (by decide) rfl) rfl ?_
      obtain ⟨x26, q27, h⟩ := h
      refine wl_val (at_load Try.underlying9 rfl rfl q27) rfl ?_
      refine wl_callF (mosaiclaw19_stuffed.calls _ _ _ h) enter14 rfl trivial so ?_; intro x28 w29 h so
      obtain ⟨q30, h⟩ := h
      replace t_b1 := pv_bk q30 t_b1 (by simp)
      replace t_b21 := pv_bk q30 t_b21 (by simp)
      obtain ⟨q31, h⟩ := h
      refine wl_val (at_cat rfl rfl q31) rfl ?_
      refine wl_val (at_assign rfl) rfl ?_
      refine wl_nil ?_
      refine wk_prune [(0, .string a0), (1, .slice a1.a a1.n a1.c), (3, .int .u8 a3), (4, .string a4), (7, .pointer (some (⟨b1, 0, none⟩ : Addr))), (11, .bool x3), (12, .string (s8.1 ++ x28)), (13, .slice s8.2.1.a s8.2.1.n s8.2.1.c), (14, .int .i64 s8.2.2), (15, .int .i64 s19), (16, .pointer (some (⟨b21, 0, none⟩ : Addr)))] ⟨rfl, rfl, rfl, rfl, rfl, rfl, rfl, rfl, rfl, rfl, rfl, trivial⟩ (fun f1 => ?_)
      refine wk_then ?_
      refine wc_seq ?_
      refine wc_region ?_
      refine wl_val (at_move rfl) rfl ?_
      refine wl_val (at_lenS Try.underlying9 rfl) rfl ?_
      refine wl_val (at_fieldAddr Try.underlying29 rfl rfl sz3 (by decide) rfl) rfl ?_
      refine wl_stT (v := .int .i64 ((s8.1 ++ x28).size : Int)) (cs' := (c29 (s8.1.size : Int) ((s8.1 ++ x28).size : Int) (IntKind.wrap .i8 s19) 0)) t_b21 (by first | decide | simp [ints_len, bools_len]) (by first | rfl | simp [List.set_append, ints_len, bools_len]) rfl so (fun q1 q2 => ef_store (sz := sz3) rfl rfl rfl q1 q2) ?_; intro w32 t_b21 s_w32 so
      replace t_b1 := t_b1.same s_w32 (n_b1_b21)
      have hc := s_w32.ch
      refine wl_nil ?_
      refine wk_prune [(0, .string a0), (1, .slice a1.a a1.n a1.c), (3, .int .u8 a3), (4, .string a4), (7, .pointer (some (⟨b1, 0, none⟩ : Addr))), (11, .bool x3), (12, .string (s8.1 ++ x28)), (13, .slice s8.2.1.a s8.2.1.n s8.2.1.c), (14, .int .i64 s8.2.2), (15, .int .i64 s19), (16, .pointer (some (⟨b21, 0, none⟩ : Addr)))] ⟨rfl, rfl, rfl, rfl, rfl, rfl, rfl, rfl, rfl, rfl, rfl, trivial⟩ (fun f1 => ?_)
      refine wk_then ?_
      replace h := h _ hc; clear hc
      refine wc_seq ?_
      refine wc_joinG (w0 := w0) (fun (H : Hp) => Bk H b1 40 (c40 a2_0 a2_1 a2_2) ∧ Bk H b21 29 (c29 (s8.1.size : Int) ((s8.1 ++ x28).size : Int) (IntKind.wrap .i8 s19) 0) ∧ True) (fun (s34 : ByteArray) => [(0, .string a0), (1, .slice a1.a a1.n a1.c), (3, .int .u8 a3), (4, .string a4), (7, .pointer (some (⟨b1, 0, none⟩ : Addr))), (11, .bool x3), (12, .string s34), (13, .slice s8.2.1.a s8.2.1.n s8.2.1.c), (14, .int .i64 s8.2.2), (16, .pointer (some (⟨b21, 0, none⟩ : Addr)))]) (fun (s34 : ByteArray) => []) h ?_ ?_
      · rintro s34 w35 f1 h ⟨t_b1, t_b21, _⟩ so; refine wk_then ?_
        refine wc_seq ?_
        refine wc_region ?_
        refine wl_val (at_move rfl) rfl ?_
        refine wl_val (at_lenS Try.underlying9 rfl) rfl ?_
        refine wl_val (at_fieldAddr Try.underlying29 rfl rfl sz3 (by decide) rfl) rfl ?_
        refine wl_stT (v := .int .i64 (s34.size : Int)) (cs' := (c29 (s8.1.size : Int) ((s8.1 ++ x28).size : Int) (IntKind.wrap .i8 s19) (s34.size : Int))) t_b21 (by first | decide | simp [ints_len, bools_len]) (by first | rfl | simp [List.set_append, ints_len, bools_len]) rfl so (fun q1 q2 => ef_store (sz := sz3) rfl rfl rfl q1 q2) ?_; intro w36 t_b21 s_w36 so
        replace t_b1 := t_b1.same s_w36 (n_b1_b21)
        have hc := s_w36.ch
        refine wl_nil ?_
        refine wk_prune [(0, .string a0), (1, .slice a1.a a1.n a1.c), (3, .int .u8 a3), (4, .string a4), (7, .pointer (some (⟨b1, 0, none⟩ : Addr))), (11, .bool x3), (12, .string s34), (13, .slice s8.2.1.a s8.2.1.n s8.2.1.c), (14, .int .i64 s8.2.2), (16, .pointer (some (⟨b21, 0, none⟩ : Addr)))] ⟨rfl, rfl, rfl, rfl, rfl, rfl, rfl, rfl, rfl, rfl, trivial⟩ (fun f1 => ?_)
        refine wk_then ?_
        refine wc_region ?_
        refine wl_val (at_move rfl) rfl ?_
        refine wl_val (at_loadA (cs := (c29 (s8.1.size : Int) ((s8.1 ++ x28).size : Int) (IntKind.wrap .i8 s19) (s34.size : Int))) Try.underlying29 rfl (by rw [len29]; exact sz29) rfl (ldA_full t_b21)) rfl ?_
        obtain ⟨i40, i40a, i40b, i40c, i40d⟩ := info29
        replace h := h _ hc; clear hc
        refine wl_newS (ef_buildSlice (cs := (c29 (s8.1.size : Int) ((s8.1 ++ x28).size : Int) (IntKind.wrap .i8 s19) (s34.size : Int))) (ps := [(0, .agg (c29 (s8.1.size : Int) ((s8.1 ++ x28).size : Int) (IntKind.wrap .i8 s19) (s34.size : Int)).toArray)]) Try.underlying22 i40a i40b rfl (by rw [i40c]; decide) (by rw [i40c]; exact fill_full (vs := [.agg (c29 (s8.1.size : Int) ((s8.1 ++ x28).size : Int) (IntKind.wrap .i8 s19) (s34.size : Int)).toArray]) rfl (by simp [Value.cells]) (by simp [Value.cells, len29]) rfl (by simp))) rfl so (one29 _ _ _ _) h ?_; intro p37 w38 h r39 so
        obtain ⟨q41, h⟩ := h
        replace t_b1 := pv_bk q41 t_b1 (by simp)
        obtain ⟨i42, i42a, i42b, i42c, i42d⟩ := info29
        refine wl_ap (fx_append (s := s8.2.1) (t := ⟨(some p37), 1, 1⟩) (m := 1) (xs := (c29 (s8.1.size : Int) ((s8.1 ++ x28).size : Int) (IntKind.wrap .i8 s19) (s34.size : Int))) Try.underlying22 Try.underlying22 i42a i42b i42c i42d rfl rfl rfl (by first | rfl | simp [len29]) r39 h) rfl so ?_; intro l43 w44 h so
        obtain ⟨q45, h⟩ := h
        replace t_b1 := pv_bk q45 t_b1 (by simp)
        refine wl_val (at_assign rfl) rfl ?_
        refine wl_nil ?_
        refine wk_blkN ?_
        refine wk_prune [(0, .string a0), (1, .slice a1.a a1.n a1.c), (3, .int .u8 a3), (4, .string a4), (7, .pointer (some (⟨b1, 0, none⟩ : Addr))), (11, .bool x3), (12, .string s34), (13, .slice l43.a l43.n l43.c), (14, .int .i64 s8.2.2)] ⟨rfl, rfl, rfl, rfl, rfl, rfl, rfl, rfl, rfl, trivial⟩ (fun f1 => ?_)
        refine wk_then ?_
        refine wc_region ?_
        refine wl_val (at_move rfl) rfl ?_
        refine wl_val (at_add rfl rfl) rfl ?_
        refine wl_val (at_assign rfl) rfl ?_
        refine wl_nil ?_
        exact wk_again ⟨(s34, l43, (IntKind.wrap .i64 (s8.2.2 + 1))), _, ac_again ⟨rfl, rfl, rfl, rfl, rfl, rfl, rfl, rfl, rfl, trivial⟩, so, ⟨t_b1, trivial⟩, h⟩
      · intro J33 h hJ33
        refine wc_wo [0, 0, 0, 6, 14, 30, 62, 127, 0, 256, 768, 1792, 3840, 8191, 16383] mixed (by kernel_rfl) so ?_; intro w46 hw so; rw [← hw] at h t_b1 t_b21; clear hw
        refine wo_pure (m' := 1) 0 rfl (by kernel_rfl) rfl rfl (fun H => at_move rfl) ?_
        refine wo_pure (m' := 3) 1 rfl (by kernel_rfl) rfl rfl (fun H => at_move rfl) ?_
        refine wo_pure (m' := 7) 2 rfl (by kernel_rfl) rfl rfl (fun H => at_move rfl) ?_
        obtain ⟨q47, q48, h⟩ := h
        refine wo_pure (m' := 15) 3 rfl (by kernel_rfl) rfl rfl (fun H => at_ixAddrL Try.underlying38 sz40 (sl_some q15) rfl q47 q48) ?_
        refine wo_pure (m' := 31) 4 rfl (by kernel_rfl) rfl rfl (fun H => at_fieldAddr Try.underlying40 rfl rfl sz3 (by decide) rfl) ?_
        refine wo_pure (m' := 287) 8 rfl (by kernel_rfl) rfl rfl (fun H => at_move rfl) ?_
        refine wo_pure (m' := 799) 9 rfl (by kernel_rfl) rfl rfl (fun H => at_add rfl rfl) ?_
        refine wo_pure (m' := 1823) 10 rfl (by kernel_rfl) rfl rfl (fun H => at_conv Try.underlying3 Try.underlying5 rfl) ?_
        obtain ⟨x49, q50, h⟩ := h
        refine wo_load (m' := 1855) 5 (fun H => cellAt H ((p14.add (Int.toNat s8.2.2 * 3)).add 2) = some (.int .i64 x49)) rfl (by kernel_rfl) rfl rfl (fun H q50 => at_load Try.underlying3 rfl rfl q50) q50 ?_
        refine wo_two (m1 := 1919) (m2 := 3903) 6 11 [true] [false] rfl rfl (by kernel_rfl) rfl rfl (by kernel_rfl) (by kernel_rfl) ?_ ?_
        · replace h := h.1; refine wl_callF (mosaiclaw19_fill.calls _ _ _ h) enter15 rfl trivial so ?_; intro x51 w52 h so
          obtain ⟨q53, h⟩ := h
          replace t_b1 := pv_bk q53 t_b1 (by simp)
          replace t_b21 := pv_bk q53 t_b21 (by simp)
          refine wl_nil ?_
          refine wk_tq trivial ?_
          obtain ⟨q54, h⟩ := h
          refine wo_pure (m' := 2047) 7 rfl (by kernel_rfl) rfl rfl (fun H => at_cat rfl rfl q54) ?_
          refine wo_take (m' := 4095) 11 [] rfl (by kernel_rfl) rfl (by kernel_rfl) ?_
          obtain ⟨i58, i58a, i58b, i58c, i58d⟩ := info5
          refine wl_newS (ef_buildSlice (cs := [.int .u8 255, .int .u8 (IntKind.wrap .u8 (IntKind.wrap .i64 ((208 : Int) + s19)))]) (ps := [(0, .int .u8 255), (1, .int .u8 (IntKind.wrap .u8 (IntKind.wrap .i64 ((208 : Int) + s19))))]) Try.underlying44 i58a i58b rfl (by rw [i58c]; decide) (by rw [i58c]; exact fill_full (vs := [.int .u8 255, .int .u8 (IntKind.wrap .u8 (IntKind.wrap .i64 ((208 : Int) + s19)))]) rfl (by simp [Value.cells]) (by simp [Value.cells]) rfl (by simp))) rfl so (ones_cons rfl (ones_cons rfl ones_nil)) h ?_; intro p55 w56 h r57 so
          obtain ⟨q59, h⟩ := h
          replace t_b1 := pv_bk q59 t_b1 (by simp)
          replace t_b21 := pv_bk q59 t_b21 (by simp)
          refine wl_nil ?_
          refine wk_tq trivial ?_
          obtain ⟨b60, q61, q62, h⟩ := h
          refine wo_load (m' := 8191) 12 (fun H => rdS H (some p55) (byteCells b60)) rfl (by kernel_rfl) rfl rfl (fun H q62 => at_str (s := ⟨(some p55), 2, 2⟩) Try.underlying44 Try.underlying9 Try.underlying5 rfl q61 q62) q62 ?_
          obtain ⟨q63, h⟩ := h
          refine wo_pure (m' := 16383) 13 rfl (by kernel_rfl) rfl rfl (fun H => at_cat rfl rfl q63) ?_
          refine wo_pure (m' := 32767) 14 rfl (by kernel_rfl) rfl rfl (fun H => at_assign rfl) ?_
          refine wo_done (by kernel_rfl) ?_
          exact wk_prune [(0, .string a0), (1, .slice a1.a a1.n a1.c), (3, .int .u8 a3), (4, .string a4), (7, .pointer (some (⟨b1, 0, none⟩ : Addr))), (11, .bool x3), (12, .string (((s8.1 ++ x28) ++ x51) ++ b60)), (13, .slice s8.2.1.a s8.2.1.n s8.2.1.c), (14, .int .i64 s8.2.2), (16, .pointer (some (⟨b21, 0, none⟩ : Addr)))] ⟨rfl, rfl, rfl, rfl, rfl, rfl, rfl, rfl, rfl, rfl, trivial⟩ (fun f1 => hJ33 ((((s8.1 ++ x28) ++ x51) ++ b60)) _ f1 h ⟨t_b1, t_b21, trivial⟩ so)
        · replace h := h.2; obtain ⟨i67, i67a, i67b, i67c, i67d⟩ := info5
          refine wl_newS (ef_buildSlice (cs := [.int .u8 255, .int .u8 (IntKind.wrap .u8 (IntKind.wrap .i64 ((208 : Int) + s19)))]) (ps := [(0, .int .u8 255), (1, .int .u8 (IntKind.wrap .u8 (IntKind.wrap .i64 ((208 : Int) + s19))))]) Try.underlying44 i67a i67b rfl (by rw [i67c]; decide) (by rw [i67c]; exact fill_full (vs := [.int .u8 255, .int .u8 (IntKind.wrap .u8 (IntKind.wrap .i64 ((208 : Int) + s19)))]) rfl (by simp [Value.cells]) (by simp [Value.cells]) rfl (by simp))) rfl so (ones_cons rfl (ones_cons rfl ones_nil)) h ?_; intro p64 w65 h r66 so
          obtain ⟨q68, h⟩ := h
          replace t_b1 := pv_bk q68 t_b1 (by simp)
          replace t_b21 := pv_bk q68 t_b21 (by simp)
          refine wl_nil ?_
          obtain ⟨q69, h⟩ := h
          refine wk_tq ⟨q69, trivial⟩ ?_
          obtain ⟨b70, q71, q72, h⟩ := h
          refine wo_load (m' := 7999) 12 (fun H => rdS H (some p64) (byteCells b70)) rfl (by kernel_rfl) rfl rfl (fun H q72 => at_str (s := ⟨(some p64), 2, 2⟩) Try.underlying44 Try.underlying9 Try.underlying5 rfl q71 q72) q72 ?_
          refine wo_take (m' := 8063) 6 [false, true] rfl (by kernel_rfl) rfl (by kernel_rfl) ?_
          refine wl_callF (mosaiclaw19_fill.calls _ _ _ h) enter15 rfl trivial so ?_; intro x73 w74 h so
          obtain ⟨q75, h⟩ := h
          replace t_b1 := pv_bk q75 t_b1 (by simp)
          replace t_b21 := pv_bk q75 t_b21 (by simp)
          refine wl_nil ?_
          obtain ⟨q76, h⟩ := h
          refine wk_tq ⟨q76, trivial⟩ ?_
          obtain ⟨q77, h⟩ := h
          refine wo_pure (m' := 8191) 7 rfl (by kernel_rfl) rfl rfl (fun H => at_cat rfl rfl q77) ?_
          obtain ⟨q78, h⟩ := h
          refine wo_pure (m' := 16383) 13 rfl (by kernel_rfl) rfl rfl (fun H => at_cat rfl rfl q78) ?_
          refine wo_pure (m' := 32767) 14 rfl (by kernel_rfl) rfl rfl (fun H => at_assign rfl) ?_
          refine wo_done (by kernel_rfl) ?_
          exact wk_prune [(0, .string a0), (1, .slice a1.a a1.n a1.c), (3, .int .u8 a3), (4, .string a4), (7, .pointer (some (⟨b1, 0, none⟩ : Addr))), (11, .bool x3), (12, .string (((s8.1 ++ x28) ++ x73) ++ b70)), (13, .slice s8.2.1.a s8.2.1.n s8.2.1.c), (14, .int .i64 s8.2.2), (16, .pointer (some (⟨b21, 0, none⟩ : Addr)))] ⟨rfl, rfl, rfl, rfl, rfl, rfl, rfl, rfl, rfl, rfl, trivial⟩ (fun f1 => hJ33 ((((s8.1 ++ x28) ++ x73) ++ b70)) _ f1 h ⟨t_b1, t_b21, trivial⟩ so)
    · intro J18 h hJ18
      refine wc_seq ?_
      refine wc_region ?_
      refine wl_val (at_move rfl) rfl ?_
      refine wl_val (at_lss rfl rfl) rfl ?_
      refine wl_nil ?_
      refine wk_prune [(0, .string a0), (1, .slice a1.a a1.n a1.c), (3, .int .u8 a3), (4, .string a4), (7, .pointer (some (⟨b1, 0, none⟩ : Addr))), (11, .bool x3), (12, .string s8.1), (13, .slice s8.2.1.a s8.2.1.n s8.2.1.c), (14, .int .i64 s8.2.2), (15, .int .i64 (Int.tmod x16 8)), (40, .bool (decide ((Int.tmod x16 8) < 0)))] ⟨rfl, rfl, rfl, rfl, rfl, rfl, rfl, rfl, rfl, rfl, rfl, trivial⟩ (fun f1 => ?_)
      refine wk_then ?_
      refine wc_cond rfl h (fun h => ?_) (fun h => ?_)
      · refine wc_region ?_
        refine wl_val (at_move rfl) rfl ?_
        refine wl_val (at_add rfl rfl) rfl ?_
        refine wl_val (at_assign rfl) rfl ?_
        refine wl_nil ?_
        exact wk_prune [(0, .string a0), (1, .slice a1.a a1.n a1.c), (3, .int .u8 a3), (4, .string a4), (7, .pointer (some (⟨b1, 0, none⟩ : Addr))), (11, .bool x3), (12, .string s8.1), (13, .slice s8.2.1.a s8.2.1.n s8.2.1.c), (14, .int .i64 s8.2.2), (15, .int .i64 (IntKind.wrap .i64 ((Int.tmod x16 8) + 8)))] ⟨rfl, rfl, rfl, rfl, rfl, rfl, rfl, rfl, rfl, rfl, trivial⟩ (fun f1 => hJ18 ((IntKind.wrap .i64 ((Int.tmod x16 8) + 8))) _ f1 h ⟨t_b1, trivial⟩ so)
      · refine wc_skip ?_
        exact wk_prune [(0, .string a0), (1, .slice a1.a a1.n a1.c), (3, .int .u8 a3), (4, .string a4), (7, .pointer (some (⟨b1, 0, none⟩ : Addr))), (11, .bool x3), (12, .string s8.1), (13, .slice s8.2.1.a s8.2.1.n s8.2.1.c), (14, .int .i64 s8.2.2), (15, .int .i64 (Int.tmod x16 8))] ⟨rfl, rfl, rfl, rfl, rfl, rfl, rfl, rfl, rfl, rfl, trivial⟩ (fun f1 => hJ18 ((Int.tmod x16 8)) _ f1 h ⟨t_b1, trivial⟩ so)
  · refine wc_exit ?_
    refine wk_thenE ?_
    refine wk_thenE ?_
    refine wk_blkE ?_
    refine wk_prune [(0, .string a0), (3, .int .u8 a3), (4, .string a4), (7, .pointer (some (⟨b1, 0, none⟩ : Addr))), (11, .bool x3), (12, .string s8.1), (13, .slice s8.2.1.a s8.2.1.n s8.2.1.c)] ⟨rfl, rfl, rfl, rfl, rfl, rfl, rfl, trivial⟩ (fun f1 => ?_)
    refine wk_then ?_
    refine wc_seq ?_
    refine wc_region ?_
    refine wl_val (at_move rfl) rfl ?_
    refine wl_val (at_lenS Try.underlying9 rfl) rfl ?_
    refine wl_val (at_build (cs := (c29 (s8.1.size : Int) 0 (-2) 0)) (ps := [(0, .int .i64 (s8.1.size : Int)), (2, .int .i8 (-2))]) rfl (fun w => by simp [Instr.build, Instr.fill, go_sem, Try.underlying29, z29])) rfl ?_
    refine wl_newT (T := 29) (cs := (c29 0 0 0 0)) (ef_alloc zero29 rfl) rfl so ?_; intro b79 w80 hb_b79 t_b79 k_b79 so
    have g_b79 := Nat.le_of_eq hb_b79.symm
    have hc := k_b79.ch (F := [])
    have n_b1_b79 : b1 ≠ b79 := fun e => by have := t_b1.lt; omega
    replace t_b1 := t_b1.keep k_b79
    refine wl_stWT (vs := (c29 (s8.1.size : Int) 0 (-2) 0)) t_b79 (by first | (rw [len29, len29]) | (rw [len29]) | rfl) rfl so (fun q => ef_storeA (p := (⟨b79, 0, none⟩ : Addr)) (cs := (c29 (s8.1.size : Int) 0 (-2) 0)) (by rw [len29]; exact sz29) rfl rfl (one29 _ _ _ _) q) ?_; intro w81 t_b79 s_w81 so
    replace t_b1 := t_b1.same s_w81 (n_b1_b79)
    replace hc := ch_same hc s_w81 (.inr g_b79)
    refine wl_nil ?_
    refine wk_prune [(0, .string a0), (3, .int .u8 a3), (4, .string a4), (7, .pointer (some (⟨b1, 0, none⟩ : Addr))), (11, .bool x3), (12, .string s8.1), (13, .slice s8.2.1.a s8.2.1.n s8.2.1.c), (17, .pointer (some (⟨b79, 0, none⟩ : Addr)))] ⟨rfl, rfl, rfl, rfl, rfl, rfl, rfl, rfl, trivial⟩ (fun f1 => ?_)
    refine wk_then ?_
    refine wc_seq ?_
    refine wc_region ?_
    refine wl_val (at_move rfl) rfl ?_
    refine wl_val (at_fieldAddr Try.underlying40 rfl rfl sz9 (by decide) rfl) rfl ?_
    refine wl_val (at_load (v := .string a2_0) Try.underlying9 rfl rfl ((t_b1.cell 0).trans (by first | rfl | simp [List.getElem?_append, ints_len, bools_len]))) rfl ?_
    replace h := h b79 _ hc g_b79 t_b79.lt; clear hc
    refine wl_callF (mosaiclaw19_stuffed.calls _ _ _ h) enter14 rfl trivial so ?_; intro x82 w83 h so
    obtain ⟨q84, h⟩ := h
    replace t_b1 := pv_bk q84 t_b1 (by simp)
    replace t_b79 := pv_bk q84 t_b79 (by simp)
    obtain ⟨q85, h⟩ := h
    refine wl_val (at_cat rfl rfl q85) rfl ?_
    refine wl_val (at_assign rfl) rfl ?_
    refine wl_nil ?_
    refine wk_prune [(0, .string a0), (3, .int .u8 a3), (4, .string a4), (7, .pointer (some (⟨b1, 0, none⟩ : Addr))), (11, .bool x3), (12, .string (s8.1 ++ x82)), (13, .slice s8.2.1.a s8.2.1.n s8.2.1.c), (17, .pointer (some (⟨b79, 0, none⟩ : Addr)))] ⟨rfl, rfl, rfl, rfl, rfl, rfl, rfl, rfl, trivial⟩ (fun f1 => ?_)
    refine wk_then ?_
    refine wc_seq ?_
    refine wc_region ?_
    refine wl_val (at_move rfl) rfl ?_
    refine wl_val (at_lenS Try.underlying9 rfl) rfl ?_
    refine wl_val (at_fieldAddr Try.underlying29 rfl rfl sz3 (by decide) rfl) rfl ?_
    refine wl_stT (v := .int .i64 ((s8.1 ++ x82).size : Int)) (cs' := (c29 (s8.1.size : Int) ((s8.1 ++ x82).size : Int) (-2) 0)) t_b79 (by first | decide | simp [ints_len, bools_len]) (by first | rfl | simp [List.set_append, ints_len, bools_len]) rfl so (fun q1 q2 => ef_store (sz := sz3) rfl rfl rfl q1 q2) ?_; intro w86 t_b79 s_w86 so
    replace t_b1 := t_b1.same s_w86 (n_b1_b79)
    have hc := s_w86.ch
    refine wl_nil ?_
    refine wk_prune [(0, .string a0), (3, .int .u8 a3), (4, .string a4), (7, .pointer (some (⟨b1, 0, none⟩ : Addr))), (11, .bool x3), (12, .string (s8.1 ++ x82)), (13, .slice s8.2.1.a s8.2.1.n s8.2.1.c), (17, .pointer (some (⟨b79, 0, none⟩ : Addr)))] ⟨rfl, rfl, rfl, rfl, rfl, rfl, rfl, rfl, trivial⟩ (fun f1 => ?_)
    refine wk_then ?_
    refine wc_seq ?_
    refine wc_region ?_
    refine wl_val (at_move rfl) rfl ?_
    refine wl_val (at_fieldAddr Try.underlying40 rfl rfl sz3 (by decide) rfl) rfl ?_
    refine wl_val (at_load (v := .int .i64 a2_2) Try.underlying3 rfl rfl ((t_b1.cell 2).trans (by first | rfl | simp [List.getElem?_append, ints_len, bools_len]))) rfl ?_
    replace h := h _ hc; clear hc
    refine wl_callF (mosaiclaw19_fill.calls _ _ _ h) enter15 rfl trivial so ?_; intro x87 w88 h so
    obtain ⟨q89, h⟩ := h
    replace t_b79 := pv_bk q89 t_b79 (by simp)
    obtain ⟨q90, h⟩ := h
    refine wl_val (at_cat rfl rfl q90) rfl ?_
    refine wl_val (at_assign rfl) rfl ?_
    refine wl_nil ?_
    refine wk_prune [(0, .string a0), (3, .int .u8 a3), (4, .string a4), (11, .bool x3), (12, .string ((s8.1 ++ x82) ++ x87)), (13, .slice s8.2.1.a s8.2.1.n s8.2.1.c), (17, .pointer (some (⟨b79, 0, none⟩ : Addr)))] ⟨rfl, rfl, rfl, rfl, rfl, rfl, rfl, trivial⟩ (fun f1 => ?_)
    refine wk_then ?_
    replace h := h t_b79
    refine wc_seq ?_
    refine wc_join (w0 := w0) (fun (s92 : ByteArray) => [(0, .string a0), (11, .bool x3), (12, .string s92), (13, .slice s8.2.1.a s8.2.1.n s8.2.1.c), (17, .pointer (some (⟨b79, 0, none⟩ : Addr)))]) h ?_ ?_
    · rintro s92 w93 f1 h so; refine wk_then ?_
      refine wc_seq ?_
      refine wc_region ?_
      refine wl_val (at_move rfl) rfl ?_
      obtain ⟨x94, x95, x96, x97, q98, h⟩ := h
      refine wl_val (at_loadA (cs := (c29 x94 x95 x96 x97)) Try.underlying29 rfl (by rw [len29]; exact sz29) rfl q98) rfl ?_
      obtain ⟨i102, i102a, i102b, i102c, i102d⟩ := info29
      refine wl_newS (ef_buildSlice (cs := (c29 x94 x95 x96 x97)) (ps := [(0, .agg (c29 x94 x95 x96 x97).toArray)]) Try.underlying22 i102a i102b rfl (by rw [i102c]; decide) (by rw [i102c]; exact fill_full (vs := [.agg (c29 x94 x95 x96 x97).toArray]) rfl (by simp [Value.cells]) (by simp [Value.cells, len29]) rfl (by simp))) rfl so (one29 _ _ _ _) h ?_; intro p99 w100 h r101 so
      obtain ⟨i103, i103a, i103b, i103c, i103d⟩ := info29
      refine wl_ap (fx_append (s := s8.2.1) (t := ⟨(some p99), 1, 1⟩) (m := 1) (xs := (c29 x94 x95 x96 x97)) Try.underlying22 Try.underlying22 i103a i103b i103c i103d rfl rfl rfl (by first | rfl | simp [len29]) r101 h) rfl so ?_; intro l104 w105 h so
      refine wl_val (at_assign rfl) rfl ?_
      refine wl_nil ?_
      refine wk_prune [(0, .string a0), (11, .bool x3), (12, .string s92), (13, .slice l104.a l104.n l104.c), (17, .pointer (some (⟨b79, 0, none⟩ : Addr)))] ⟨rfl, rfl, rfl, rfl, rfl, trivial⟩ (fun f1 => ?_)
      refine wk_then ?_
      refine wc_seq ?_
      refine wc_region ?_
      refine wl_val (at_move rfl) rfl ?_
      refine wl_val (at_move rfl) rfl ?_
      refine wl_val (at_lenS Try.underlying9 rfl) rfl ?_
      refine wl_val (at_move rfl) rfl ?_
      refine wl_val (at_lenL Try.underlying22 rfl) rfl ?_
      refine wl_callF (cuts_Pieces.calls _ _ _ _ _ h) enter11 rfl trivial so ?_; intro x106 w107 h so
      refine wl_val (at_move rfl) rfl ?_
      refine wl_val (at_extract rfl rfl) rfl ?_
      refine wl_val (at_extract rfl rfl) rfl ?_
      refine wl_val (at_extract rfl rfl) rfl ?_
      refine wl_val (at_assign rfl) rfl ?_
      refine wl_val (at_assign rfl) rfl ?_
      refine wl_val (at_assign rfl) rfl ?_
      refine wl_nil ?_
      refine wk_prune [(0, .string a0), (11, .bool x3), (12, .string s92), (13, .slice l104.a l104.n l104.c), (17, .pointer (some (⟨b79, 0, none⟩ : Addr))), (18, .slice x106.1.a x106.1.n x106.1.c), (19, .int .i64 x106.2.1), (20, .int .i64 x106.2.2)] ⟨rfl, rfl, rfl, rfl, rfl, rfl, rfl, rfl, trivial⟩ (fun f1 => ?_)
      refine wk_then ?_
      refine wc_seq ?_
      refine wc_region ?_
      refine wl_val (at_move rfl) rfl ?_
      refine wl_val (at_move rfl) rfl ?_
      refine wl_val (at_lenS Try.underlying9 rfl) rfl ?_
      refine wl_val (at_move rfl) rfl ?_
      refine wl_val (at_lenL Try.underlying22 rfl) rfl ?_
      refine wl_val (at_sub rfl rfl) rfl ?_
      refine wl_callF (cuts_Pieces.calls _ _ _ _ _ h) enter11 rfl trivial so ?_; intro x108 w109 h so
      refine wl_val (at_move rfl) rfl ?_
      refine wl_val (at_extract rfl rfl) rfl ?_
      refine wl_val (at_extract rfl rfl) rfl ?_
      refine wl_val (at_extract rfl rfl) rfl ?_
      refine wl_val (at_assign rfl) rfl ?_
      refine wl_val (at_assign rfl) rfl ?_
      refine wl_val (at_assign rfl) rfl ?_
      refine wl_nil ?_
      refine wk_prune [(11, .bool x3), (13, .slice l104.a l104.n l104.c), (17, .pointer (some (⟨b79, 0, none⟩ : Addr))), (18, .slice x106.1.a x106.1.n x106.1.c), (19, .int .i64 x106.2.1), (20, .int .i64 x106.2.2), (21, .slice x108.1.a x108.1.n x108.1.c), (22, .int .i64 x108.2.1), (23, .int .i64 x108.2.2)] ⟨rfl, rfl, rfl, rfl, rfl, rfl, rfl, rfl, rfl, trivial⟩ (fun f1 => ?_)
      refine wk_then ?_
      refine wc_seq ?_
      refine wc_seq ?_
      refine wc_join (w0 := w0) (fun (s111 : Bool) => [(13, .slice l104.a l104.n l104.c), (18, .slice x106.1.a x106.1.n x106.1.c), (180, .bool s111)]) h ?_ ?_
      · rintro s111 w112 f1 h so; refine wk_then ?_
        refine wc_cond rfl h (fun h => ?_) (fun h => ?_)
        · refine wc_seq ?_
          refine wc_region ?_
          refine wl_val (at_assign rfl) rfl ?_
          refine wl_nil ?_
          refine wk_prune [(10, .bool false)] ⟨rfl, trivial⟩ (fun f1 => ?_)
          refine wk_then ?_
          refine wc_ret ?_
          refine wk_thenR ?_
          exact wk_ret1 (x := false) rfl (by decide) rfl so h
        · refine wc_skip ?_
          refine wk_prune [(13, .slice l104.a l104.n l104.c), (18, .slice x106.1.a x106.1.n x106.1.c)] ⟨rfl, rfl, trivial⟩ (fun f1 => ?_)
          refine wk_then ?_
          refine wc_seq ?_
          refine wc_seq ?_
          refine wc_region ?_
          refine wl_val (at_assign rfl) rfl ?_
          refine wl_nil ?_
          refine wk_prune [(13, .slice l104.a l104.n l104.c), (18, .slice x106.1.a x106.1.n x106.1.c), (24, .int .i64 0)] ⟨rfl, rfl, rfl, trivial⟩ (fun f1 => ?_)
          refine wk_then ?_
          refine wc_block ?_
          obtain ⟨k113, h⟩ := h
          refine wc_loop (fun k a w => ∃ (s115 : Int) (f1 : Nat → Value), a = ac 196 (en f1 [(13, .slice l104.a l104.n l104.c), (18, .slice x106.1.a x106.1.n x106.1.c), (24, .int .i64 s115)]) [] ∧ Sm w0 w ∧ Fix _ k s115 w.heap) k113 ⟨(0), _, ac_again ⟨rfl, rfl, rfl, trivial⟩, so, h⟩ ?_
          rintro k114 a117 w116 ⟨s115, f1, rfl, so, h⟩
          rcases k114 with _ | k114
          · exact h.elim
          replace h := Fix.un h; refine wc_in ?_
          refine wc_seq ?_
          refine wc_seq ?_
          refine wc_region ?_
          refine wl_val (at_move rfl) rfl ?_
          refine wl_val (at_move rfl) rfl ?_
          refine wl_val (at_lenL Try.underlying22 rfl) rfl ?_
          refine wl_val (at_lss rfl rfl) rfl ?_
          refine wl_nil ?_
          refine wk_prune [(13, .slice l104.a l104.n l104.c), (18, .slice x106.1.a x106.1.n x106.1.c), (24, .int .i64 s115), (184, .bool (decide (s115 < (l104.n : Int))))] ⟨rfl, rfl, rfl, rfl, trivial⟩ (fun f1 => ?_)
          refine wk_then ?_
          refine wc_cond rfl h (fun h => ?_) (fun h => ?_)
          · refine wc_skip ?_
            refine wk_prune [(13, .slice l104.a l104.n l104.c), (18, .slice x106.1.a x106.1.n x106.1.c), (24, .int .i64 s115)] ⟨rfl, rfl, rfl, trivial⟩ (fun f1 => ?_)
            refine wk_then ?_
            refine wc_seq ?_
            refine wc_block ?_
            refine wc_seq ?_
            refine wc_draw mixed (by kernel_rfl) so ?_
            refine wq_val (at_move rfl) rfl ?_
            refine wq_val (at_move rfl) rfl ?_
            obtain ⟨q119, q120, p121, q122, h⟩ := h
            refine wq_val (at_ixAddrL Try.underlying22 sz29 (sl_some q122) rfl q119 q120) rfl ?_
            obtain ⟨x123, x124, x125, x126, q127, h⟩ := h
            refine wq_val (at_loadA (cs := (c29 x123 x124 x125 x126)) Try.underlying29 rfl (by rw [len29]; exact sz29) rfl q127) rfl ?_
            refine wq_val (at_move rfl) rfl ?_
            refine wq_val (at_move rfl) rfl ?_
            obtain ⟨q128, q129, p130, q131, h⟩ := h
            refine wq_val (at_ixAddrL Try.underlying22 sz29 (sl_some q131) rfl q128 q129) rfl ?_
            obtain ⟨x132, x133, x134, x135, q136, h⟩ := h
            refine wq_val (at_loadA (cs := (c29 x132 x133 x134 x135)) Try.underlying29 rfl (by rw [len29]; exact sz29) rfl q136) rfl ?_
            refine wq_val (at_neqA (xs := (c29 x123 x124 x125 x126)) (ys := (c29 x132 x133 x134 x135)) rfl rfl (by kernel_rfl) (eqv_struct Try.underlying29 (by kernel_rfl) (eqf_cons rfl (pt_one (v := .int .i64 x123) Try.underlying3 rfl rfl) (pt_one (v := .int .i64 x132) Try.underlying3 rfl rfl) (eqv_int Try.underlying3) (eqf_cons rfl (pt_one (v := .int .i64 x124) Try.underlying3 rfl rfl) (pt_one (v := .int .i64 x133) Try.underlying3 rfl rfl) (eqv_int Try.underlying3) (eqf_cons rfl (pt_one (v := .int .i8 x125) Try.underlying27 rfl rfl) (pt_one (v := .int .i8 x134) Try.underlying27 rfl rfl) (eqv_int Try.underlying27) (eqf_last rfl (pt_one (v := .int .i64 x126) Try.underlying3 rfl rfl) (pt_one (v := .int .i64 x135) Try.underlying3 rfl rfl) (eqv_int Try.underlying3))))))) rfl ?_
            refine wq_nil ?_; intro w137 hw so; rw [← hw] at h; clear hw
            refine wk_prune [(13, .slice l104.a l104.n l104.c), (18, .slice x106.1.a x106.1.n x106.1.c), (24, .int .i64 s115), (195, .bool (!((x123 == x132) && ((x124 == x133) && ((x125 == x134) && (x126 == x135))))))] ⟨rfl, rfl, rfl, rfl, trivial⟩ (fun f1 => ?_)
            refine wk_then ?_
            refine wc_cond rfl h (fun h => ?_) (fun h => ?_)
            · refine wc_seq ?_
              refine wc_region ?_
              refine wl_val (at_assign rfl) rfl ?_
              refine wl_nil ?_
              refine wk_prune [(10, .bool false)] ⟨rfl, trivial⟩ (fun f1 => ?_)
              refine wk_then ?_
              refine wc_ret ?_
              refine wk_blkR ?_
              refine wk_thenR ?_
              refine wk_thenR ?_
              refine wk_blkR ?_
              refine wk_thenR ?_
              exact wk_ret1 (x := false) rfl (by decide) rfl so h
            · refine wc_skip ?_
              refine wk_blkN ?_
              refine wk_prune [(13, .slice l104.a l104.n l104.c), (18, .slice x106.1.a x106.1.n x106.1.c), (24, .int .i64 s115)] ⟨rfl, rfl, rfl, trivial⟩ (fun f1 => ?_)
              refine wk_then ?_
              refine wc_region ?_
              refine wl_val (at_move rfl) rfl ?_
              refine wl_val (at_add rfl rfl) rfl ?_
              refine wl_val (at_assign rfl) rfl ?_
              refine wl_nil ?_
              exact wk_again ⟨((IntKind.wrap .i64 (s115 + 1))), _, ac_again ⟨rfl, rfl, rfl, trivial⟩, so, h⟩
          · refine wc_exit ?_
            refine wk_thenE ?_
            refine wk_thenE ?_
            refine wk_blkE ?_
            refine wk_prune [] trivial (fun f1 => ?_)
            refine wk_then ?_
            refine wc_seq ?_
            refine wc_region ?_
            refine wl_val (at_assign rfl) rfl ?_
            refine wl_nil ?_
            refine wk_prune [(10, .bool true)] ⟨rfl, trivial⟩ (fun f1 => ?_)
            refine wk_then ?_
            refine wc_ret ?_
            exact wk_ret1 (x := true) rfl (by decide) rfl so h
      · intro J110 h hJ110
        refine wc_region ?_
        refine wl_val (at_move rfl) rfl ?_
        refine wl_val (at_not rfl) rfl ?_
        refine wl_val (at_move rfl) rfl ?_
        refine bif_ h (fun hb h => ?_) (fun hb h => ?_)
        · refine wl_set (t := 151) (v := .bool true) (congrArg Value.bool hb) ?_; clear hb
          refine wl_off (t := 151) rfl (by decide) rfl ?_
          refine wl_off (t := 151) rfl (by decide) rfl ?_
          refine wl_val (at_pick_t rfl rfl) rfl ?_
          refine wl_val (at_move rfl) rfl ?_
          refine wl_off (t := 155) rfl (by decide) rfl ?_
          refine wl_off (t := 155) rfl (by decide) rfl ?_
          refine wl_off (t := 155) rfl (by decide) rfl ?_
          refine wl_off (t := 155) rfl (by decide) rfl ?_
          refine wl_val (at_pick_t rfl rfl) rfl ?_
          refine wl_val (at_move rfl) rfl ?_
          refine wl_off (t := 161) rfl (by decide) rfl ?_
          refine wl_off (t := 161) rfl (by decide) rfl ?_
          refine wl_off (t := 161) rfl (by decide) rfl ?_
          refine wl_off (t := 161) rfl (by decide) rfl ?_
          refine wl_off (t := 161) rfl (by decide) rfl ?_
          refine wl_val (at_pick_t rfl rfl) rfl ?_
          refine wl_val (at_move rfl) rfl ?_
          refine wl_off (t := 168) rfl (by decide) rfl ?_
          refine wl_off (t := 168) rfl (by decide) rfl ?_
          refine wl_val (at_pick_t rfl rfl) rfl ?_
          refine wl_val (at_move rfl) rfl ?_
          refine wl_off (t := 172) rfl (by decide) rfl ?_
          refine wl_off (t := 172) rfl (by decide) rfl ?_
          refine wl_off (t := 172) rfl (by decide) rfl ?_
          refine wl_val (at_pick_t rfl rfl) rfl ?_
          refine wl_val (at_move rfl) rfl ?_
          refine wl_off (t := 177) rfl (by decide) rfl ?_
          refine wl_off (t := 177) rfl (by decide) rfl ?_
          refine wl_val (at_pick_t rfl rfl) rfl ?_
          refine wl_nil ?_
          exact wk_prune [(13, .slice l104.a l104.n l104.c), (18, .slice x106.1.a x106.1.n x106.1.c), (180, .bool true)] ⟨rfl, rfl, rfl, trivial⟩ (fun f1 => hJ110 (true) _ f1 h so)
        · refine wl_set (t := 151) (v := .bool false) (congrArg Value.bool hb) ?_; clear hb
          refine wl_on (t := 151) rfl (by decide) rfl ?_
          refine wl_val (at_move rfl) rfl ?_
          refine wl_on (t := 151) rfl (by decide) rfl ?_
          refine wl_val (at_neq rfl rfl) rfl ?_
          refine wl_val (at_pick_f rfl rfl) rfl ?_
          refine wl_val (at_move rfl) rfl ?_
          refine bif_ h (fun hb h => ?_) (fun hb h => ?_)
          · refine wl_set (t := 155) (v := .bool true) (congrArg Value.bool hb) ?_; clear hb
            refine wl_off (t := 155) rfl (by decide) rfl ?_
            refine wl_off (t := 155) rfl (by decide) rfl ?_
            refine wl_off (t := 155) rfl (by decide) rfl ?_
            refine wl_off (t := 155) rfl (by decide) rfl ?_
            refine wl_val (at_pick_t rfl rfl) rfl ?_
            refine wl_val (at_move rfl) rfl ?_
            refine wl_off (t := 161) rfl (by decide) rfl ?_
            refine wl_off (t := 161) rfl (by decide) rfl ?_
            refine wl_off (t := 161) rfl (by decide) rfl ?_
            refine wl_off (t := 161) rfl (by decide) rfl ?_
            refine wl_off (t := 161) rfl (by decide) rfl ?_
            refine wl_val (at_pick_t rfl rfl) rfl ?_
            refine wl_val (at_move rfl) rfl ?_
            refine wl_off (t := 168) rfl (by decide) rfl ?_
            refine wl_off (t := 168) rfl (by decide) rfl ?_
            refine wl_val (at_pick_t rfl rfl) rfl ?_
            refine wl_val (at_move rfl) rfl ?_
            refine wl_off (t := 172) rfl (by decide) rfl ?_
            refine wl_off (t := 172) rfl (by decide) rfl ?_
            refine wl_off (t := 172) rfl (by decide) rfl ?_
            refine wl_val (at_pick_t rfl rfl) rfl ?_
            refine wl_val (at_move rfl) rfl ?_
            refine wl_off (t := 177) rfl (by decide) rfl ?_
            refine wl_off (t := 177) rfl (by decide) rfl ?_
            refine wl_val (at_pick_t rfl rfl) rfl ?_
            refine wl_nil ?_
            exact wk_prune [(13, .slice l104.a l104.n l104.c), (18, .slice x106.1.a x106.1.n x106.1.c), (180, .bool true)] ⟨rfl, rfl, rfl, trivial⟩ (fun f1 => hJ110 (true) _ f1 h so)
          · refine wl_set (t := 155) (v := .bool false) (congrArg Value.bool hb) ?_; clear hb
            refine wl_on (t := 155) rfl (by decide) rfl ?_
            refine wl_val (at_move rfl) rfl ?_
            refine wl_on (t := 155) rfl (by decide) rfl ?_
            refine wl_val (at_fieldAddr Try.underlying29 rfl rfl sz3 (by decide) rfl) rfl ?_
            refine wl_on (t := 155) rfl (by decide) rfl ?_
            obtain ⟨x138, q139, h⟩ := h
            refine wl_val (at_load Try.underlying3 rfl rfl q139) rfl ?_
            refine wl_on (t := 155) rfl (by decide) rfl ?_
            refine wl_val (at_neq rfl rfl) rfl ?_
            refine wl_val (at_pick_f rfl rfl) rfl ?_
            refine wl_val (at_move rfl) rfl ?_
            refine bif_ h (fun hb h => ?_) (fun hb h => ?_)
            · refine wl_set (t := 161) (v := .bool true) (congrArg Value.bool hb) ?_; clear hb
              refine wl_off (t := 161) rfl (by decide) rfl ?_
              refine wl_off (t := 161) rfl (by decide) rfl ?_
              refine wl_off (t := 161) rfl (by decide) rfl ?_
              refine wl_off (t := 161) rfl (by decide) rfl ?_
              refine wl_off (t := 161) rfl (by decide) rfl ?_
              refine wl_val (at_pick_t rfl rfl) rfl ?_
              refine wl_val (at_move rfl) rfl ?_
              refine wl_off (t := 168) rfl (by decide) rfl ?_
              refine wl_off (t := 168) rfl (by decide) rfl ?_
              refine wl_val (at_pick_t rfl rfl) rfl ?_
              refine wl_val (at_move rfl) rfl ?_
              refine wl_off (t := 172) rfl (by decide) rfl ?_
              refine wl_off (t := 172) rfl (by decide) rfl ?_
              refine wl_off (t := 172) rfl (by decide) rfl ?_
              refine wl_val (at_pick_t rfl rfl) rfl ?_
              refine wl_val (at_move rfl) rfl ?_
              refine wl_off (t := 177) rfl (by decide) rfl ?_
              refine wl_off (t := 177) rfl (by decide) rfl ?_
              refine wl_val (at_pick_t rfl rfl) rfl ?_
              refine wl_nil ?_
              exact wk_prune [(13, .slice l104.a l104.n l104.c), (18, .slice x106.1.a x106.1.n x106.1.c), (180, .bool true)] ⟨rfl, rfl, rfl, trivial⟩ (fun f1 => hJ110 (true) _ f1 h so)
            · refine wl_set (t := 161) (v := .bool false) (congrArg Value.bool hb) ?_; clear hb
              refine wl_on (t := 161) rfl (by decide) rfl ?_
              refine wl_val (at_move rfl) rfl ?_
              refine wl_on (t := 161) rfl (by decide) rfl ?_
              refine wl_val (at_lenL Try.underlying22 rfl) rfl ?_
              refine wl_on (t := 161) rfl (by decide) rfl ?_
              refine wl_val (at_move rfl) rfl ?_
              refine wl_on (t := 161) rfl (by decide) rfl ?_
              refine wl_val (at_lenL Try.underlying22 rfl) rfl ?_
              refine wl_on (t := 161) rfl (by decide) rfl ?_
              refine wl_val (at_neq rfl rfl) rfl ?_
              refine wl_val (at_pick_f rfl rfl) rfl ?_
              refine wl_val (at_move rfl) rfl ?_
              refine bif_ h (fun hb h => ?_) (fun hb h => ?_)
              · refine wl_set (t := 168) (v := .bool true) (congrArg Value.bool hb) ?_; clear hb
                refine wl_off (t := 168) rfl (by decide) rfl ?_
                refine wl_off (t := 168) rfl (by decide) rfl ?_
                refine wl_val (at_pick_t rfl rfl) rfl ?_
                refine wl_val (at_move rfl) rfl ?_
                refine wl_off (t := 172) rfl (by decide) rfl ?_
                refine wl_off (t := 172) rfl (by decide) rfl ?_
                refine wl_off (t := 172) rfl (by decide) rfl ?_
                refine wl_val (at_pick_t rfl rfl) rfl ?_
                refine wl_val (at_move rfl) rfl ?_
                refine wl_off (t := 177) rfl (by decide) rfl ?_
                refine wl_off (t := 177) rfl (by decide) rfl ?_
                refine wl_val (at_pick_t rfl rfl) rfl ?_
                refine wl_nil ?_
                exact wk_prune [(13, .slice l104.a l104.n l104.c), (18, .slice x106.1.a x106.1.n x106.1.c), (180, .bool true)] ⟨rfl, rfl, rfl, trivial⟩ (fun f1 => hJ110 (true) _ f1 h so)
              · refine wl_set (t := 168) (v := .bool false) (congrArg Value.bool hb) ?_; clear hb
                refine wl_on (t := 168) rfl (by decide) rfl ?_
                refine wl_val (at_move rfl) rfl ?_
                refine wl_on (t := 168) rfl (by decide) rfl ?_
                refine wl_val (at_neq rfl rfl) rfl ?_
                refine wl_val (at_pick_f rfl rfl) rfl ?_
                refine wl_val (at_move rfl) rfl ?_
                refine bif_ h (fun hb h => ?_) (fun hb h => ?_)
                · refine wl_set (t := 172) (v := .bool true) (congrArg Value.bool hb) ?_; clear hb
                  refine wl_off (t := 172) rfl (by decide) rfl ?_
                  refine wl_off (t := 172) rfl (by decide) rfl ?_
                  refine wl_off (t := 172) rfl (by decide) rfl ?_
                  refine wl_val (at_pick_t rfl rfl) rfl ?_
                  refine wl_val (at_move rfl) rfl ?_
                  refine wl_off (t := 177) rfl (by decide) rfl ?_
                  refine wl_off (t := 177) rfl (by decide) rfl ?_
                  refine wl_val (at_pick_t rfl rfl) rfl ?_
                  refine wl_nil ?_
                  exact wk_prune [(13, .slice l104.a l104.n l104.c), (18, .slice x106.1.a x106.1.n x106.1.c), (180, .bool true)] ⟨rfl, rfl, rfl, trivial⟩ (fun f1 => hJ110 (true) _ f1 h so)
                · refine wl_set (t := 172) (v := .bool false) (congrArg Value.bool hb) ?_; clear hb
                  refine wl_on (t := 172) rfl (by decide) rfl ?_
                  refine wl_val (at_move rfl) rfl ?_
                  refine wl_on (t := 172) rfl (by decide) rfl ?_
                  refine wl_val (at_lenL Try.underlying22 rfl) rfl ?_
                  refine wl_on (t := 172) rfl (by decide) rfl ?_
                  refine wl_val (at_neq rfl rfl) rfl ?_
                  refine wl_val (at_pick_f rfl rfl) rfl ?_
                  refine wl_val (at_move rfl) rfl ?_
                  refine bif_ h (fun hb h => ?_) (fun hb h => ?_)
                  · refine wl_set (t := 177) (v := .bool true) (congrArg Value.bool hb) ?_; clear hb
                    refine wl_off (t := 177) rfl (by decide) rfl ?_
                    refine wl_off (t := 177) rfl (by decide) rfl ?_
                    refine wl_val (at_pick_t rfl rfl) rfl ?_
                    refine wl_nil ?_
                    exact wk_prune [(13, .slice l104.a l104.n l104.c), (18, .slice x106.1.a x106.1.n x106.1.c), (180, .bool true)] ⟨rfl, rfl, rfl, trivial⟩ (fun f1 => hJ110 (true) _ f1 h so)
                  · refine wl_set (t := 177) (v := .bool false) (congrArg Value.bool hb) ?_; clear hb
                    refine wl_on (t := 177) rfl (by decide) rfl ?_
                    refine wl_val (at_move rfl) rfl ?_
                    refine wl_on (t := 177) rfl (by decide) rfl ?_
                    refine wl_val (at_neq rfl rfl) rfl ?_
                    refine wl_val (at_pick_f rfl rfl) rfl ?_
                    refine wl_nil ?_
                    exact wk_prune [(13, .slice l104.a l104.n l104.c), (18, .slice x106.1.a x106.1.n x106.1.c), (180, .bool (x108.2.1 != 0))] ⟨rfl, rfl, rfl, trivial⟩ (fun f1 => hJ110 ((x108.2.1 != 0)) _ f1 h so)
    · intro J91 h hJ91
      refine wc_seq ?_
      refine wc_join (w0 := w0) (fun (s141 : Bool) => [(0, .string a0), (3, .int .u8 a3), (4, .string a4), (11, .bool x3), (12, .string ((s8.1 ++ x82) ++ x87)), (13, .slice s8.2.1.a s8.2.1.n s8.2.1.c), (17, .pointer (some (⟨b79, 0, none⟩ : Addr))), (109, .bool s141)]) h ?_ ?_
      · rintro s141 w142 f1 h so; refine wk_then ?_
        refine wc_cond rfl h (fun h => ?_) (fun h => ?_)
        · refine wc_seq ?_
          refine wc_region ?_
          refine wl_val (at_fieldAddr Try.underlying29 rfl rfl sz27 (by decide) rfl) rfl ?_
          refine wl_st (v := .int .i8 (-1)) h rfl so (fun q1 q2 => ef_store (sz := sz27) rfl rfl rfl q1 q2) ?_; intro w143 h so
          refine wl_nil ?_
          refine wk_prune [(0, .string a0), (3, .int .u8 a3), (4, .string a4), (11, .bool x3), (12, .string ((s8.1 ++ x82) ++ x87)), (13, .slice s8.2.1.a s8.2.1.n s8.2.1.c), (17, .pointer (some (⟨b79, 0, none⟩ : Addr)))] ⟨rfl, rfl, rfl, rfl, rfl, rfl, rfl, trivial⟩ (fun f1 => ?_)
          refine wk_then ?_
          refine wc_seq ?_
          refine wc_region ?_
          refine wl_val (at_move rfl) rfl ?_
          refine wl_val (at_lenS Try.underlying9 rfl) rfl ?_
          refine wl_val (at_fieldAddr Try.underlying29 rfl rfl sz3 (by decide) rfl) rfl ?_
          refine wl_st (v := .int .i64 (((s8.1 ++ x82) ++ x87).size : Int)) h rfl so (fun q1 q2 => ef_store (sz := sz3) rfl rfl rfl q1 q2) ?_; intro w144 h so
          refine wl_nil ?_
          refine wk_prune [(0, .string a0), (3, .int .u8 a3), (4, .string a4), (11, .bool x3), (12, .string ((s8.1 ++ x82) ++ x87)), (13, .slice s8.2.1.a s8.2.1.n s8.2.1.c), (17, .pointer (some (⟨b79, 0, none⟩ : Addr)))] ⟨rfl, rfl, rfl, rfl, rfl, rfl, rfl, trivial⟩ (fun f1 => ?_)
          refine wk_then ?_
          refine wc_region ?_
          refine wl_val (at_move rfl) rfl ?_
          refine wl_val (at_move rfl) rfl ?_
          obtain ⟨i148, i148a, i148b, i148c, i148d⟩ := info5
          refine wl_newS (ef_buildSlice (cs := [.int .u8 255, .int .u8 a3]) (ps := [(0, .int .u8 255), (1, .int .u8 a3)]) Try.underlying44 i148a i148b rfl (by rw [i148c]; decide) (by rw [i148c]; exact fill_full (vs := [.int .u8 255, .int .u8 a3]) rfl (by simp [Value.cells]) (by simp [Value.cells]) rfl (by simp))) rfl so (ones_cons rfl (ones_cons rfl ones_nil)) h ?_; intro p145 w146 h r147 so
          obtain ⟨b149, q150, q151, h⟩ := h
          refine wl_val (at_str (s := ⟨(some p145), 2, 2⟩) Try.underlying44 Try.underlying9 Try.underlying5 rfl q150 q151) rfl ?_
          obtain ⟨q152, h⟩ := h
          refine wl_val (at_cat rfl rfl q152) rfl ?_
          refine wl_val (at_move rfl) rfl ?_
          obtain ⟨q153, h⟩ := h
          refine wl_val (at_cat rfl rfl q153) rfl ?_
          refine wl_val (at_assign rfl) rfl ?_
          refine wl_nil ?_
          exact wk_prune [(0, .string a0), (11, .bool x3), (12, .string ((((s8.1 ++ x82) ++ x87) ++ b149) ++ a4)), (13, .slice s8.2.1.a s8.2.1.n s8.2.1.c), (17, .pointer (some (⟨b79, 0, none⟩ : Addr)))] ⟨rfl, rfl, rfl, rfl, rfl, trivial⟩ (fun f1 => hJ91 (((((s8.1 ++ x82) ++ x87) ++ b149) ++ a4)) _ f1 h so)
        · refine wc_region ?_
          refine wl_val (at_move rfl) rfl ?_
          refine wl_val (at_lenS Try.underlying9 rfl) rfl ?_
          refine wl_val (at_fieldAddr Try.underlying29 rfl rfl sz3 (by decide) rfl) rfl ?_
          refine wl_st (v := .int .i64 (((s8.1 ++ x82) ++ x87).size : Int)) h rfl so (fun q1 q2 => ef_store (sz := sz3) rfl rfl rfl q1 q2) ?_; intro w154 h so
          refine wl_nil ?_
          exact wk_prune [(0, .string a0), (11, .bool x3), (12, .string ((s8.1 ++ x82) ++ x87)), (13, .slice s8.2.1.a s8.2.1.n s8.2.1.c), (17, .pointer (some (⟨b79, 0, none⟩ : Addr)))] ⟨rfl, rfl, rfl, rfl, rfl, trivial⟩ (fun f1 => hJ91 (((s8.1 ++ x82) ++ x87)) _ f1 h so)
      · intro J140 h hJ140
        refine wc_region ?_
        refine wl_val (at_move rfl) rfl ?_
        refine wl_val (at_neq rfl rfl) rfl ?_
        refine wl_val (at_move rfl) rfl ?_
        refine bif_ h (fun hb h => ?_) (fun hb h => ?_)
        · refine wl_set (t := 98) (v := .bool true) (congrArg Value.bool hb) ?_; clear hb
          refine wl_on (t := 98) rfl (by decide) rfl ?_
          refine wl_val (at_move rfl) rfl ?_
          refine wl_on (t := 98) rfl (by decide) rfl ?_
          refine wl_val (at_neq rfl rfl) rfl ?_
          refine wl_val (at_pick_t rfl rfl) rfl ?_
          refine wl_val (at_move rfl) rfl ?_
          refine bif_ h (fun hb h => ?_) (fun hb h => ?_)
          · refine wl_set (t := 102) (v := .bool true) (congrArg Value.bool hb) ?_; clear hb
            refine wl_on (t := 102) rfl (by decide) rfl ?_
            refine wl_val (at_move rfl) rfl ?_
            refine wl_on (t := 102) rfl (by decide) rfl ?_
            refine wl_val (at_lss rfl rfl) rfl ?_
            refine wl_on (t := 102) rfl (by decide) rfl ?_
            refine wl_val (at_move rfl) rfl ?_
            refine bif_ h (fun hb h => ?_) (fun hb h => ?_)
            · refine wl_set (t := 105) (v := .bool true) (congrArg Value.bool hb) ?_; clear hb
              refine wl_off (t := 105) rfl (by decide) rfl ?_
              refine wl_off (t := 105) rfl (by decide) rfl ?_
              refine wl_on (t := 102) rfl (by decide) rfl ?_
              refine wl_val (at_pick_t rfl rfl) rfl ?_
              refine wl_val (at_pick_t rfl rfl) rfl ?_
              refine wl_nil ?_
              exact wk_prune [(0, .string a0), (3, .int .u8 a3), (4, .string a4), (11, .bool x3), (12, .string ((s8.1 ++ x82) ++ x87)), (13, .slice s8.2.1.a s8.2.1.n s8.2.1.c), (17, .pointer (some (⟨b79, 0, none⟩ : Addr))), (109, .bool true)] ⟨rfl, rfl, rfl, rfl, rfl, rfl, rfl, rfl, trivial⟩ (fun f1 => hJ140 (true) _ f1 h so)
            · refine wl_set (t := 105) (v := .bool false) (congrArg Value.bool hb) ?_; clear hb
              refine wl_on (t := 105) rfl (by decide) rfl ?_
              refine wl_val (at_move rfl) rfl ?_
              refine wl_on (t := 105) rfl (by decide) rfl ?_
              refine wl_val (at_gtr rfl rfl) rfl ?_
              refine wl_on (t := 102) rfl (by decide) rfl ?_
              refine wl_val (at_pick_f rfl rfl) rfl ?_
              refine wl_val (at_pick_t rfl rfl) rfl ?_
              refine wl_nil ?_
              exact wk_prune [(0, .string a0), (3, .int .u8 a3), (4, .string a4), (11, .bool x3), (12, .string ((s8.1 ++ x82) ++ x87)), (13, .slice s8.2.1.a s8.2.1.n s8.2.1.c), (17, .pointer (some (⟨b79, 0, none⟩ : Addr))), (109, .bool (decide ((215 : Int) < a3)))] ⟨rfl, rfl, rfl, rfl, rfl, rfl, rfl, rfl, trivial⟩ (fun f1 => hJ140 ((decide ((215 : Int) < a3))) _ f1 h so)
          · refine wl_set (t := 102) (v := .bool false) (congrArg Value.bool hb) ?_; clear hb
            refine wl_off (t := 102) rfl (by decide) rfl ?_
            refine wl_off (t := 102) rfl (by decide) rfl ?_
            refine wl_off (t := 102) rfl (by decide) rfl ?_
            refine wl_off' (t := 105) rfl (by decide) rfl ?_
            refine wl_off' (t := 105) rfl (by decide) rfl ?_
            refine wl_off (t := 102) rfl (by decide) rfl ?_
            refine wl_val (at_pick_f rfl rfl) rfl ?_
            refine wl_nil ?_
            exact wk_prune [(0, .string a0), (3, .int .u8 a3), (4, .string a4), (11, .bool x3), (12, .string ((s8.1 ++ x82) ++ x87)), (13, .slice s8.2.1.a s8.2.1.n s8.2.1.c), (17, .pointer (some (⟨b79, 0, none⟩ : Addr))), (109, .bool false)] ⟨rfl, rfl, rfl, rfl, rfl, rfl, rfl, rfl, trivial⟩ (fun f1 => hJ140 (false) _ f1 h so)
        · refine wl_set (t := 98) (v := .bool false) (congrArg Value.bool hb) ?_; clear hb
          refine wl_off (t := 98) rfl (by decide) rfl ?_
          refine wl_off (t := 98) rfl (by decide) rfl ?_
          refine wl_val (at_pick_f rfl rfl) rfl ?_
          refine wl_val (at_move rfl) rfl ?_
          refine wl_off (t := 102) rfl (by decide) rfl ?_
          refine wl_off (t := 102) rfl (by decide) rfl ?_
          refine wl_off (t := 102) rfl (by decide) rfl ?_
          refine wl_off' (t := 105) rfl (by decide) rfl ?_
          refine wl_off' (t := 105) rfl (by decide) rfl ?_
          refine wl_off (t := 102) rfl (by decide) rfl ?_
          refine wl_val (at_pick_f rfl rfl) rfl ?_
          refine wl_nil ?_
          exact wk_prune [(0, .string a0), (3, .int .u8 a3), (4, .string a4), (11, .bool x3), (12, .string ((s8.1 ++ x82) ++ x87)), (13, .slice s8.2.1.a s8.2.1.n s8.2.1.c), (17, .pointer (some (⟨b79, 0, none⟩ : Addr))), (109, .bool false)] ⟨rfl, rfl, rfl, rfl, rfl, rfl, rfl, rfl, trivial⟩ (fun f1 => hJ140 (false) _ f1 h so)
end Go.Proofs.Ytdcjjoihlnjpnaa.G
