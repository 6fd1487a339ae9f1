import Derived.Test.YtbefacccdaafeaaGF
import Derived.Test.YtbefacccdaafeaaKbits
import Derived.Test.YtbefacccdaafeaaKhuff
import Derived.Test.YtbefacccdaafeaaKmosaiclaw04
namespace Go.Proofs.Ytbefacccdaafeaa.G
open Go.RowKit
set_option linter.unusedVariables false
set_option linter.unusedSimpArgs false
/-- mosaic/mosaiclaw04.HuffWord -/
def mosaiclaw04_HuffWord.enc : Bool → Value := fun r => .bool r
def mosaiclaw04_HuffWord.s (a0_0 : Ints 16) (a0_1 : Sl) (a1 : Sl) (a2 : Int) (H0 : Hp) (Q : Bool → Hp → Prop) : Prop :=
  Gn [] H0 (fun (b1 : Nat) (H2 : Hp) => Gn [] H2 (fun (b3 : Nat) (H4 : Hp) => mosaiclaw04_alive.s H4 (fun x5 H6 => Pv [b1, b3] H4 H6 ∧ (mosaiclaw04_twin.s a0_0 a0_1 H6 (fun x8 H9 => Pv [b3] H6 H9 ∧ (huff_New.s x8.1 x8.2 H9 (fun x11 H12 => Pv [b3] H9 H12 ∧ (if (x11.2 != 0) = true then (Gr [b3] H12 (fun (H14 : Hp) => Q x5 H14)) else (if x11.1.isNone = true then (Gr [b3] H12 (fun (H16 : Hp) => Q false H16)) else (Gn [] H12 (fun (b18 : Nat) (H20 : Hp) => Bk H20 b18 9 [.string (⟨#[]⟩ : ByteArray)] → (∃ k21, Fix (fun (rec26 : (Sl × Int) → Hp → Prop) (s23 : Sl × Int) (H24 : Hp) => Join (fun (s28 : Bool) (H29 : Hp) => if s28 = true then (0 ≤ s23.2 ∧ s23.2 < (a1.n : Int) ∧ someA a1.a (fun p32 => ldI .u8 H29 (p32.add (Int.toNat s23.2 * 1)) (fun x34 => nw H29 5 [.int .u8 (Int.tmod x34 255)] (fun p36 H37 => Pv [b3] H29 H37 ∧ (apS H37 s23.1 5 1 1 z5.cells 1 [.int .u8 (Int.tmod x34 255)] (fun l42 H43 => Pv [b3] H37 H43 ∧ (∃ k45, Fix (fun (rec50 : Int → Hp → Prop) (s47 : Int) (H48 : Hp) => if decide ((0 : Int) ≤ s47) = true then (0 ≤ s47 ∧ (0 ≤ s47 ∧ (0 ≤ (Go.bits .and .u8 (shrI .u8 (Int.tmod x34 255) s47) 1) ∧ (Go.bits .and .u8 (shrI .u8 (Int.tmod x34 255) s47) 1) ≤ (IntKind.wrap .u8 ((Go.bits .and .u8 (shrI .u8 (Int.tmod x34 255) s47) 1) + 1)) ∧ (IntKind.wrap .u8 ((Go.bits .and .u8 (shrI .u8 (Int.tmod x34 255) s47) 1) + 1)) ≤ ((⟨#[48, 49]⟩ : ByteArray).size : Int) ∧ (ldS H48 (⟨b18, 0, none⟩ : Addr) (fun x57 => x57.size + ((⟨#[48, 49]⟩ : ByteArray).extract (Int.toNat (Go.bits .and .u8 (shrI .u8 (Int.tmod x34 255) s47) 1)) (Int.toNat (IntKind.wrap .u8 ((Go.bits .and .u8 (shrI .u8 (Int.tmod x34 255) s47) 1) + 1)))).size ≤ 9223372036854775807 ∧ (st H48 (⟨b18, 0, none⟩ : Addr) (.string (x57 ++ ((⟨#[48, 49]⟩ : ByteArray).extract (Int.toNat (Go.bits .and .u8 (shrI .u8 (Int.tmod x34 255) s47) 1)) (Int.toNat (IntKind.wrap .u8 ((Go.bits .and .u8 (shrI .u8 (Int.tmod x34 255) s47) 1) + 1)))))) (fun H60 => Pv [b3] H48 H60 ∧ (rec50 ((IntKind.wrap .i64 (s47 - 1))) H60)))))))) else (rec26 (l42, (IntKind.wrap .i64 (s23.2 + 1))) H48)) k45 (7) H43))))))) else (∃ b62 : ByteArray, s23.1.n = b62.size ∧ rdS H29 s23.1.a (byteCells b62) ∧ (bits_Open.s b62 0 (s23.1.n : Int) H29 (fun x65 H66 => Pv [b3] H29 H66 ∧ (Gn [] H66 (fun (b68 : Nat) (H70 : Hp) => huff_Table_All.s x11.1 H70 (fun x71 H72 => Pv [b3, b68] H70 H72 ∧ (Join (fun (s75 : Bool) (H76 : Hp) => if s75 = true then (Gr [b3] H76 (fun (H77 : Hp) => Q false H77)) else (Join (fun (s80 : Int) (H81 : Hp) => Join (fun (s83 : Int) (H84 : Hp) => bits_Source_Skip.s x65 s83 H84 (fun x85 H86 => Pv [b3, b68] H84 H86 ∧ (ldS H86 (⟨b18, 0, none⟩ : Addr) (fun x88 => 0 ≤ s83 ∧ s83 ≤ (x88.size : Int) ∧ (st H86 (⟨b18, 0, none⟩ : Addr) (.string (x88.extract (Int.toNat s83) x88.size)) (fun H92 => Pv [b3, b68] H86 H92 ∧ (huff_Table_Read.s x11.1 x65 H92 (fun x94 H95 => Pv [b3, b68] H92 H95 ∧ (Gn [] H95 (fun (b97 : Nat) (H98 : Hp) => Gn [b97] H98 (fun (b99 : Nat) (H102 : Hp) => Join (fun (s104 : Bool) (H105 : Hp) => if s104 = true then (Gr [b3] H105 (fun (H106 : Hp) => Q false H106)) else (Gn [] H105 (fun (b108 : Nat) (H110 : Hp) => Bk H110 b3 4 [.bool false] → (Bk H110 b68 51 [.pointer x65] → (Bk H110 b97 5 [.int .u8 x94.1] → (Bk H110 b99 27 [.int .i64 x94.2] → (Bk H110 b108 4 [.bool false] → (Rg H110 (fun r111 D119 H114 => huff_Table_All_1.s (fun (x115 : Int × ByteArray) (H117 : Hp) (K116 : Bool → Hp → Prop) => Lp H117 (D119 + 1) r111 ∧ (Lp H117 (D119 + 1) r111 ∧ Up (putL H117 (D119 + 1) (bsy r111)) (fun H120 => ldS H120 (⟨b18, 0, none⟩ : Addr) (fun x121 => mosaiclaw04_begins.s x115.2 x121 H120 (fun x123 H124 => if x123 = true then (Join (fun (s126 : Unit) (H127 : Hp) => Lp H127 (D119 + 1) (bsy r111) ∧ K116 false (putL H127 (D119 + 1) (dn r111 .ret))) (fun (J125 : Unit → Hp → Prop) => ldI .i64 H124 (⟨b99, 0, none⟩ : Addr) (fun x129 => if (x129 == 0) = true then (ldI .u8 H124 (⟨b97, 0, none⟩ : Addr) (fun x131 => if (x131 == x115.1) = true then (ldP H124 (⟨b68, 0, none⟩ : Addr) (fun x133 => ldS H124 (⟨b18, 0, none⟩ : Addr) (fun x135 => bits_Source_Left.s x133 H124 (fun x137 H138 => cellAt H138 (⟨b18, 0, none⟩ : Addr) = some (.string x135) ∧ (st H138 (⟨b3, 0, none⟩ : Addr) (.bool (x137 == (IntKind.wrap .i64 ((x135.size : Int) - (x115.2.size : Int))))) (fun H140 => J125 () H140)))))) else (st H124 (⟨b3, 0, none⟩ : Addr) (.bool false) (fun H141 => J125 () H141)))) else (st H124 (⟨b3, 0, none⟩ : Addr) (.bool false) (fun H142 => J125 () H142))))) else (ldB H124 (⟨b108, 0, none⟩ : Addr) (fun x143 => if x143 = true then (st H124 (⟨b108, 0, none⟩ : Addr) (.bool true) (fun H145 => Lp H145 (D119 + 1) (bsy r111) ∧ K116 true (putL H145 (D119 + 1) r111))) else (ldS H124 (⟨b18, 0, none⟩ : Addr) (fun x146 => mosaiclaw04_begins.s x146 x115.2 H124 (fun x148 H149 => st H149 (⟨b108, 0, none⟩ : Addr) (.bool x148) (fun H150 => Lp H150 (D119 + 1) (bsy r111) ∧ K116 true (putL H150 (D119 + 1) r111)))))))))))) x71 H114 (fun _ H118 => (Lp H118 (D119 + 1) r111 ∧ Up (putL H118 (D119 + 1) (exh r111)) (fun H152 => Join (fun (s154 : Int) (H155 : Hp) => ldI .i64 H155 (⟨b99, 0, none⟩ : Addr) (fun x157 => if (x157 == s154) = true then (ldI .u8 H155 (⟨b97, 0, none⟩ : Addr) (fun x159 => if (x159 == 0) = true then (ldP H155 (⟨b68, 0, none⟩ : Addr) (fun x161 => ldS H155 (⟨b18, 0, none⟩ : Addr) (fun x163 => bits_Source_Left.s x161 H155 (fun x165 H166 => cellAt H166 (⟨b18, 0, none⟩ : Addr) = some (.string x163) ∧ (st H166 (⟨b3, 0, none⟩ : Addr) (.bool (x165 == (x163.size : Int))) (fun H168 => tkD (D119 :: []) H168 (fun H169 => ldB H169 (⟨b3, 0, none⟩ : Addr) (fun x171 => Q x171 H169)))))))) else (st H155 (⟨b3, 0, none⟩ : Addr) (.bool false) (fun H172 => tkD (D119 :: []) H172 (fun H173 => ldB H173 (⟨b3, 0, none⟩ : Addr) (fun x175 => Q x175 H173)))))) else (st H155 (⟨b3, 0, none⟩ : Addr) (.bool false) (fun H176 => tkD (D119 :: []) H176 (fun H177 => ldB H177 (⟨b3, 0, none⟩ : Addr) (fun x179 => Q x179 H177)))))) (fun (J153 : Int → Hp → Prop) => Join (fun (s181 : Bool) (H182 : Hp) => if s181 = true then (J153 (44) H182) else (J153 (43) H182)) (fun (J180 : Bool → Hp → Prop) => ldB H152 (⟨b108, 0, none⟩ : Addr) (fun x183 => if x183 = true then (ldS H152 (⟨b18, 0, none⟩ : Addr) (fun x185 => J180 ((decide ((x185.size : Int) < 16))) H152)) else (J180 (false) H152)))))) ∨ (Lp H118 (D119 + 1) (dn r111 .ret) ∧ Up (putL H118 (D119 + 1) (exh (dn r111 .ret))) (fun H187 => tkD (D119 :: []) H187 (fun H188 => ldB H188 (⟨b3, 0, none⟩ : Addr) (fun x190 => Q x190 H188)))))))))))))) (fun (J103 : Bool → Hp → Prop) => if (!x5) = true then (J103 (true) H102) else (J103 ((!x85)) H102))))))))))))) (fun (J82 : Int → Hp → Prop) => ldS H81 (⟨b18, 0, none⟩ : Addr) (fun x191 => if decide ((x191.size : Int) < s80) = true then (ldS H81 (⟨b18, 0, none⟩ : Addr) (fun x193 => J82 ((x193.size : Int)) H81)) else (J82 (s80) H81)))) (fun (J79 : Int → Hp → Prop) => if decide ((Int.tmod a2 8) < 0) = true then (J79 ((IntKind.wrap .i64 ((Int.tmod a2 8) + 8))) H76) else (J79 ((Int.tmod a2 8)) H76)))) (fun (J74 : Bool → Hp → Prop) => if x65.isNone = true then (J74 (true) H72) else (J74 (false) H72)))))))))) (fun (J27 : Bool → Hp → Prop) => if decide (s23.2 < (a1.n : Int)) = true then (J27 ((decide (s23.2 < 4))) H24) else (J27 (false) H24))) k21 (⟨none, 0, 0⟩, 0) H20))))))))))))
set_option maxRecDepth 20000 in
set_option maxHeartbeats 4000000 in
theorem mosaiclaw04_HuffWord.calls (a0_0 : Ints 16) (a0_1 : Sl) (a1 : Sl) (a2 : Int) (w0 : World) (Q : Bool → Hp → Prop) (h : mosaiclaw04_HuffWord.s a0_0 a0_1 a1 a2 w0.heap Q) :
    Ca Try.prog 9 #[.agg (c25 a0_0 a0_1).toArray, .slice a1.a a1.n a1.c, .int .i64 a2] w0 (Rt mosaiclaw04_HuffWord.enc Q w0) := by
  refine ca_startM (c := _) Try.func9 rfl Try.ntmps9 rfl ?_
  have so : Sm w0 w0 := Sm.refl w0
  unfold mosaiclaw04_HuffWord.s at h
  refine wc_prune [(0, .agg (c25 a0_0 a0_1).toArray), (1, .slice a1.a a1.n a1.c), (2, .int .i64 a2)] ⟨rfl, rfl, rfl, trivial⟩ (fun f1 => ?_)
  refine wc_seq ?_
  refine wc_region ?_
  refine wl_newT (T := 25) (cs := (c25 a0_0 a0_1)) (ef_box rfl rfl) rfl so ?_; intro b1 w2 hb_b1 t_b1 k_b1 so
  have g_b1 := Nat.le_of_eq hb_b1.symm
  have hc := k_b1.ch (F := [])
  replace h := h b1 _ hc g_b1 t_b1.lt; clear hc
  refine wl_newT (T := 4) (cs := [.bool false]) (ef_alloc zero4 rfl) rfl so ?_; intro b3 w4 hb_b3 t_b3 k_b3 so
  have g_b3 := Nat.le_of_eq hb_b3.symm
  have hc := k_b3.ch (F := [])
  have n_b1_b3 : b1 ≠ b3 := fun e => by have := t_b1.lt; omega
  replace t_b1 := t_b1.keep k_b3
  refine wl_nil ?_
  refine wk_prune [(1, .slice a1.a a1.n a1.c), (2, .int .i64 a2), (3, .pointer (some (⟨b1, 0, none⟩ : Addr))), (6, .pointer (some (⟨b3, 0, none⟩ : Addr)))] ⟨rfl, rfl, rfl, rfl, trivial⟩ (fun f1 => ?_)
  refine wk_then ?_
  refine wc_seq ?_
  refine wc_region ?_
  replace h := h b3 _ hc g_b3 t_b3.lt; clear hc
  refine wl_callF (mosaiclaw04_alive.calls _ _ h) enter40 rfl trivial so ?_; intro x5 w6 h so
  obtain ⟨q7, h⟩ := h
  replace t_b1 := pv_bk q7 t_b1 (by simp)
  replace t_b3 := pv_bk q7 t_b3 (by simp)
  refine wl_val (at_assign rfl) rfl ?_
  refine wl_nil ?_
  refine wk_prune [(1, .slice a1.a a1.n a1.c), (2, .int .i64 a2), (3, .pointer (some (⟨b1, 0, none⟩ : Addr))), (6, .pointer (some (⟨b3, 0, none⟩ : Addr))), (7, .bool x5)] ⟨rfl, rfl, rfl, rfl, rfl, trivial⟩ (fun f1 => ?_)
  refine wk_then ?_
  refine wc_seq ?_
  refine wc_region ?_
  refine wl_val (at_loadA (cs := (c25 a0_0 a0_1)) Try.underlying25 rfl (by rw [len25]; exact sz25) rfl (ldA_full t_b1)) rfl ?_
  refine wl_callF (mosaiclaw04_twin.calls _ _ _ _ h) enter11 rfl trivial so ?_; intro x8 w9 h so
  obtain ⟨q10, h⟩ := h
  replace t_b3 := pv_bk q10 t_b3 (by simp)
  refine wl_callF (huff_New.calls _ _ _ _ h) enter17 rfl trivial so ?_; intro x11 w12 h so
  obtain ⟨q13, h⟩ := h
  replace t_b3 := pv_bk q13 t_b3 (by simp)
  refine wl_val (at_move rfl) rfl ?_
  refine wl_val (at_extract rfl rfl) rfl ?_
  refine wl_val (at_extract rfl rfl) rfl ?_
  refine wl_val (at_assign rfl) rfl ?_
  refine wl_val (at_assign rfl) rfl ?_
  refine wl_nil ?_
  refine wk_prune [(1, .slice a1.a a1.n a1.c), (2, .int .i64 a2), (6, .pointer (some (⟨b3, 0, none⟩ : Addr))), (7, .bool x5), (8, .pointer x11.1), (9, .int .i64 x11.2)] ⟨rfl, rfl, rfl, rfl, rfl, rfl, trivial⟩ (fun f1 => ?_)
  refine wk_then ?_
  refine wc_seq ?_
  refine wc_seq ?_
  refine wc_region ?_
  refine wl_val (at_move rfl) rfl ?_
  refine wl_val (at_neq rfl rfl) rfl ?_
  refine wl_nil ?_
  refine wk_prune [(1, .slice a1.a a1.n a1.c), (2, .int .i64 a2), (6, .pointer (some (⟨b3, 0, none⟩ : Addr))), (7, .bool x5), (8, .pointer x11.1), (33, .bool (x11.2 != 0))] ⟨rfl, rfl, rfl, rfl, rfl, rfl, trivial⟩ (fun f1 => ?_)
  refine wk_then ?_
  refine wc_cond rfl h (fun h => ?_) (fun h => ?_)
  · refine wc_seq ?_
    refine wc_region ?_
    refine wl_val (at_move rfl) rfl ?_
    refine wl_stT (v := .bool x5) (cs' := [.bool x5]) t_b3 (by first | decide | simp [ints_len, bools_len]) (by first | rfl | simp [List.set_append, ints_len, bools_len]) rfl so (fun q1 q2 => ef_store (sz := sz4) rfl rfl rfl q1 q2) ?_; intro w14 t_b3 s_w14 so
    have hc := s_w14.ch
    refine wl_nil ?_
    refine wk_prune [(6, .pointer (some (⟨b3, 0, none⟩ : Addr)))] ⟨rfl, trivial⟩ (fun f1 => ?_)
    refine wk_then ?_
    refine wc_ret ?_
    refine wk_thenR ?_
    replace h := h _ hc; clear hc
    refine wk_tk (K := fun H => H = w14.heap) (Ds := []) rfl so ?_; intro w15 hw so; rw [← hw] at h t_b3; clear hw
    exact wk_retR1 (x := x5) rfl ⟨by decide, _, rfl, loadVar_one Try.underlying4 rfl ((t_b3.cell 0).trans (by first | rfl | simp [List.getElem?_append, ints_len, bools_len]))⟩ rfl so h
  · refine wc_skip ?_
    refine wk_prune [(1, .slice a1.a a1.n a1.c), (2, .int .i64 a2), (6, .pointer (some (⟨b3, 0, none⟩ : Addr))), (7, .bool x5), (8, .pointer x11.1)] ⟨rfl, rfl, rfl, rfl, rfl, trivial⟩ (fun f1 => ?_)
    refine wk_then ?_
    refine wc_seq ?_
    refine wc_seq ?_
    refine wc_region ?_
    refine wl_val (at_move rfl) rfl ?_
    refine wl_val (at_eqlP Try.underlying32 rfl rfl) rfl ?_
    refine wl_nil ?_
    refine wk_prune [(1, .slice a1.a a1.n a1.c), (2, .int .i64 a2), (6, .pointer (some (⟨b3, 0, none⟩ : Addr))), (7, .bool x5), (8, .pointer x11.1), (36, .bool x11.1.isNone)] ⟨rfl, rfl, rfl, rfl, rfl, rfl, trivial⟩ (fun f1 => ?_)
    refine wk_then ?_
    refine wc_cond rfl h (fun h => ?_) (fun h => ?_)
    · refine wc_seq ?_
      refine wc_region ?_
      refine wl_stT (v := .bool false) (cs' := [.bool false]) t_b3 (by first | decide | simp [ints_len, bools_len]) (by first | rfl | simp [List.set_append, ints_len, bools_len]) rfl so (fun q1 q2 => ef_store (sz := sz4) rfl rfl rfl q1 q2) ?_; intro w16 t_b3 s_w16 so
      have hc := s_w16.ch
      refine wl_nil ?_
      refine wk_prune [(6, .pointer (some (⟨b3, 0, none⟩ : Addr)))] ⟨rfl, trivial⟩ (fun f1 => ?_)
      refine wk_then ?_
      refine wc_ret ?_
      refine wk_thenR ?_
      replace h := h _ hc; clear hc
      refine wk_tk (K := fun H => H = w16.heap) (Ds := []) rfl so ?_; intro w17 hw so; rw [← hw] at h t_b3; clear hw
      exact wk_retR1 (x := false) rfl ⟨by decide, _, rfl, loadVar_one Try.underlying4 rfl ((t_b3.cell 0).trans (by first | rfl | simp [List.getElem?_append, ints_len, bools_len]))⟩ rfl so h
    · refine wc_skip ?_
      refine wk_prune [(1, .slice a1.a a1.n a1.c), (2, .int .i64 a2), (6, .pointer (some (⟨b3, 0, none⟩ : Addr))), (7, .bool x5), (8, .pointer x11.1)] ⟨rfl, rfl, rfl, rfl, rfl, trivial⟩ (fun f1 => ?_)
      refine wk_then ?_
      refine wc_seq ?_
      refine wc_region ?_
      refine wl_newT (T := 9) (cs := [.string ByteArray.empty]) (ef_alloc zero9 rfl) rfl so ?_; intro b18 w19 hb_b18 t_b18 k_b18 so
      have g_b18 := Nat.le_of_eq hb_b18.symm
      have hc := k_b18.ch (F := [])
      have n_b3_b18 : b3 ≠ b18 := fun e => by have := t_b3.lt; omega
      replace t_b3 := t_b3.keep k_b18
      refine wl_stT (v := .string (⟨#[]⟩ : ByteArray)) (cs' := [.string (⟨#[]⟩ : ByteArray)]) t_b18 (by first | decide | simp [ints_len, bools_len]) (by first | rfl | simp [List.set_append, ints_len, bools_len]) rfl so (fun q1 q2 => ef_store (sz := sz9) rfl rfl rfl q1 q2) ?_; intro w20 t_b18 s_w20 so
      replace t_b3 := t_b3.same s_w20 (n_b3_b18)
      replace hc := ch_same hc s_w20 (.inr g_b18)
      refine wl_nil ?_
      refine wk_prune [(1, .slice a1.a a1.n a1.c), (2, .int .i64 a2), (6, .pointer (some (⟨b3, 0, none⟩ : Addr))), (7, .bool x5), (8, .pointer x11.1), (10, .pointer (some (⟨b18, 0, none⟩ : Addr)))] ⟨rfl, rfl, rfl, rfl, rfl, rfl, trivial⟩ (fun f1 => ?_)
      refine wk_then ?_
      refine wc_seq ?_
      refine wc_region ?_
      refine wl_val (at_assign rfl) rfl ?_
      refine wl_nil ?_
      refine wk_prune [(1, .slice a1.a a1.n a1.c), (2, .int .i64 a2), (6, .pointer (some (⟨b3, 0, none⟩ : Addr))), (7, .bool x5), (8, .pointer x11.1), (10, .pointer (some (⟨b18, 0, none⟩ : Addr))), (11, .slice none 0 0)] ⟨rfl, rfl, rfl, rfl, rfl, rfl, rfl, trivial⟩ (fun f1 => ?_)
      refine wk_then ?_
      refine wc_seq ?_
      refine wc_seq ?_
      refine wc_region ?_
      refine wl_val (at_assign rfl) rfl ?_
      refine wl_nil ?_
      refine wk_prune [(1, .slice a1.a a1.n a1.c), (2, .int .i64 a2), (6, .pointer (some (⟨b3, 0, none⟩ : Addr))), (7, .bool x5), (8, .pointer x11.1), (10, .pointer (some (⟨b18, 0, none⟩ : Addr))), (11, .slice none 0 0), (12, .int .i64 0)] ⟨rfl, rfl, rfl, rfl, rfl, rfl, rfl, rfl, trivial⟩ (fun f1 => ?_)
      refine wk_then ?_
      refine wc_block ?_
      replace h := h b18 _ hc g_b18 t_b18.lt; clear hc
      replace h := h t_b18
      obtain ⟨k21, h⟩ := h
      refine wc_loop (fun k a w => ∃ (s23 : Sl × Int) (f1 : Nat → Value), a = ac 164 (en f1 [(1, .slice a1.a a1.n a1.c), (2, .int .i64 a2), (6, .pointer (some (⟨b3, 0, none⟩ : Addr))), (7, .bool x5), (8, .pointer x11.1), (10, .pointer (some (⟨b18, 0, none⟩ : Addr))), (11, .slice s23.1.a s23.1.n s23.1.c), (12, .int .i64 s23.2)]) (mks []) ∧ Sm w0 w ∧ (Bk w.heap b3 4 [.bool false] ∧ True) ∧ Fix _ k s23 w.heap) k21 ⟨(⟨none, 0, 0⟩, 0), _, ac_again ⟨rfl, rfl, rfl, rfl, rfl, rfl, rfl, rfl, trivial⟩, so, ⟨t_b3, trivial⟩, h⟩ ?_
      rintro k22 a25 w24 ⟨s23, f1, rfl, so, ⟨t_b3, _⟩, h⟩
      rcases k22 with _ | k22
      · exact h.elim
      replace h := Fix.un h; refine wc_in ?_
      refine wc_seq ?_
      refine wc_seq ?_
      refine wc_joinG (w0 := w0) (fun (H : Hp) => Bk H b3 4 [.bool false] ∧ True) (fun (s28 : Bool) => [(1, .slice a1.a a1.n a1.c), (2, .int .i64 a2), (6, .pointer (some (⟨b3, 0, none⟩ : Addr))), (7, .bool x5), (8, .pointer x11.1), (10, .pointer (some (⟨b18, 0, none⟩ : Addr))), (11, .slice s23.1.a s23.1.n s23.1.c), (12, .int .i64 s23.2), (44, .bool s28)]) (fun (s28 : Bool) => (mks [])) h ?_ ?_
      · rintro s28 w29 f1 h ⟨t_b3, _⟩ so; refine wk_then ?_
        refine wc_cond rfl h (fun h => ?_) (fun h => ?_)
        · refine wc_skip ?_
          refine wk_prune [(1, .slice a1.a a1.n a1.c), (2, .int .i64 a2), (6, .pointer (some (⟨b3, 0, none⟩ : Addr))), (7, .bool x5), (8, .pointer x11.1), (10, .pointer (some (⟨b18, 0, none⟩ : Addr))), (11, .slice s23.1.a s23.1.n s23.1.c), (12, .int .i64 s23.2)] ⟨rfl, rfl, rfl, rfl, rfl, rfl, rfl, rfl, trivial⟩ (fun f1 => ?_)
          refine wk_then ?_
          refine wc_seq ?_
          refine wc_block ?_
          refine wc_seq ?_
          refine wc_region ?_
          refine wl_val (at_move rfl) rfl ?_
          refine wl_val (at_move rfl) rfl ?_
          obtain ⟨q30, q31, p32, q33, h⟩ := h
          refine wl_val (at_ixAddrL Try.underlying23 sz5 (sl_some q33) rfl q30 q31) rfl ?_
          obtain ⟨x34, q35, h⟩ := h
          refine wl_val (at_load Try.underlying5 rfl rfl q35) rfl ?_
          refine wl_val (at_rem rfl rfl (by decide)) rfl ?_
          refine wl_val (at_assign rfl) rfl ?_
          refine wl_nil ?_
          refine wk_prune [(1, .slice a1.a a1.n a1.c), (2, .int .i64 a2), (6, .pointer (some (⟨b3, 0, none⟩ : Addr))), (7, .bool x5), (8, .pointer x11.1), (10, .pointer (some (⟨b18, 0, none⟩ : Addr))), (11, .slice s23.1.a s23.1.n s23.1.c), (12, .int .i64 s23.2), (13, .int .u8 (Int.tmod x34 255))] ⟨rfl, rfl, rfl, rfl, rfl, rfl, rfl, rfl, rfl, trivial⟩ (fun f1 => ?_)
          refine wk_then ?_
          refine wc_seq ?_
          refine wc_region ?_
          refine wl_val (at_move rfl) rfl ?_
          refine wl_val (at_move rfl) rfl ?_
          obtain ⟨i39, i39a, i39b, i39c, i39d⟩ := info5
          refine wl_newS (ef_buildSlice (cs := [.int .u8 (Int.tmod x34 255)]) (ps := [(0, .int .u8 (Int.tmod x34 255))]) Try.underlying23 i39a i39b rfl (by rw [i39c]; decide) (by rw [i39c]; exact fill_full (vs := [.int .u8 (Int.tmod x34 255)]) rfl (by simp [Value.cells]) (by simp [Value.cells]) rfl (by simp))) rfl so (ones_cons rfl ones_nil) h ?_; intro p36 w37 h r38 so
          obtain ⟨q40, h⟩ := h
          replace t_b3 := pv_bk q40 t_b3 (by simp)
          obtain ⟨i41, i41a, i41b, i41c, i41d⟩ := info5
          refine wl_ap (fx_append (s := s23.1) (t := ⟨(some p36), 1, 1⟩) (m := 1) (xs := [.int .u8 (Int.tmod x34 255)]) Try.underlying23 Try.underlying23 i41a i41b i41c i41d rfl rfl rfl (by first | rfl | simp) r38 h) rfl so ?_; intro l42 w43 h so
          obtain ⟨q44, h⟩ := h
          replace t_b3 := pv_bk q44 t_b3 (by simp)
          refine wl_val (at_assign rfl) rfl ?_
          refine wl_nil ?_
          refine wk_prune [(1, .slice a1.a a1.n a1.c), (2, .int .i64 a2), (6, .pointer (some (⟨b3, 0, none⟩ : Addr))), (7, .bool x5), (8, .pointer x11.1), (10, .pointer (some (⟨b18, 0, none⟩ : Addr))), (11, .slice l42.a l42.n l42.c), (12, .int .i64 s23.2), (13, .int .u8 (Int.tmod x34 255))] ⟨rfl, rfl, rfl, rfl, rfl, rfl, rfl, rfl, rfl, trivial⟩ (fun f1 => ?_)
          refine wk_then ?_
          refine wc_seq ?_
          refine wc_region ?_
          refine wl_val (at_assign rfl) rfl ?_
          refine wl_nil ?_
          refine wk_prune [(1, .slice a1.a a1.n a1.c), (2, .int .i64 a2), (6, .pointer (some (⟨b3, 0, none⟩ : Addr))), (7, .bool x5), (8, .pointer x11.1), (10, .pointer (some (⟨b18, 0, none⟩ : Addr))), (11, .slice l42.a l42.n l42.c), (12, .int .i64 s23.2), (13, .int .u8 (Int.tmod x34 255)), (14, .int .i64 7)] ⟨rfl, rfl, rfl, rfl, rfl, rfl, rfl, rfl, rfl, rfl, trivial⟩ (fun f1 => ?_)
          refine wk_then ?_
          refine wc_block ?_
          obtain ⟨k45, h⟩ := h
          refine wc_loop (fun k a w => ∃ (s47 : Int) (f1 : Nat → Value), a = ac 164 (en f1 [(1, .slice a1.a a1.n a1.c), (2, .int .i64 a2), (6, .pointer (some (⟨b3, 0, none⟩ : Addr))), (7, .bool x5), (8, .pointer x11.1), (10, .pointer (some (⟨b18, 0, none⟩ : Addr))), (11, .slice l42.a l42.n l42.c), (12, .int .i64 s23.2), (13, .int .u8 (Int.tmod x34 255)), (14, .int .i64 s47)]) (mks []) ∧ Sm w0 w ∧ (Bk w.heap b3 4 [.bool false] ∧ True) ∧ Fix _ k s47 w.heap) k45 ⟨(7), _, ac_again ⟨rfl, rfl, rfl, rfl, rfl, rfl, rfl, rfl, rfl, rfl, trivial⟩, so, ⟨t_b3, trivial⟩, h⟩ ?_
          rintro k46 a49 w48 ⟨s47, f1, rfl, so, ⟨t_b3, _⟩, h⟩
          rcases k46 with _ | k46
          · exact h.elim
          replace h := Fix.un h; refine wc_in ?_
          refine wc_seq ?_
          refine wc_seq ?_
          refine wc_region ?_
          refine wl_val (at_move rfl) rfl ?_
          refine wl_val (at_geq rfl rfl) rfl ?_
          refine wl_nil ?_
          refine wk_prune [(1, .slice a1.a a1.n a1.c), (2, .int .i64 a2), (6, .pointer (some (⟨b3, 0, none⟩ : Addr))), (7, .bool x5), (8, .pointer x11.1), (10, .pointer (some (⟨b18, 0, none⟩ : Addr))), (11, .slice l42.a l42.n l42.c), (12, .int .i64 s23.2), (13, .int .u8 (Int.tmod x34 255)), (14, .int .i64 s47), (57, .bool (decide ((0 : Int) ≤ s47)))] ⟨rfl, rfl, rfl, rfl, rfl, rfl, rfl, rfl, rfl, rfl, rfl, trivial⟩ (fun f1 => ?_)
          refine wk_then ?_
          refine wc_cond rfl h (fun h => ?_) (fun h => ?_)
          · refine wc_skip ?_
            refine wk_prune [(1, .slice a1.a a1.n a1.c), (2, .int .i64 a2), (6, .pointer (some (⟨b3, 0, none⟩ : Addr))), (7, .bool x5), (8, .pointer x11.1), (10, .pointer (some (⟨b18, 0, none⟩ : Addr))), (11, .slice l42.a l42.n l42.c), (12, .int .i64 s23.2), (13, .int .u8 (Int.tmod x34 255)), (14, .int .i64 s47)] ⟨rfl, rfl, rfl, rfl, rfl, rfl, rfl, rfl, rfl, rfl, trivial⟩ (fun f1 => ?_)
            refine wk_then ?_
            refine wc_seq ?_
            refine wc_block ?_
            refine wc_wo [0, 0, 0, 6, 14, 0, 0, 96, 224, 480, 1022, 2047, 4095] mixed (by kernel_rfl) so ?_; intro w51 hw so; rw [← hw] at h t_b3; clear hw
            refine wo_pure (m' := 2) 1 rfl (by kernel_rfl) rfl rfl (fun H => at_move rfl) ?_
            refine wo_pure (m' := 6) 2 rfl (by kernel_rfl) rfl rfl (fun H => at_move rfl) ?_
            obtain ⟨q52, h⟩ := h
            refine wo_pure (m' := 14) 3 rfl (by kernel_rfl) rfl rfl (fun H => at_shr rfl rfl q52) ?_
            refine wo_pure (m' := 30) 4 rfl (by kernel_rfl) rfl rfl (fun H => at_and rfl rfl) ?_
            refine wo_pure (m' := 62) 5 rfl (by kernel_rfl) rfl rfl (fun H => at_move rfl) ?_
            refine wo_pure (m' := 126) 6 rfl (by kernel_rfl) rfl rfl (fun H => at_move rfl) ?_
            obtain ⟨q53, h⟩ := h
            refine wo_pure (m' := 254) 7 rfl (by kernel_rfl) rfl rfl (fun H => at_shr rfl rfl q53) ?_
            refine wo_pure (m' := 510) 8 rfl (by kernel_rfl) rfl rfl (fun H => at_and rfl rfl) ?_
            refine wo_pure (m' := 1022) 9 rfl (by kernel_rfl) rfl rfl (fun H => at_add rfl rfl) ?_
            obtain ⟨q54, q55, q56, h⟩ := h
            refine wo_pure (m' := 2046) 10 rfl (by kernel_rfl) rfl rfl (fun H => at_subS Try.underlying9 rfl rfl rfl q54 q55 q56) ?_
            obtain ⟨x57, q58, h⟩ := h
            refine wo_load (m' := 2047) 0 (fun H => cellAt H (⟨b18, 0, none⟩ : Addr) = some (.string x57)) rfl (by kernel_rfl) rfl rfl (fun H q58 => at_load Try.underlying9 rfl rfl q58) q58 ?_
            obtain ⟨q59, h⟩ := h
            refine wo_pure (m' := 4095) 11 rfl (by kernel_rfl) rfl rfl (fun H => at_cat rfl rfl q59) ?_
            refine wo_take (m' := 8191) 12 [true] rfl (by kernel_rfl) rfl (by kernel_rfl) ?_
            refine wl_st (v := .string (x57 ++ ((⟨#[48, 49]⟩ : ByteArray).extract (Int.toNat (Go.bits .and .u8 (shrI .u8 (Int.tmod x34 255) s47) 1)) (Int.toNat (IntKind.wrap .u8 ((Go.bits .and .u8 (shrI .u8 (Int.tmod x34 255) s47) 1) + 1)))))) h rfl so (fun q1 q2 => ef_store (sz := sz9) rfl rfl rfl q1 q2) ?_; intro w60 h so
            obtain ⟨q61, h⟩ := h
            replace t_b3 := pv_bk q61 t_b3 (by simp)
            refine wl_nil ?_
            refine wk_tq trivial ?_
            refine wo_done (by kernel_rfl) ?_
            refine wk_blkN ?_
            refine wk_prune [(1, .slice a1.a a1.n a1.c), (2, .int .i64 a2), (6, .pointer (some (⟨b3, 0, none⟩ : Addr))), (7, .bool x5), (8, .pointer x11.1), (10, .pointer (some (⟨b18, 0, none⟩ : Addr))), (11, .slice l42.a l42.n l42.c), (12, .int .i64 s23.2), (13, .int .u8 (Int.tmod x34 255)), (14, .int .i64 s47)] ⟨rfl, rfl, rfl, rfl, rfl, rfl, rfl, rfl, rfl, rfl, trivial⟩ (fun f1 => ?_)
            refine wk_then ?_
            refine wc_region ?_
            refine wl_val (at_move rfl) rfl ?_
            refine wl_val (at_sub rfl rfl) rfl ?_
            refine wl_val (at_assign rfl) rfl ?_
            refine wl_nil ?_
            exact wk_again ⟨((IntKind.wrap .i64 (s47 - 1))), _, ac_again ⟨rfl, rfl, rfl, rfl, rfl, rfl, rfl, rfl, rfl, rfl, trivial⟩, so, ⟨t_b3, trivial⟩, h⟩
          · refine wc_exit ?_
            refine wk_thenE ?_
            refine wk_thenE ?_
            refine wk_blkE ?_
            refine wk_blkN ?_
            refine wk_prune [(1, .slice a1.a a1.n a1.c), (2, .int .i64 a2), (6, .pointer (some (⟨b3, 0, none⟩ : Addr))), (7, .bool x5), (8, .pointer x11.1), (10, .pointer (some (⟨b18, 0, none⟩ : Addr))), (11, .slice l42.a l42.n l42.c), (12, .int .i64 s23.2)] ⟨rfl, rfl, rfl, rfl, rfl, rfl, rfl, rfl, trivial⟩ (fun f1 => ?_)
            refine wk_then ?_
            refine wc_region ?_
            refine wl_val (at_move rfl) rfl ?_
            refine wl_val (at_add rfl rfl) rfl ?_
            refine wl_val (at_assign rfl) rfl ?_
            refine wl_nil ?_
            exact wk_again ⟨(l42, (IntKind.wrap .i64 (s23.2 + 1))), _, ac_again ⟨rfl, rfl, rfl, rfl, rfl, rfl, rfl, rfl, trivial⟩, so, ⟨t_b3, trivial⟩, h⟩
        · refine wc_exit ?_
          refine wk_thenE ?_
          refine wk_thenE ?_
          refine wk_blkE ?_
          refine wk_prune [(2, .int .i64 a2), (6, .pointer (some (⟨b3, 0, none⟩ : Addr))), (7, .bool x5), (8, .pointer x11.1), (10, .pointer (some (⟨b18, 0, none⟩ : Addr))), (11, .slice s23.1.a s23.1.n s23.1.c)] ⟨rfl, rfl, rfl, rfl, rfl, rfl, trivial⟩ (fun f1 => ?_)
          refine wk_then ?_
          refine wc_seq ?_
          refine wc_region ?_
          refine wl_val (at_move rfl) rfl ?_
          obtain ⟨b62, q63, q64, h⟩ := h
          refine wl_val (at_str (s := s23.1) Try.underlying23 Try.underlying9 Try.underlying5 rfl q63 q64) rfl ?_
          refine wl_val (at_move rfl) rfl ?_
          refine wl_val (at_lenL Try.underlying23 rfl) rfl ?_
          refine wl_callF (bits_Open.calls _ _ _ _ _ h) enter31 rfl trivial so ?_; intro x65 w66 h so
          obtain ⟨q67, h⟩ := h
          replace t_b3 := pv_bk q67 t_b3 (by simp)
          refine wl_newT (T := 51) (cs := [.pointer none]) (ef_alloc zero51 rfl) rfl so ?_; intro b68 w69 hb_b68 t_b68 k_b68 so
          have g_b68 := Nat.le_of_eq hb_b68.symm
          have hc := k_b68.ch (F := [])
          have n_b3_b68 : b3 ≠ b68 := fun e => by have := t_b3.lt; omega
          replace t_b3 := t_b3.keep k_b68
          refine wl_stT (v := .pointer x65) (cs' := [.pointer x65]) t_b68 (by first | decide | simp [ints_len, bools_len]) (by first | rfl | simp [List.set_append, ints_len, bools_len]) rfl so (fun q1 q2 => ef_store (sz := sz51) rfl rfl rfl q1 q2) ?_; intro w70 t_b68 s_w70 so
          replace t_b3 := t_b3.same s_w70 (n_b3_b68)
          replace hc := ch_same hc s_w70 (.inr g_b68)
          refine wl_nil ?_
          refine wk_prune [(2, .int .i64 a2), (6, .pointer (some (⟨b3, 0, none⟩ : Addr))), (7, .bool x5), (8, .pointer x11.1), (10, .pointer (some (⟨b18, 0, none⟩ : Addr))), (15, .pointer (some (⟨b68, 0, none⟩ : Addr)))] ⟨rfl, rfl, rfl, rfl, rfl, rfl, trivial⟩ (fun f1 => ?_)
          refine wk_then ?_
          refine wc_seq ?_
          refine wc_region ?_
          refine wl_val (at_move rfl) rfl ?_
          replace h := h b68 _ hc g_b68 t_b68.lt; clear hc
          refine wl_callF (huff_Table_All.calls _ _ _ h) enter41 rfl trivial so ?_; intro x71 w72 h so
          obtain ⟨q73, h⟩ := h
          replace t_b3 := pv_bk q73 t_b3 (by simp)
          replace t_b68 := pv_bk q73 t_b68 (by simp)
          refine wl_val (at_assign rfl) rfl ?_
          refine wl_nil ?_
          refine wk_prune [(2, .int .i64 a2), (6, .pointer (some (⟨b3, 0, none⟩ : Addr))), (7, .bool x5), (8, .pointer x11.1), (10, .pointer (some (⟨b18, 0, none⟩ : Addr))), (15, .pointer (some (⟨b68, 0, none⟩ : Addr))), (16, .func (.func 63) #[] #[.pointer (some x71)])] ⟨rfl, rfl, rfl, rfl, rfl, rfl, rfl, trivial⟩ (fun f1 => ?_)
          refine wk_then ?_
          refine wc_seq ?_
          refine wc_seq ?_
          refine wc_joinG (w0 := w0) (fun (H : Hp) => Bk H b3 4 [.bool false] ∧ Bk H b68 51 [.pointer x65] ∧ True) (fun (s75 : Bool) => [(2, .int .i64 a2), (6, .pointer (some (⟨b3, 0, none⟩ : Addr))), (7, .bool x5), (8, .pointer x11.1), (10, .pointer (some (⟨b18, 0, none⟩ : Addr))), (15, .pointer (some (⟨b68, 0, none⟩ : Addr))), (16, .func (.func 63) #[] #[.pointer (some x71)]), (84, .bool s75)]) (fun (s75 : Bool) => (mks [])) h ?_ ?_
          · rintro s75 w76 f1 h ⟨t_b3, t_b68, _⟩ so; refine wk_then ?_
            refine wc_cond rfl h (fun h => ?_) (fun h => ?_)
            · refine wc_seq ?_
              refine wc_region ?_
              refine wl_stT (v := .bool false) (cs' := [.bool false]) t_b3 (by first | decide | simp [ints_len, bools_len]) (by first | rfl | simp [List.set_append, ints_len, bools_len]) rfl so (fun q1 q2 => ef_store (sz := sz4) rfl rfl rfl q1 q2) ?_; intro w77 t_b3 s_w77 so
              replace t_b68 := t_b68.same s_w77 (Ne.symm n_b3_b68)
              have hc := s_w77.ch
              refine wl_nil ?_
              refine wk_prune [(6, .pointer (some (⟨b3, 0, none⟩ : Addr)))] ⟨rfl, trivial⟩ (fun f1 => ?_)
              refine wk_then ?_
              refine wc_ret ?_
              refine wk_thenR ?_
              replace h := h _ hc; clear hc
              refine wk_tk (K := fun H => H = w77.heap) (Ds := []) rfl so ?_; intro w78 hw so; rw [← hw] at h t_b3; clear hw
              exact wk_retR1 (x := false) rfl ⟨by decide, _, rfl, loadVar_one Try.underlying4 rfl ((t_b3.cell 0).trans (by first | rfl | simp [List.getElem?_append, ints_len, bools_len]))⟩ rfl so h
            · refine wc_skip ?_
              refine wk_prune [(2, .int .i64 a2), (6, .pointer (some (⟨b3, 0, none⟩ : Addr))), (7, .bool x5), (8, .pointer x11.1), (10, .pointer (some (⟨b18, 0, none⟩ : Addr))), (15, .pointer (some (⟨b68, 0, none⟩ : Addr))), (16, .func (.func 63) #[] #[.pointer (some x71)])] ⟨rfl, rfl, rfl, rfl, rfl, rfl, rfl, trivial⟩ (fun f1 => ?_)
              refine wk_then ?_
              refine wc_seq ?_
              refine wc_region ?_
              refine wl_val (at_move rfl) rfl ?_
              refine wl_val (at_rem rfl rfl (by decide)) rfl ?_
              refine wl_val (at_assign rfl) rfl ?_
              refine wl_nil ?_
              refine wk_prune [(6, .pointer (some (⟨b3, 0, none⟩ : Addr))), (7, .bool x5), (8, .pointer x11.1), (10, .pointer (some (⟨b18, 0, none⟩ : Addr))), (15, .pointer (some (⟨b68, 0, none⟩ : Addr))), (16, .func (.func 63) #[] #[.pointer (some x71)]), (17, .int .i64 (Int.tmod a2 8))] ⟨rfl, rfl, rfl, rfl, rfl, rfl, rfl, trivial⟩ (fun f1 => ?_)
              refine wk_then ?_
              refine wc_seq ?_
              refine wc_joinG (w0 := w0) (fun (H : Hp) => Bk H b3 4 [.bool false] ∧ Bk H b68 51 [.pointer x65] ∧ True) (fun (s80 : Int) => [(6, .pointer (some (⟨b3, 0, none⟩ : Addr))), (7, .bool x5), (8, .pointer x11.1), (10, .pointer (some (⟨b18, 0, none⟩ : Addr))), (15, .pointer (some (⟨b68, 0, none⟩ : Addr))), (16, .func (.func 63) #[] #[.pointer (some x71)]), (17, .int .i64 s80)]) (fun (s80 : Int) => (mks [])) h ?_ ?_
              · rintro s80 w81 f1 h ⟨t_b3, t_b68, _⟩ so; refine wk_then ?_
                refine wc_seq ?_
                refine wc_joinG (w0 := w0) (fun (H : Hp) => Bk H b3 4 [.bool false] ∧ Bk H b68 51 [.pointer x65] ∧ True) (fun (s83 : Int) => [(6, .pointer (some (⟨b3, 0, none⟩ : Addr))), (7, .bool x5), (8, .pointer x11.1), (10, .pointer (some (⟨b18, 0, none⟩ : Addr))), (15, .pointer (some (⟨b68, 0, none⟩ : Addr))), (16, .func (.func 63) #[] #[.pointer (some x71)]), (17, .int .i64 s83)]) (fun (s83 : Int) => (mks [])) h ?_ ?_
                · rintro s83 w84 f1 h ⟨t_b3, t_b68, _⟩ so; refine wk_then ?_
                  refine wc_seq ?_
                  refine wc_region ?_
                  refine wl_val (at_load (v := .pointer x65) Try.underlying51 rfl rfl ((t_b68.cell 0).trans (by first | rfl | simp [List.getElem?_append, ints_len, bools_len]))) rfl ?_
                  refine wl_val (at_move rfl) rfl ?_
                  refine wl_callF (bits_Source_Skip.calls _ _ _ _ h) enter33 rfl trivial so ?_; intro x85 w86 h so
                  obtain ⟨q87, h⟩ := h
                  replace t_b3 := pv_bk q87 t_b3 (by simp)
                  replace t_b68 := pv_bk q87 t_b68 (by simp)
                  refine wl_val (at_assign rfl) rfl ?_
                  refine wl_nil ?_
                  refine wk_prune [(6, .pointer (some (⟨b3, 0, none⟩ : Addr))), (7, .bool x5), (8, .pointer x11.1), (10, .pointer (some (⟨b18, 0, none⟩ : Addr))), (15, .pointer (some (⟨b68, 0, none⟩ : Addr))), (16, .func (.func 63) #[] #[.pointer (some x71)]), (17, .int .i64 s83), (18, .bool x85)] ⟨rfl, rfl, rfl, rfl, rfl, rfl, rfl, rfl, trivial⟩ (fun f1 => ?_)
                  refine wk_then ?_
                  refine wc_seq ?_
                  refine wc_region ?_
                  obtain ⟨x88, q89, h⟩ := h
                  refine wl_val (at_load Try.underlying9 rfl rfl q89) rfl ?_
                  refine wl_val (at_move rfl) rfl ?_
                  obtain ⟨q90, q91, h⟩ := h
                  refine wl_val (at_subSl Try.underlying9 rfl rfl q90 q91) rfl ?_
                  refine wl_st (v := .string (x88.extract (Int.toNat s83) x88.size)) h rfl so (fun q1 q2 => ef_store (sz := sz9) rfl rfl rfl q1 q2) ?_; intro w92 h so
                  obtain ⟨q93, h⟩ := h
                  replace t_b3 := pv_bk q93 t_b3 (by simp)
                  replace t_b68 := pv_bk q93 t_b68 (by simp)
                  refine wl_nil ?_
                  refine wk_prune [(6, .pointer (some (⟨b3, 0, none⟩ : Addr))), (7, .bool x5), (8, .pointer x11.1), (10, .pointer (some (⟨b18, 0, none⟩ : Addr))), (15, .pointer (some (⟨b68, 0, none⟩ : Addr))), (16, .func (.func 63) #[] #[.pointer (some x71)]), (18, .bool x85)] ⟨rfl, rfl, rfl, rfl, rfl, rfl, rfl, trivial⟩ (fun f1 => ?_)
                  refine wk_then ?_
                  refine wc_seq ?_
                  refine wc_region ?_
                  refine wl_val (at_move rfl) rfl ?_
                  refine wl_val (at_load (v := .pointer x65) Try.underlying51 rfl rfl ((t_b68.cell 0).trans (by first | rfl | simp [List.getElem?_append, ints_len, bools_len]))) rfl ?_
                  refine wl_callF (huff_Table_Read.calls _ _ _ _ h) enter30 rfl trivial so ?_; intro x94 w95 h so
                  obtain ⟨q96, h⟩ := h
                  replace t_b3 := pv_bk q96 t_b3 (by simp)
                  replace t_b68 := pv_bk q96 t_b68 (by simp)
                  refine wl_val (at_move rfl) rfl ?_
                  refine wl_val (at_extract rfl rfl) rfl ?_
                  refine wl_val (at_extract rfl rfl) rfl ?_
                  refine wl_newT (T := 5) (cs := [.int .u8 0]) (ef_alloc zero5 rfl) rfl so ?_; intro b97 w98 hb_b97 t_b97 k_b97 so
                  have g_b97 := Nat.le_of_eq hb_b97.symm
                  have hc := k_b97.ch (F := [])
                  have n_b3_b97 : b3 ≠ b97 := fun e => by have := t_b3.lt; omega
                  replace t_b3 := t_b3.keep k_b97
                  have n_b68_b97 : b68 ≠ b97 := fun e => by have := t_b68.lt; omega
                  replace t_b68 := t_b68.keep k_b97
                  replace h := h b97 _ hc g_b97 t_b97.lt; clear hc
                  refine wl_newT (T := 27) (cs := [.int .i64 0]) (ef_alloc zero27 rfl) rfl so ?_; intro b99 w100 hb_b99 t_b99 k_b99 so
                  have g_b99 := Nat.le_of_eq hb_b99.symm
                  have hc := k_b99.ch (F := [])
                  have n_b3_b99 : b3 ≠ b99 := fun e => by have := t_b3.lt; omega
                  replace t_b3 := t_b3.keep k_b99
                  have n_b68_b99 : b68 ≠ b99 := fun e => by have := t_b68.lt; omega
                  replace t_b68 := t_b68.keep k_b99
                  have n_b97_b99 : b97 ≠ b99 := fun e => by have := t_b97.lt; omega
                  replace t_b97 := t_b97.keep k_b99
                  refine wl_stT (v := .int .u8 x94.1) (cs' := [.int .u8 x94.1]) t_b97 (by first | decide | simp [ints_len, bools_len]) (by first | rfl | simp [List.set_append, ints_len, bools_len]) rfl so (fun q1 q2 => ef_store (sz := sz5) rfl rfl rfl q1 q2) ?_; intro w101 t_b97 s_w101 so
                  replace t_b3 := t_b3.same s_w101 (n_b3_b97)
                  replace t_b68 := t_b68.same s_w101 (n_b68_b97)
                  replace t_b99 := t_b99.same s_w101 (Ne.symm n_b97_b99)
                  replace hc := ch_more hc s_w101
                  refine wl_stT (v := .int .i64 x94.2) (cs' := [.int .i64 x94.2]) t_b99 (by first | decide | simp [ints_len, bools_len]) (by first | rfl | simp [List.set_append, ints_len, bools_len]) rfl so (fun q1 q2 => ef_store (sz := sz27) rfl rfl rfl q1 q2) ?_; intro w102 t_b99 s_w102 so
                  replace t_b3 := t_b3.same s_w102 (n_b3_b99)
                  replace t_b68 := t_b68.same s_w102 (n_b68_b99)
                  replace t_b97 := t_b97.same s_w102 (n_b97_b99)
                  replace hc := ch_same hc s_w102 (.inr g_b99)
                  refine wl_nil ?_
                  refine wk_prune [(6, .pointer (some (⟨b3, 0, none⟩ : Addr))), (7, .bool x5), (10, .pointer (some (⟨b18, 0, none⟩ : Addr))), (15, .pointer (some (⟨b68, 0, none⟩ : Addr))), (16, .func (.func 63) #[] #[.pointer (some x71)]), (18, .bool x85), (19, .pointer (some (⟨b97, 0, none⟩ : Addr))), (20, .pointer (some (⟨b99, 0, none⟩ : Addr)))] ⟨rfl, rfl, rfl, rfl, rfl, rfl, rfl, rfl, trivial⟩ (fun f1 => ?_)
                  refine wk_then ?_
                  refine wc_seq ?_
                  replace h := h b99 _ hc g_b99 t_b99.lt; clear hc
                  refine wc_seq ?_
                  refine wc_joinG (w0 := w0) (fun (H : Hp) => Bk H b3 4 [.bool false] ∧ Bk H b68 51 [.pointer x65] ∧ Bk H b97 5 [.int .u8 x94.1] ∧ Bk H b99 27 [.int .i64 x94.2] ∧ True) (fun (s104 : Bool) => [(6, .pointer (some (⟨b3, 0, none⟩ : Addr))), (10, .pointer (some (⟨b18, 0, none⟩ : Addr))), (15, .pointer (some (⟨b68, 0, none⟩ : Addr))), (16, .func (.func 63) #[] #[.pointer (some x71)]), (19, .pointer (some (⟨b97, 0, none⟩ : Addr))), (20, .pointer (some (⟨b99, 0, none⟩ : Addr))), (114, .bool s104)]) (fun (s104 : Bool) => (mks [])) h ?_ ?_
                  · rintro s104 w105 f1 h ⟨t_b3, t_b68, t_b97, t_b99, _⟩ so; refine wk_then ?_
                    refine wc_cond rfl h (fun h => ?_) (fun h => ?_)
                    · refine wc_seq ?_
                      refine wc_region ?_
                      refine wl_stT (v := .bool false) (cs' := [.bool false]) t_b3 (by first | decide | simp [ints_len, bools_len]) (by first | rfl | simp [List.set_append, ints_len, bools_len]) rfl so (fun q1 q2 => ef_store (sz := sz4) rfl rfl rfl q1 q2) ?_; intro w106 t_b3 s_w106 so
                      replace t_b68 := t_b68.same s_w106 (Ne.symm n_b3_b68)
                      replace t_b97 := t_b97.same s_w106 (Ne.symm n_b3_b97)
                      replace t_b99 := t_b99.same s_w106 (Ne.symm n_b3_b99)
                      have hc := s_w106.ch
                      refine wl_nil ?_
                      refine wk_prune [(6, .pointer (some (⟨b3, 0, none⟩ : Addr)))] ⟨rfl, trivial⟩ (fun f1 => ?_)
                      refine wk_then ?_
                      refine wc_ret ?_
                      refine wk_thenR ?_
                      replace h := h _ hc; clear hc
                      refine wk_tk (K := fun H => H = w106.heap) (Ds := []) rfl so ?_; intro w107 hw so; rw [← hw] at h t_b3; clear hw
                      exact wk_retR1 (x := false) rfl ⟨by decide, _, rfl, loadVar_one Try.underlying4 rfl ((t_b3.cell 0).trans (by first | rfl | simp [List.getElem?_append, ints_len, bools_len]))⟩ rfl so h
                    · refine wc_skip ?_
                      refine wk_prune [(6, .pointer (some (⟨b3, 0, none⟩ : Addr))), (10, .pointer (some (⟨b18, 0, none⟩ : Addr))), (15, .pointer (some (⟨b68, 0, none⟩ : Addr))), (16, .func (.func 63) #[] #[.pointer (some x71)]), (19, .pointer (some (⟨b97, 0, none⟩ : Addr))), (20, .pointer (some (⟨b99, 0, none⟩ : Addr)))] ⟨rfl, rfl, rfl, rfl, rfl, rfl, trivial⟩ (fun f1 => ?_)
                      refine wk_then ?_
                      refine wc_seq ?_
                      refine wc_region ?_
                      refine wl_newT (T := 4) (cs := [.bool false]) (ef_alloc zero4 rfl) rfl so ?_; intro b108 w109 hb_b108 t_b108 k_b108 so
                      have g_b108 := Nat.le_of_eq hb_b108.symm
                      have hc := k_b108.ch (F := [])
                      have n_b3_b108 : b3 ≠ b108 := fun e => by have := t_b3.lt; omega
                      replace t_b3 := t_b3.keep k_b108
                      have n_b68_b108 : b68 ≠ b108 := fun e => by have := t_b68.lt; omega
                      replace t_b68 := t_b68.keep k_b108
                      have n_b97_b108 : b97 ≠ b108 := fun e => by have := t_b97.lt; omega
                      replace t_b97 := t_b97.keep k_b108
                      have n_b99_b108 : b99 ≠ b108 := fun e => by have := t_b99.lt; omega
                      replace t_b99 := t_b99.keep k_b108
                      refine wl_stT (v := .bool false) (cs' := [.bool false]) t_b108 (by first | decide | simp [ints_len, bools_len]) (by first | rfl | simp [List.set_append, ints_len, bools_len]) rfl so (fun q1 q2 => ef_store (sz := sz4) rfl rfl rfl q1 q2) ?_; intro w110 t_b108 s_w110 so
                      replace t_b3 := t_b3.same s_w110 (n_b3_b108)
                      replace t_b68 := t_b68.same s_w110 (n_b68_b108)
                      replace t_b97 := t_b97.same s_w110 (n_b97_b108)
                      replace t_b99 := t_b99.same s_w110 (n_b99_b108)
                      replace hc := ch_same hc s_w110 (.inr g_b108)
                      refine wl_nil ?_
                      refine wk_prune [(6, .pointer (some (⟨b3, 0, none⟩ : Addr))), (10, .pointer (some (⟨b18, 0, none⟩ : Addr))), (15, .pointer (some (⟨b68, 0, none⟩ : Addr))), (16, .func (.func 63) #[] #[.pointer (some x71)]), (19, .pointer (some (⟨b97, 0, none⟩ : Addr))), (20, .pointer (some (⟨b99, 0, none⟩ : Addr))), (21, .pointer (some (⟨b108, 0, none⟩ : Addr)))] ⟨rfl, rfl, rfl, rfl, rfl, rfl, rfl, trivial⟩ (fun f1 => ?_)
                      refine wk_then ?_
                      refine wc_seq ?_
                      refine wc_seq ?_
                      refine wc_region ?_
                      refine wl_val (at_move rfl) rfl ?_
                      refine wl_nil ?_
                      refine wk_prune [(6, .pointer (some (⟨b3, 0, none⟩ : Addr))), (10, .pointer (some (⟨b18, 0, none⟩ : Addr))), (15, .pointer (some (⟨b68, 0, none⟩ : Addr))), (19, .pointer (some (⟨b97, 0, none⟩ : Addr))), (20, .pointer (some (⟨b99, 0, none⟩ : Addr))), (21, .pointer (some (⟨b108, 0, none⟩ : Addr))), (115, .func (.func 63) #[] #[.pointer (some x71)])] ⟨rfl, rfl, rfl, rfl, rfl, rfl, rfl, trivial⟩ (fun f1 => ?_)
                      refine wk_then ?_
                      refine wc_block ?_
                      replace h := h b108 _ hc g_b108 t_b108.lt; clear hc
                      replace h := h t_b3
                      replace h := h t_b68
                      replace h := h t_b97
                      replace h := h t_b99
                      replace h := h t_b108
                      refine wc_prune [(6, .pointer (some (⟨b3, 0, none⟩ : Addr))), (10, .pointer (some (⟨b18, 0, none⟩ : Addr))), (15, .pointer (some (⟨b68, 0, none⟩ : Addr))), (19, .pointer (some (⟨b97, 0, none⟩ : Addr))), (20, .pointer (some (⟨b99, 0, none⟩ : Addr))), (21, .pointer (some (⟨b108, 0, none⟩ : Addr))), (115, .func (.func 63) #[] #[.pointer (some x71)])] ⟨rfl, rfl, rfl, rfl, rfl, rfl, rfl, trivial⟩ (fun f1 => ?_)
                      refine wc_rng (caps := [.pointer (some x71)]) rfl enter63 so h ?_; intro r111 D119 w114 q112 q113 h so
                      refine Ca.mono (huff_Table_All_1.calls _ _ (yok (ps := [116, 117]) q113 (fun _ => rfl) fun x115 w117 K116 h => ?_) _ w114 _ h) ?_
                      · refine ⟨h.1, ?_⟩; replace h := h.2; have so := Sm.refl w117; refine wc_prune [(6, .pointer (some (⟨b3, 0, none⟩ : Addr))), (10, .pointer (some (⟨b18, 0, none⟩ : Addr))), (15, .pointer (some (⟨b68, 0, none⟩ : Addr))), (19, .pointer (some (⟨b97, 0, none⟩ : Addr))), (20, .pointer (some (⟨b99, 0, none⟩ : Addr))), (21, .pointer (some (⟨b108, 0, none⟩ : Addr))), (116, .int .u8 x115.1), (117, .string x115.2)] ⟨rfl, rfl, rfl, rfl, rfl, rfl, rfl, rfl, trivial⟩ (fun f1 => ?_)
                        refine wc_seq ?_
                        refine wc_region ?_
                        refine wl_val (at_assign rfl) rfl ?_
                        refine wl_nil ?_
                        refine wk_prune [(6, .pointer (some (⟨b3, 0, none⟩ : Addr))), (10, .pointer (some (⟨b18, 0, none⟩ : Addr))), (15, .pointer (some (⟨b68, 0, none⟩ : Addr))), (19, .pointer (some (⟨b97, 0, none⟩ : Addr))), (20, .pointer (some (⟨b99, 0, none⟩ : Addr))), (21, .pointer (some (⟨b108, 0, none⟩ : Addr))), (22, .int .u8 x115.1), (117, .string x115.2)] ⟨rfl, rfl, rfl, rfl, rfl, rfl, rfl, rfl, trivial⟩ (fun f1 => ?_)
                        refine wk_then ?_
                        refine wc_region ?_
                        refine wl_val (at_assign rfl) rfl ?_
                        refine wl_nil ?_
                        refine wk_prune [(6, .pointer (some (⟨b3, 0, none⟩ : Addr))), (10, .pointer (some (⟨b18, 0, none⟩ : Addr))), (15, .pointer (some (⟨b68, 0, none⟩ : Addr))), (19, .pointer (some (⟨b97, 0, none⟩ : Addr))), (20, .pointer (some (⟨b99, 0, none⟩ : Addr))), (21, .pointer (some (⟨b108, 0, none⟩ : Addr))), (22, .int .u8 x115.1), (23, .string x115.2)] ⟨rfl, rfl, rfl, rfl, rfl, rfl, rfl, rfl, trivial⟩ (fun f1 => ?_)
                        refine wk_asg q112 h so ?_; intro w120 h so
                        refine wc_block ?_
                        refine wc_seq ?_
                        refine wc_seq ?_
                        refine wc_region ?_
                        refine wl_val (at_move rfl) rfl ?_
                        obtain ⟨x121, q122, h⟩ := h
                        refine wl_val (at_load Try.underlying9 rfl rfl q122) rfl ?_
                        refine wl_callF (mosaiclaw04_begins.calls _ _ _ _ h) enter43 rfl trivial so ?_; intro x123 w124 h so
                        refine wl_nil ?_
                        refine wk_prune [(6, .pointer (some (⟨b3, 0, none⟩ : Addr))), (10, .pointer (some (⟨b18, 0, none⟩ : Addr))), (15, .pointer (some (⟨b68, 0, none⟩ : Addr))), (19, .pointer (some (⟨b97, 0, none⟩ : Addr))), (20, .pointer (some (⟨b99, 0, none⟩ : Addr))), (21, .pointer (some (⟨b108, 0, none⟩ : Addr))), (22, .int .u8 x115.1), (23, .string x115.2), (120, .bool x123)] ⟨rfl, rfl, rfl, rfl, rfl, rfl, rfl, rfl, rfl, trivial⟩ (fun f1 => ?_)
                        refine wk_then ?_
                        refine wc_cond rfl h (fun h => ?_) (fun h => ?_)
                        · refine wc_seq ?_
                          refine wc_join (w0 := w117) (fun (s126 : Unit) => [(6, .pointer (some (⟨b3, 0, none⟩ : Addr)))]) h ?_ ?_
                          · rintro s126 w127 f1 h so; refine wk_then ?_
                            refine wc_ret ?_
                            refine wk_thenR ?_
                            refine wk_blkR ?_
                            exact wk_rdR h so
                          · intro J125 h hJ125
                            refine wc_wo [0, 1, 3, 7, 7, 31, 63, 127, 255, 511, 255, 1279, 255, 4351, 15615, 32767, 65535, 131071] mixed (by kernel_rfl) so ?_; intro w128 hw so; rw [← hw] at h; clear hw
                            obtain ⟨x129, q130, h⟩ := h
                            refine wo_load (m' := 1) 0 (fun H => cellAt H (⟨b99, 0, none⟩ : Addr) = some (.int .i64 x129)) rfl (by kernel_rfl) rfl rfl (fun H q130 => at_load Try.underlying27 rfl rfl q130) q130 ?_
                            refine wo_pure (m' := 3) 1 rfl (by kernel_rfl) rfl rfl (fun H => at_eql rfl rfl) ?_
                            refine wo_pure (m' := 7) 2 rfl (by kernel_rfl) rfl rfl (fun H => at_move rfl) ?_
                            refine bif_ h (fun hb h => ?_) (fun hb h => ?_)
                            · refine wo_set (t := 123) (v := .bool true) (congrArg Value.bool hb) ?_; clear hb
                              refine wo_pureG (m' := 23) 4 rfl (by kernel_rfl) rfl (t := 123) rfl (by decide) rfl (fun H => at_move rfl) ?_
                              obtain ⟨x131, q132, h⟩ := h
                              refine wo_loadG (m' := 31) 3 (fun H => cellAt H (⟨b97, 0, none⟩ : Addr) = some (.int .u8 x131)) rfl (by kernel_rfl) rfl (t := 123) rfl (by decide) rfl (fun H q132 => at_load Try.underlying5 rfl rfl q132) q132 ?_
                              refine wo_pureG (m' := 63) 5 rfl (by kernel_rfl) rfl (t := 123) rfl (by decide) rfl (fun H => at_eql rfl rfl) ?_
                              refine wo_pure (m' := 127) 6 rfl (by kernel_rfl) rfl rfl (fun H => at_pick_t rfl rfl) ?_
                              refine wo_pure (m' := 255) 7 rfl (by kernel_rfl) rfl rfl (fun H => at_move rfl) ?_
                              refine bif_ h (fun hb h => ?_) (fun hb h => ?_)
                              · refine wo_set (t := 128) (v := .bool true) (congrArg Value.bool hb) ?_; clear hb
                                refine wo_pureG (m' := 4351) 12 rfl (by kernel_rfl) rfl (t := 128) rfl (by decide) rfl (fun H => at_move rfl) ?_
                                refine wo_pureG (m' := 12543) 13 rfl (by kernel_rfl) rfl (t := 128) rfl (by decide) rfl (fun H => at_lenS Try.underlying9 rfl) ?_
                                obtain ⟨x133, q134, h⟩ := h
                                refine wo_loadG (m' := 12799) 8 (fun H => cellAt H (⟨b68, 0, none⟩ : Addr) = some (.pointer x133)) rfl (by kernel_rfl) rfl (t := 128) rfl (by decide) rfl (fun H q134 => at_load Try.underlying51 rfl rfl q134) q134 ?_
                                obtain ⟨x135, q136, h⟩ := h
                                refine wo_loadG (m' := 13823) 10 (fun H => cellAt H (⟨b18, 0, none⟩ : Addr) = some (.string x135)) rfl (by kernel_rfl) rfl (t := 128) rfl (by decide) rfl (fun H q136 => at_load Try.underlying9 rfl rfl q136) q136 ?_
                                refine wo_pureG (m' := 15871) 11 rfl (by kernel_rfl) rfl (t := 128) rfl (by decide) rfl (fun H => at_lenS Try.underlying9 rfl) ?_
                                refine wo_pureG (m' := 32255) 14 rfl (by kernel_rfl) rfl (t := 128) rfl (by decide) rfl (fun H => at_sub rfl rfl) ?_
                                refine wo_take (m' := 32767) 9 [false, true, true, true] rfl (by kernel_rfl) rfl (by kernel_rfl) ?_
                                refine wl_on (t := 128) rfl (by decide) rfl ?_
                                refine wl_callF (bits_Source_Left.calls _ _ _ h) enter36 rfl trivial so ?_; intro x137 w138 h so
                                refine wl_nil ?_
                                obtain ⟨q139, h⟩ := h
                                refine wk_tq ⟨q139, trivial⟩ ?_
                                refine wo_pureG (m' := 65535) 15 rfl (by kernel_rfl) rfl (t := 128) rfl (by decide) rfl (fun H => at_eql rfl rfl) ?_
                                refine wo_pure (m' := 131071) 16 rfl (by kernel_rfl) rfl rfl (fun H => at_pick_t rfl rfl) ?_
                                refine wo_take (m' := 262143) 17 [true] rfl (by kernel_rfl) rfl (by kernel_rfl) ?_
                                refine wl_st (v := .bool (x137 == (IntKind.wrap .i64 ((x135.size : Int) - (x115.2.size : Int))))) h rfl so (fun q1 q2 => ef_store (sz := sz4) rfl rfl rfl q1 q2) ?_; intro w140 h so
                                refine wl_nil ?_
                                refine wk_tq trivial ?_
                                refine wo_done (by kernel_rfl) ?_
                                exact wk_prune [(6, .pointer (some (⟨b3, 0, none⟩ : Addr)))] ⟨rfl, trivial⟩ (fun f1 => hJ125 () _ f1 h so)
                              · refine wo_set (t := 128) (v := .bool false) (congrArg Value.bool hb) ?_; clear hb
                                refine wo_off (m' := 511) 8 rfl (by kernel_rfl) rfl (t := 128) rfl (by decide) rfl ?_
                                refine wo_off (m' := 1023) 9 rfl (by kernel_rfl) rfl (t := 128) rfl (by decide) rfl ?_
                                refine wo_off (m' := 2047) 10 rfl (by kernel_rfl) rfl (t := 128) rfl (by decide) rfl ?_
                                refine wo_off (m' := 4095) 11 rfl (by kernel_rfl) rfl (t := 128) rfl (by decide) rfl ?_
                                refine wo_off (m' := 8191) 12 rfl (by kernel_rfl) rfl (t := 128) rfl (by decide) rfl ?_
                                refine wo_off (m' := 16383) 13 rfl (by kernel_rfl) rfl (t := 128) rfl (by decide) rfl ?_
                                refine wo_off (m' := 32767) 14 rfl (by kernel_rfl) rfl (t := 128) rfl (by decide) rfl ?_
                                refine wo_off (m' := 65535) 15 rfl (by kernel_rfl) rfl (t := 128) rfl (by decide) rfl ?_
                                refine wo_pure (m' := 131071) 16 rfl (by kernel_rfl) rfl rfl (fun H => at_pick_f rfl rfl) ?_
                                refine wo_take (m' := 262143) 17 [true, true] rfl (by kernel_rfl) rfl (by kernel_rfl) ?_
                                refine wl_st (v := .bool false) h rfl so (fun q1 q2 => ef_store (sz := sz4) rfl rfl rfl q1 q2) ?_; intro w141 h so
                                refine wl_nil ?_
                                refine wk_tq trivial ?_
                                refine wo_done (by kernel_rfl) ?_
                                exact wk_prune [(6, .pointer (some (⟨b3, 0, none⟩ : Addr)))] ⟨rfl, trivial⟩ (fun f1 => hJ125 () _ f1 h so)
                            · refine wo_set (t := 123) (v := .bool false) (congrArg Value.bool hb) ?_; clear hb
                              refine wo_off (m' := 15) 3 rfl (by kernel_rfl) rfl (t := 123) rfl (by decide) rfl ?_
                              refine wo_off (m' := 31) 4 rfl (by kernel_rfl) rfl (t := 123) rfl (by decide) rfl ?_
                              refine wo_off (m' := 63) 5 rfl (by kernel_rfl) rfl (t := 123) rfl (by decide) rfl ?_
                              refine wo_pure (m' := 127) 6 rfl (by kernel_rfl) rfl rfl (fun H => at_pick_f rfl rfl) ?_
                              refine wo_pure (m' := 255) 7 rfl (by kernel_rfl) rfl rfl (fun H => at_move rfl) ?_
                              refine wo_off (m' := 511) 8 rfl (by kernel_rfl) rfl (t := 128) rfl (by decide) rfl ?_
                              refine wo_off (m' := 1023) 9 rfl (by kernel_rfl) rfl (t := 128) rfl (by decide) rfl ?_
                              refine wo_off (m' := 2047) 10 rfl (by kernel_rfl) rfl (t := 128) rfl (by decide) rfl ?_
                              refine wo_off (m' := 4095) 11 rfl (by kernel_rfl) rfl (t := 128) rfl (by decide) rfl ?_
                              refine wo_off (m' := 8191) 12 rfl (by kernel_rfl) rfl (t := 128) rfl (by decide) rfl ?_
                              refine wo_off (m' := 16383) 13 rfl (by kernel_rfl) rfl (t := 128) rfl (by decide) rfl ?_
                              refine wo_off (m' := 32767) 14 rfl (by kernel_rfl) rfl (t := 128) rfl (by decide) rfl ?_
                              refine wo_off (m' := 65535) 15 rfl (by kernel_rfl) rfl (t := 128) rfl (by decide) rfl ?_
                              refine wo_pure (m' := 131071) 16 rfl (by kernel_rfl) rfl rfl (fun H => at_pick_f rfl rfl) ?_
                              refine wo_take (m' := 262143) 17 [true] rfl (by kernel_rfl) rfl (by kernel_rfl) ?_
                              refine wl_st (v := .bool false) h rfl so (fun q1 q2 => ef_store (sz := sz4) rfl rfl rfl q1 q2) ?_; intro w142 h so
                              refine wl_nil ?_
                              refine wk_tq trivial ?_
                              refine wo_done (by kernel_rfl) ?_
                              exact wk_prune [(6, .pointer (some (⟨b3, 0, none⟩ : Addr)))] ⟨rfl, trivial⟩ (fun f1 => hJ125 () _ f1 h so)
                        · refine wc_skip ?_
                          refine wk_prune [(10, .pointer (some (⟨b18, 0, none⟩ : Addr))), (21, .pointer (some (⟨b108, 0, none⟩ : Addr))), (23, .string x115.2)] ⟨rfl, rfl, rfl, trivial⟩ (fun f1 => ?_)
                          refine wk_then ?_
                          refine wc_region ?_
                          obtain ⟨x143, q144, h⟩ := h
                          refine wl_val (at_load Try.underlying4 rfl rfl q144) rfl ?_
                          refine wl_val (at_move rfl) rfl ?_
                          refine bif_ h (fun hb h => ?_) (fun hb h => ?_)
                          · refine wl_set (t := 139) (v := .bool true) (congrArg Value.bool hb) ?_; clear hb
                            refine wl_off (t := 139) rfl (by decide) rfl ?_
                            refine wl_off (t := 139) rfl (by decide) rfl ?_
                            refine wl_off (t := 139) rfl (by decide) rfl ?_
                            refine wl_val (at_pick_t rfl rfl) rfl ?_
                            refine wl_st (v := .bool true) h rfl so (fun q1 q2 => ef_store (sz := sz4) rfl rfl rfl q1 q2) ?_; intro w145 h so
                            refine wl_nil ?_
                            refine wk_blkN ?_
                            exact wk_rdN q112 h so
                          · refine wl_set (t := 139) (v := .bool false) (congrArg Value.bool hb) ?_; clear hb
                            refine wl_on (t := 139) rfl (by decide) rfl ?_
                            obtain ⟨x146, q147, h⟩ := h
                            refine wl_val (at_load Try.underlying9 rfl rfl q147) rfl ?_
                            refine wl_on (t := 139) rfl (by decide) rfl ?_
                            refine wl_val (at_move rfl) rfl ?_
                            refine wl_on (t := 139) rfl (by decide) rfl ?_
                            refine wl_callF (mosaiclaw04_begins.calls _ _ _ _ h) enter43 rfl trivial so ?_; intro x148 w149 h so
                            refine wl_val (at_pick_f rfl rfl) rfl ?_
                            refine wl_st (v := .bool x148) h rfl so (fun q1 q2 => ef_store (sz := sz4) rfl rfl rfl q1 q2) ?_; intro w150 h so
                            refine wl_nil ?_
                            refine wk_blkN ?_
                            exact wk_rdN q112 h so
                      · rintro _ w118 ⟨_, rfl, h, q151⟩; replace so := so.trans q151
                        rcases h with h | h
                        · refine rp_none q112 h so ?_; intro w152 h so
                          refine wk_blkN ?_
                          refine wk_prune [(6, .pointer (some (⟨b3, 0, none⟩ : Addr))), (10, .pointer (some (⟨b18, 0, none⟩ : Addr))), (15, .pointer (some (⟨b68, 0, none⟩ : Addr))), (19, .pointer (some (⟨b97, 0, none⟩ : Addr))), (20, .pointer (some (⟨b99, 0, none⟩ : Addr))), (21, .pointer (some (⟨b108, 0, none⟩ : Addr)))] ⟨rfl, rfl, rfl, rfl, rfl, rfl, trivial⟩ (fun f1 => ?_)
                          refine wk_then ?_
                          refine wc_seq ?_
                          refine wc_region ?_
                          refine wl_val (at_assign rfl) rfl ?_
                          refine wl_nil ?_
                          refine wk_prune [(6, .pointer (some (⟨b3, 0, none⟩ : Addr))), (10, .pointer (some (⟨b18, 0, none⟩ : Addr))), (15, .pointer (some (⟨b68, 0, none⟩ : Addr))), (19, .pointer (some (⟨b97, 0, none⟩ : Addr))), (20, .pointer (some (⟨b99, 0, none⟩ : Addr))), (21, .pointer (some (⟨b108, 0, none⟩ : Addr))), (24, .int .i64 43)] ⟨rfl, rfl, rfl, rfl, rfl, rfl, rfl, trivial⟩ (fun f1 => ?_)
                          refine wk_then ?_
                          refine wc_seq ?_
                          refine wc_join (w0 := w0) (fun (s154 : Int) => [(6, .pointer (some (⟨b3, 0, none⟩ : Addr))), (10, .pointer (some (⟨b18, 0, none⟩ : Addr))), (15, .pointer (some (⟨b68, 0, none⟩ : Addr))), (19, .pointer (some (⟨b97, 0, none⟩ : Addr))), (20, .pointer (some (⟨b99, 0, none⟩ : Addr))), (24, .int .i64 s154)]) h ?_ ?_
                          · rintro s154 w155 f1 h so; refine wk_then ?_
                            refine wc_seq ?_
                            refine wc_wo [0, 0, 3, 7, 15, 31, 63, 127, 255, 511, 255, 1279, 4095, 8191, 16383] mixed (by kernel_rfl) so ?_; intro w156 hw so; rw [← hw] at h; clear hw
                            refine wo_pure (m' := 2) 1 rfl (by kernel_rfl) rfl rfl (fun H => at_move rfl) ?_
                            obtain ⟨x157, q158, h⟩ := h
                            refine wo_load (m' := 3) 0 (fun H => cellAt H (⟨b99, 0, none⟩ : Addr) = some (.int .i64 x157)) rfl (by kernel_rfl) rfl rfl (fun H q158 => at_load Try.underlying27 rfl rfl q158) q158 ?_
                            refine wo_pure (m' := 7) 2 rfl (by kernel_rfl) rfl rfl (fun H => at_eql rfl rfl) ?_
                            refine wo_pure (m' := 15) 3 rfl (by kernel_rfl) rfl rfl (fun H => at_move rfl) ?_
                            refine bif_ h (fun hb h => ?_) (fun hb h => ?_)
                            · refine wo_set (t := 153) (v := .bool true) (congrArg Value.bool hb) ?_; clear hb
                              obtain ⟨x159, q160, h⟩ := h
                              refine wo_loadG (m' := 31) 4 (fun H => cellAt H (⟨b97, 0, none⟩ : Addr) = some (.int .u8 x159)) rfl (by kernel_rfl) rfl (t := 153) rfl (by decide) rfl (fun H q160 => at_load Try.underlying5 rfl rfl q160) q160 ?_
                              refine wo_pureG (m' := 63) 5 rfl (by kernel_rfl) rfl (t := 153) rfl (by decide) rfl (fun H => at_eql rfl rfl) ?_
                              refine wo_pure (m' := 127) 6 rfl (by kernel_rfl) rfl rfl (fun H => at_pick_t rfl rfl) ?_
                              refine wo_pure (m' := 255) 7 rfl (by kernel_rfl) rfl rfl (fun H => at_move rfl) ?_
                              refine bif_ h (fun hb h => ?_) (fun hb h => ?_)
                              · refine wo_set (t := 157) (v := .bool true) (congrArg Value.bool hb) ?_; clear hb
                                obtain ⟨x161, q162, h⟩ := h
                                refine wo_loadG (m' := 511) 8 (fun H => cellAt H (⟨b68, 0, none⟩ : Addr) = some (.pointer x161)) rfl (by kernel_rfl) rfl (t := 157) rfl (by decide) rfl (fun H q162 => at_load Try.underlying51 rfl rfl q162) q162 ?_
                                obtain ⟨x163, q164, h⟩ := h
                                refine wo_loadG (m' := 1535) 10 (fun H => cellAt H (⟨b18, 0, none⟩ : Addr) = some (.string x163)) rfl (by kernel_rfl) rfl (t := 157) rfl (by decide) rfl (fun H q164 => at_load Try.underlying9 rfl rfl q164) q164 ?_
                                refine wo_pureG (m' := 3583) 11 rfl (by kernel_rfl) rfl (t := 157) rfl (by decide) rfl (fun H => at_lenS Try.underlying9 rfl) ?_
                                refine wo_take (m' := 4095) 9 [false, true, true, true] rfl (by kernel_rfl) rfl (by kernel_rfl) ?_
                                refine wl_on (t := 157) rfl (by decide) rfl ?_
                                refine wl_callF (bits_Source_Left.calls _ _ _ h) enter36 rfl trivial so ?_; intro x165 w166 h so
                                refine wl_nil ?_
                                obtain ⟨q167, h⟩ := h
                                refine wk_tq ⟨q167, trivial⟩ ?_
                                refine wo_pureG (m' := 8191) 12 rfl (by kernel_rfl) rfl (t := 157) rfl (by decide) rfl (fun H => at_eql rfl rfl) ?_
                                refine wo_pure (m' := 16383) 13 rfl (by kernel_rfl) rfl rfl (fun H => at_pick_t rfl rfl) ?_
                                refine wo_take (m' := 32767) 14 [true] rfl (by kernel_rfl) rfl (by kernel_rfl) ?_
                                refine wl_st (v := .bool (x165 == (x163.size : Int))) h rfl so (fun q1 q2 => ef_store (sz := sz4) rfl rfl rfl q1 q2) ?_; intro w168 h so
                                refine wl_nil ?_
                                refine wk_tq trivial ?_
                                refine wo_done (by kernel_rfl) ?_
                                refine wk_prune [(6, .pointer (some (⟨b3, 0, none⟩ : Addr)))] ⟨rfl, trivial⟩ (fun f1 => ?_)
                                refine wk_then ?_
                                refine wc_ret ?_
                                refine wk_tk h so ?_; intro w169 h so
                                obtain ⟨x171, q170, h⟩ := h
                                exact wk_retR1 (x := x171) rfl ⟨by decide, _, rfl, loadVar_one Try.underlying4 rfl q170⟩ rfl so h
                              · refine wo_set (t := 157) (v := .bool false) (congrArg Value.bool hb) ?_; clear hb
                                refine wo_off (m' := 511) 8 rfl (by kernel_rfl) rfl (t := 157) rfl (by decide) rfl ?_
                                refine wo_off (m' := 1023) 9 rfl (by kernel_rfl) rfl (t := 157) rfl (by decide) rfl ?_
                                refine wo_off (m' := 2047) 10 rfl (by kernel_rfl) rfl (t := 157) rfl (by decide) rfl ?_
                                refine wo_off (m' := 4095) 11 rfl (by kernel_rfl) rfl (t := 157) rfl (by decide) rfl ?_
                                refine wo_off (m' := 8191) 12 rfl (by kernel_rfl) rfl (t := 157) rfl (by decide) rfl ?_
                                refine wo_pure (m' := 16383) 13 rfl (by kernel_rfl) rfl rfl (fun H => at_pick_f rfl rfl) ?_
                                refine wo_take (m' := 32767) 14 [true, true] rfl (by kernel_rfl) rfl (by kernel_rfl) ?_
                                refine wl_st (v := .bool false) h rfl so (fun q1 q2 => ef_store (sz := sz4) rfl rfl rfl q1 q2) ?_; intro w172 h so
                                refine wl_nil ?_
                                refine wk_tq trivial ?_
                                refine wo_done (by kernel_rfl) ?_
                                refine wk_prune [(6, .pointer (some (⟨b3, 0, none⟩ : Addr)))] ⟨rfl, trivial⟩ (fun f1 => ?_)
                                refine wk_then ?_
                                refine wc_ret ?_
                                refine wk_tk h so ?_; intro w173 h so
                                obtain ⟨x175, q174, h⟩ := h
                                exact wk_retR1 (x := x175) rfl ⟨by decide, _, rfl, loadVar_one Try.underlying4 rfl q174⟩ rfl so h
                            · refine wo_set (t := 153) (v := .bool false) (congrArg Value.bool hb) ?_; clear hb
                              refine wo_off (m' := 31) 4 rfl (by kernel_rfl) rfl (t := 153) rfl (by decide) rfl ?_
                              refine wo_off (m' := 63) 5 rfl (by kernel_rfl) rfl (t := 153) rfl (by decide) rfl ?_
                              refine wo_pure (m' := 127) 6 rfl (by kernel_rfl) rfl rfl (fun H => at_pick_f rfl rfl) ?_
                              refine wo_pure (m' := 255) 7 rfl (by kernel_rfl) rfl rfl (fun H => at_move rfl) ?_
                              refine wo_off (m' := 511) 8 rfl (by kernel_rfl) rfl (t := 157) rfl (by decide) rfl ?_
                              refine wo_off (m' := 1023) 9 rfl (by kernel_rfl) rfl (t := 157) rfl (by decide) rfl ?_
                              refine wo_off (m' := 2047) 10 rfl (by kernel_rfl) rfl (t := 157) rfl (by decide) rfl ?_
                              refine wo_off (m' := 4095) 11 rfl (by kernel_rfl) rfl (t := 157) rfl (by decide) rfl ?_
                              refine wo_off (m' := 8191) 12 rfl (by kernel_rfl) rfl (t := 157) rfl (by decide) rfl ?_
                              refine wo_pure (m' := 16383) 13 rfl (by kernel_rfl) rfl rfl (fun H => at_pick_f rfl rfl) ?_
                              refine wo_take (m' := 32767) 14 [true] rfl (by kernel_rfl) rfl (by kernel_rfl) ?_
                              refine wl_st (v := .bool false) h rfl so (fun q1 q2 => ef_store (sz := sz4) rfl rfl rfl q1 q2) ?_; intro w176 h so
                              refine wl_nil ?_
                              refine wk_tq trivial ?_
                              refine wo_done (by kernel_rfl) ?_
                              refine wk_prune [(6, .pointer (some (⟨b3, 0, none⟩ : Addr)))] ⟨rfl, trivial⟩ (fun f1 => ?_)
                              refine wk_then ?_
                              refine wc_ret ?_
                              refine wk_tk h so ?_; intro w177 h so
                              obtain ⟨x179, q178, h⟩ := h
                              exact wk_retR1 (x := x179) rfl ⟨by decide, _, rfl, loadVar_one Try.underlying4 rfl q178⟩ rfl so h
                          · intro J153 h hJ153
                            refine wc_seq ?_
                            refine wc_join (w0 := w0) (fun (s181 : Bool) => [(6, .pointer (some (⟨b3, 0, none⟩ : Addr))), (10, .pointer (some (⟨b18, 0, none⟩ : Addr))), (15, .pointer (some (⟨b68, 0, none⟩ : Addr))), (19, .pointer (some (⟨b97, 0, none⟩ : Addr))), (20, .pointer (some (⟨b99, 0, none⟩ : Addr))), (24, .int .i64 43), (149, .bool s181)]) h ?_ ?_
                            · rintro s181 w182 f1 h so; refine wk_then ?_
                              refine wc_cond rfl h (fun h => ?_) (fun h => ?_)
                              · refine wc_region ?_
                                refine wl_val (at_assign rfl) rfl ?_
                                refine wl_nil ?_
                                exact wk_prune [(6, .pointer (some (⟨b3, 0, none⟩ : Addr))), (10, .pointer (some (⟨b18, 0, none⟩ : Addr))), (15, .pointer (some (⟨b68, 0, none⟩ : Addr))), (19, .pointer (some (⟨b97, 0, none⟩ : Addr))), (20, .pointer (some (⟨b99, 0, none⟩ : Addr))), (24, .int .i64 44)] ⟨rfl, rfl, rfl, rfl, rfl, rfl, trivial⟩ (fun f1 => hJ153 (44) _ f1 h so)
                              · refine wc_skip ?_
                                exact wk_prune [(6, .pointer (some (⟨b3, 0, none⟩ : Addr))), (10, .pointer (some (⟨b18, 0, none⟩ : Addr))), (15, .pointer (some (⟨b68, 0, none⟩ : Addr))), (19, .pointer (some (⟨b97, 0, none⟩ : Addr))), (20, .pointer (some (⟨b99, 0, none⟩ : Addr))), (24, .int .i64 43)] ⟨rfl, rfl, rfl, rfl, rfl, rfl, trivial⟩ (fun f1 => hJ153 (43) _ f1 h so)
                            · intro J180 h hJ180
                              refine wc_region ?_
                              obtain ⟨x183, q184, h⟩ := h
                              refine wl_val (at_load Try.underlying4 rfl rfl q184) rfl ?_
                              refine wl_val (at_move rfl) rfl ?_
                              refine bif_ h (fun hb h => ?_) (fun hb h => ?_)
                              · refine wl_set (t := 145) (v := .bool true) (congrArg Value.bool hb) ?_; clear hb
                                refine wl_on (t := 145) rfl (by decide) rfl ?_
                                obtain ⟨x185, q186, h⟩ := h
                                refine wl_val (at_load Try.underlying9 rfl rfl q186) rfl ?_
                                refine wl_on (t := 145) rfl (by decide) rfl ?_
                                refine wl_val (at_lenS Try.underlying9 rfl) rfl ?_
                                refine wl_on (t := 145) rfl (by decide) rfl ?_
                                refine wl_val (at_lss rfl rfl) rfl ?_
                                refine wl_val (at_pick_t rfl rfl) rfl ?_
                                refine wl_nil ?_
                                exact wk_prune [(6, .pointer (some (⟨b3, 0, none⟩ : Addr))), (10, .pointer (some (⟨b18, 0, none⟩ : Addr))), (15, .pointer (some (⟨b68, 0, none⟩ : Addr))), (19, .pointer (some (⟨b97, 0, none⟩ : Addr))), (20, .pointer (some (⟨b99, 0, none⟩ : Addr))), (24, .int .i64 43), (149, .bool (decide ((x185.size : Int) < 16)))] ⟨rfl, rfl, rfl, rfl, rfl, rfl, rfl, trivial⟩ (fun f1 => hJ180 ((decide ((x185.size : Int) < 16))) _ f1 h so)
                              · refine wl_set (t := 145) (v := .bool false) (congrArg Value.bool hb) ?_; clear hb
                                refine wl_off (t := 145) rfl (by decide) rfl ?_
                                refine wl_off (t := 145) rfl (by decide) rfl ?_
                                refine wl_off (t := 145) rfl (by decide) rfl ?_
                                refine wl_val (at_pick_f rfl rfl) rfl ?_
                                refine wl_nil ?_
                                exact wk_prune [(6, .pointer (some (⟨b3, 0, none⟩ : Addr))), (10, .pointer (some (⟨b18, 0, none⟩ : Addr))), (15, .pointer (some (⟨b68, 0, none⟩ : Addr))), (19, .pointer (some (⟨b97, 0, none⟩ : Addr))), (20, .pointer (some (⟨b99, 0, none⟩ : Addr))), (24, .int .i64 43), (149, .bool false)] ⟨rfl, rfl, rfl, rfl, rfl, rfl, rfl, trivial⟩ (fun f1 => hJ180 (false) _ f1 h so)
                        · refine rp_jump h so ?_; intro w187 h so; refine wc_ret ?_
                          refine wk_blkR ?_
                          refine wk_thenR ?_
                          refine wk_tk h so ?_; intro w188 h so
                          obtain ⟨x190, q189, h⟩ := h
                          exact wk_retR1 (x := x190) rfl ⟨by decide, _, rfl, loadVar_one Try.underlying4 rfl q189⟩ rfl so h
                  · intro J103 h hJ103
                    refine wc_region ?_
                    refine wl_val (at_move rfl) rfl ?_
                    refine wl_val (at_not rfl) rfl ?_
                    refine wl_val (at_move rfl) rfl ?_
                    refine bif_ h (fun hb h => ?_) (fun hb h => ?_)
                    · refine wl_set (t := 111) (v := .bool true) (congrArg Value.bool hb) ?_; clear hb
                      refine wl_off (t := 111) rfl (by decide) rfl ?_
                      refine wl_off (t := 111) rfl (by decide) rfl ?_
                      refine wl_val (at_pick_t rfl rfl) rfl ?_
                      refine wl_nil ?_
                      exact wk_prune [(6, .pointer (some (⟨b3, 0, none⟩ : Addr))), (10, .pointer (some (⟨b18, 0, none⟩ : Addr))), (15, .pointer (some (⟨b68, 0, none⟩ : Addr))), (16, .func (.func 63) #[] #[.pointer (some x71)]), (19, .pointer (some (⟨b97, 0, none⟩ : Addr))), (20, .pointer (some (⟨b99, 0, none⟩ : Addr))), (114, .bool true)] ⟨rfl, rfl, rfl, rfl, rfl, rfl, rfl, trivial⟩ (fun f1 => hJ103 (true) _ f1 h ⟨t_b3, t_b68, t_b97, t_b99, trivial⟩ so)
                    · refine wl_set (t := 111) (v := .bool false) (congrArg Value.bool hb) ?_; clear hb
                      refine wl_on (t := 111) rfl (by decide) rfl ?_
                      refine wl_val (at_move rfl) rfl ?_
                      refine wl_on (t := 111) rfl (by decide) rfl ?_
                      refine wl_val (at_not rfl) rfl ?_
                      refine wl_val (at_pick_f rfl rfl) rfl ?_
                      refine wl_nil ?_
                      exact wk_prune [(6, .pointer (some (⟨b3, 0, none⟩ : Addr))), (10, .pointer (some (⟨b18, 0, none⟩ : Addr))), (15, .pointer (some (⟨b68, 0, none⟩ : Addr))), (16, .func (.func 63) #[] #[.pointer (some x71)]), (19, .pointer (some (⟨b97, 0, none⟩ : Addr))), (20, .pointer (some (⟨b99, 0, none⟩ : Addr))), (114, .bool (!x85))] ⟨rfl, rfl, rfl, rfl, rfl, rfl, rfl, trivial⟩ (fun f1 => hJ103 ((!x85)) _ f1 h ⟨t_b3, t_b68, t_b97, t_b99, trivial⟩ so)
                · intro J82 h hJ82
                  refine wc_seq ?_
                  refine wc_region ?_
                  refine wl_val (at_move rfl) rfl ?_
                  obtain ⟨x191, q192, h⟩ := h
                  refine wl_val (at_load Try.underlying9 rfl rfl q192) rfl ?_
                  refine wl_val (at_lenS Try.underlying9 rfl) rfl ?_
                  refine wl_val (at_gtr rfl rfl) rfl ?_
                  refine wl_nil ?_
                  refine wk_prune [(6, .pointer (some (⟨b3, 0, none⟩ : Addr))), (7, .bool x5), (8, .pointer x11.1), (10, .pointer (some (⟨b18, 0, none⟩ : Addr))), (15, .pointer (some (⟨b68, 0, none⟩ : Addr))), (16, .func (.func 63) #[] #[.pointer (some x71)]), (17, .int .i64 s80), (94, .bool (decide ((x191.size : Int) < s80)))] ⟨rfl, rfl, rfl, rfl, rfl, rfl, rfl, rfl, trivial⟩ (fun f1 => ?_)
                  refine wk_then ?_
                  refine wc_cond rfl h (fun h => ?_) (fun h => ?_)
                  · refine wc_region ?_
                    obtain ⟨x193, q194, h⟩ := h
                    refine wl_val (at_load Try.underlying9 rfl rfl q194) rfl ?_
                    refine wl_val (at_lenS Try.underlying9 rfl) rfl ?_
                    refine wl_val (at_assign rfl) rfl ?_
                    refine wl_nil ?_
                    exact wk_prune [(6, .pointer (some (⟨b3, 0, none⟩ : Addr))), (7, .bool x5), (8, .pointer x11.1), (10, .pointer (some (⟨b18, 0, none⟩ : Addr))), (15, .pointer (some (⟨b68, 0, none⟩ : Addr))), (16, .func (.func 63) #[] #[.pointer (some x71)]), (17, .int .i64 (x193.size : Int))] ⟨rfl, rfl, rfl, rfl, rfl, rfl, rfl, trivial⟩ (fun f1 => hJ82 ((x193.size : Int)) _ f1 h ⟨t_b3, t_b68, trivial⟩ so)
                  · refine wc_skip ?_
                    exact wk_prune [(6, .pointer (some (⟨b3, 0, none⟩ : Addr))), (7, .bool x5), (8, .pointer x11.1), (10, .pointer (some (⟨b18, 0, none⟩ : Addr))), (15, .pointer (some (⟨b68, 0, none⟩ : Addr))), (16, .func (.func 63) #[] #[.pointer (some x71)]), (17, .int .i64 s80)] ⟨rfl, rfl, rfl, rfl, rfl, rfl, rfl, trivial⟩ (fun f1 => hJ82 (s80) _ f1 h ⟨t_b3, t_b68, trivial⟩ so)
              · intro J79 h hJ79
                refine wc_seq ?_
                refine wc_region ?_
                refine wl_val (at_move rfl) rfl ?_
                refine wl_val (at_lss rfl rfl) rfl ?_
                refine wl_nil ?_
                refine wk_prune [(6, .pointer (some (⟨b3, 0, none⟩ : Addr))), (7, .bool x5), (8, .pointer x11.1), (10, .pointer (some (⟨b18, 0, none⟩ : Addr))), (15, .pointer (some (⟨b68, 0, none⟩ : Addr))), (16, .func (.func 63) #[] #[.pointer (some x71)]), (17, .int .i64 (Int.tmod a2 8)), (88, .bool (decide ((Int.tmod a2 8) < 0)))] ⟨rfl, rfl, rfl, rfl, rfl, rfl, rfl, rfl, trivial⟩ (fun f1 => ?_)
                refine wk_then ?_
                refine wc_cond rfl h (fun h => ?_) (fun h => ?_)
                · refine wc_region ?_
                  refine wl_val (at_move rfl) rfl ?_
                  refine wl_val (at_add rfl rfl) rfl ?_
                  refine wl_val (at_assign rfl) rfl ?_
                  refine wl_nil ?_
                  exact wk_prune [(6, .pointer (some (⟨b3, 0, none⟩ : Addr))), (7, .bool x5), (8, .pointer x11.1), (10, .pointer (some (⟨b18, 0, none⟩ : Addr))), (15, .pointer (some (⟨b68, 0, none⟩ : Addr))), (16, .func (.func 63) #[] #[.pointer (some x71)]), (17, .int .i64 (IntKind.wrap .i64 ((Int.tmod a2 8) + 8)))] ⟨rfl, rfl, rfl, rfl, rfl, rfl, rfl, trivial⟩ (fun f1 => hJ79 ((IntKind.wrap .i64 ((Int.tmod a2 8) + 8))) _ f1 h ⟨t_b3, t_b68, trivial⟩ so)
                · refine wc_skip ?_
                  exact wk_prune [(6, .pointer (some (⟨b3, 0, none⟩ : Addr))), (7, .bool x5), (8, .pointer x11.1), (10, .pointer (some (⟨b18, 0, none⟩ : Addr))), (15, .pointer (some (⟨b68, 0, none⟩ : Addr))), (16, .func (.func 63) #[] #[.pointer (some x71)]), (17, .int .i64 (Int.tmod a2 8))] ⟨rfl, rfl, rfl, rfl, rfl, rfl, rfl, trivial⟩ (fun f1 => hJ79 ((Int.tmod a2 8)) _ f1 h ⟨t_b3, t_b68, trivial⟩ so)
          · intro J74 h hJ74
            refine wc_region ?_
            refine wl_val (at_load (v := .pointer x65) Try.underlying51 rfl rfl ((t_b68.cell 0).trans (by first | rfl | simp [List.getElem?_append, ints_len, bools_len]))) rfl ?_
            refine wl_val (at_eqlP Try.underlying51 rfl rfl) rfl ?_
            refine wl_val (at_move rfl) rfl ?_
            refine bif_ h (fun hb h => ?_) (fun hb h => ?_)
            · refine wl_set (t := 81) (v := .bool true) (congrArg Value.bool hb) ?_; clear hb
              refine wl_off (t := 81) rfl (by decide) rfl ?_
              refine wl_off (t := 81) rfl (by decide) rfl ?_
              refine wl_val (at_pick_t rfl rfl) rfl ?_
              refine wl_nil ?_
              exact wk_prune [(2, .int .i64 a2), (6, .pointer (some (⟨b3, 0, none⟩ : Addr))), (7, .bool x5), (8, .pointer x11.1), (10, .pointer (some (⟨b18, 0, none⟩ : Addr))), (15, .pointer (some (⟨b68, 0, none⟩ : Addr))), (16, .func (.func 63) #[] #[.pointer (some x71)]), (84, .bool true)] ⟨rfl, rfl, rfl, rfl, rfl, rfl, rfl, rfl, trivial⟩ (fun f1 => hJ74 (true) _ f1 h ⟨t_b3, t_b68, trivial⟩ so)
            · refine wl_set (t := 81) (v := .bool false) (congrArg Value.bool hb) ?_; clear hb
              refine wl_on (t := 81) rfl (by decide) rfl ?_
              refine wl_val (at_move rfl) rfl ?_
              refine wl_on (t := 81) rfl (by decide) rfl ?_
              refine wl_val (at_eqlNF (v := .func (.func 63) #[] #[.pointer (some x71)]) Try.underlying61 rfl rfl rfl) rfl ?_
              refine wl_val (at_pick_f rfl rfl) rfl ?_
              refine wl_nil ?_
              exact wk_prune [(2, .int .i64 a2), (6, .pointer (some (⟨b3, 0, none⟩ : Addr))), (7, .bool x5), (8, .pointer x11.1), (10, .pointer (some (⟨b18, 0, none⟩ : Addr))), (15, .pointer (some (⟨b68, 0, none⟩ : Addr))), (16, .func (.func 63) #[] #[.pointer (some x71)]), (84, .bool false)] ⟨rfl, rfl, rfl, rfl, rfl, rfl, rfl, rfl, trivial⟩ (fun f1 => hJ74 (false) _ f1 h ⟨t_b3, t_b68, trivial⟩ so)
      · intro J27 h hJ27
        refine wc_region ?_
        refine wl_val (at_move rfl) rfl ?_
        refine wl_val (at_move rfl) rfl ?_
        refine wl_val (at_lenL Try.underlying23 rfl) rfl ?_
        refine wl_val (at_lss rfl rfl) rfl ?_
        refine wl_val (at_move rfl) rfl ?_
        refine bif_ h (fun hb h => ?_) (fun hb h => ?_)
        · refine wl_set (t := 41) (v := .bool true) (congrArg Value.bool hb) ?_; clear hb
          refine wl_on (t := 41) rfl (by decide) rfl ?_
          refine wl_val (at_move rfl) rfl ?_
          refine wl_on (t := 41) rfl (by decide) rfl ?_
          refine wl_val (at_lss rfl rfl) rfl ?_
          refine wl_val (at_pick_t rfl rfl) rfl ?_
          refine wl_nil ?_
          exact wk_prune [(1, .slice a1.a a1.n a1.c), (2, .int .i64 a2), (6, .pointer (some (⟨b3, 0, none⟩ : Addr))), (7, .bool x5), (8, .pointer x11.1), (10, .pointer (some (⟨b18, 0, none⟩ : Addr))), (11, .slice s23.1.a s23.1.n s23.1.c), (12, .int .i64 s23.2), (44, .bool (decide (s23.2 < 4)))] ⟨rfl, rfl, rfl, rfl, rfl, rfl, rfl, rfl, rfl, trivial⟩ (fun f1 => hJ27 ((decide (s23.2 < 4))) _ f1 h ⟨t_b3, trivial⟩ so)
        · refine wl_set (t := 41) (v := .bool false) (congrArg Value.bool hb) ?_; clear hb
          refine wl_off (t := 41) rfl (by decide) rfl ?_
          refine wl_off (t := 41) rfl (by decide) rfl ?_
          refine wl_val (at_pick_f rfl rfl) rfl ?_
          refine wl_nil ?_
          exact wk_prune [(1, .slice a1.a a1.n a1.c), (2, .int .i64 a2), (6, .pointer (some (⟨b3, 0, none⟩ : Addr))), (7, .bool x5), (8, .pointer x11.1), (10, .pointer (some (⟨b18, 0, none⟩ : Addr))), (11, .slice s23.1.a s23.1.n s23.1.c), (12, .int .i64 s23.2), (44, .bool false)] ⟨rfl, rfl, rfl, rfl, rfl, rfl, rfl, rfl, rfl, trivial⟩ (fun f1 => hJ27 (false) _ f1 h ⟨t_b3, trivial⟩ so)
end Go.Proofs.Ytbefacccdaafeaa.G
