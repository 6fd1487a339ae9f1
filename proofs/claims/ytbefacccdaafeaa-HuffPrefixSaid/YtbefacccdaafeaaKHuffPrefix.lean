import Derived.Test.YtbefacccdaafeaaGF
import Derived.Test.YtbefacccdaafeaaKhuff
import Derived.Test.YtbefacccdaafeaaKmosaiclaw04
namespace Go.Proofs.Ytbefacccdaafeaa.G
open Go.RowKit
set_option linter.unusedVariables false
set_option linter.unusedSimpArgs false
/-- mosaic/mosaiclaw04.HuffPrefix -/
def mosaiclaw04_HuffPrefix.enc : Bool → Value := fun r => .bool r
def mosaiclaw04_HuffPrefix.s (a0_0 : Ints 16) (a0_1 : Sl) (H0 : Hp) (Q : Bool → Hp → Prop) : Prop :=
  Gn [] H0 (fun (b1 : Nat) (H2 : Hp) => Gn [] H2 (fun (b3 : Nat) (H4 : Hp) => mosaiclaw04_alive.s H4 (fun x5 H6 => Pv [b1, b3] H4 H6 ∧ (mosaiclaw04_twin.s a0_0 a0_1 H6 (fun x8 H9 => Pv [b1, b3] H6 H9 ∧ (huff_New.s x8.1 x8.2 H9 (fun x11 H12 => Pv [b1, b3] H9 H12 ∧ (Gn [] H12 (fun (b14 : Nat) (H16 : Hp) => Join (fun (s18 : Bool) (H19 : Hp) => if s18 = true then (Bk H19 b3 4 [.bool false] → (Join (fun (s21 : Unit) (H22 : Hp) => ldB H22 (⟨b3, 0, none⟩ : Addr) (fun x25 => Q x25 H22)) (fun (J20 : Unit → Hp → Prop) => if x5 = true then (if (x11.2 != 0) = true then (if x11.1.isNone = true then (mosaiclaw04_twin.s a0_0 a0_1 H19 (fun x26 H27 => huff_Room.s x26.1 x26.2 H27 (fun x28 H29 => st H29 (⟨b3, 0, none⟩ : Addr) (.bool (x28 == 0)) (fun H30 => J20 () H30)))) else (st H19 (⟨b3, 0, none⟩ : Addr) (.bool false) (fun H31 => J20 () H31))) else (st H19 (⟨b3, 0, none⟩ : Addr) (.bool false) (fun H32 => J20 () H32))) else (st H19 (⟨b3, 0, none⟩ : Addr) (.bool false) (fun H33 => J20 () H33))))) else (if x11.1.isNone = true then (Gr [b3] H19 (fun (H34 : Hp) => Q false H34)) else (Gn [] H19 (fun (b36 : Nat) (H37 : Hp) => Gn [] H37 (fun (b38 : Nat) (H40 : Hp) => huff_Table_All.s x11.1 H40 (fun x41 H42 => Pv [b1, b3, b14, b36, b38] H40 H42 ∧ (Bk H42 b1 25 (c25 a0_0 a0_1) → (Bk H42 b3 4 [.bool false] → (Bk H42 b14 32 [.pointer x11.1] → (Bk H42 b36 59 [.slice none 0 0] → (Bk H42 b38 3 [.int .i64 0] → (Rg H42 (fun r44 D52 H47 => huff_Table_All_1.s (fun (x48 : Int × ByteArray) (H50 : Hp) (K49 : Bool → Hp → Prop) => Lp H50 (D52 + 1) r44 ∧ (Lp H50 (D52 + 1) r44 ∧ Up (putL H50 (D52 + 1) (bsy r44)) (fun H53 => ldP H53 (⟨b14, 0, none⟩ : Addr) (fun x54 => huff_Table_Code.s x54 x48.1 H53 (fun x56 H57 => Join (fun (s59 : Bool) (H60 : Hp) => if s59 = true then (st H60 (⟨b3, 0, none⟩ : Addr) (.bool false) (fun H61 => Lp H61 (D52 + 1) (bsy r44) ∧ K49 false (putL H61 (D52 + 1) (dn r44 .ret)))) else (∃ k62, Fix (fun (rec67 : (Bool × Int × Int) → Hp → Prop) (s64 : Bool × Int × Int) (H65 : Hp) => if decide (s64.2.2 < (x48.2.size : Int)) = true then (Join (fun (s69 : Bool × Int) (H70 : Hp) => rec67 (s69.1, s69.2, (IntKind.wrap .i64 (s64.2.2 + 1))) H70) (fun (J68 : (Bool × Int) → Hp → Prop) => Join (fun (s72 : Bool) (H73 : Hp) => 0 ≤ s64.2.2 ∧ s64.2.2 < (x48.2.size : Int) ∧ (if ((bt x48.2 s64.2.2) == 49) = true then (Lt ((IntKind.wrap .i64 ((IntKind.wrap .i64 ((2 : Int) * s64.2.1)) + 1)) : Int) (fun x76 => J68 (s72, x76) H73)) else (J68 (s72, (IntKind.wrap .i64 ((2 : Int) * s64.2.1))) H73))) (fun (J71 : Bool → Hp → Prop) => if s64.1 = true then (0 ≤ s64.2.2 ∧ s64.2.2 < (x48.2.size : Int) ∧ (J71 (((bt x48.2 s64.2.2) == 49)) H65)) else (J71 (false) H65)))) else (Join (fun (s81 : Bool) (H82 : Hp) => if s81 = true then (st H82 (⟨b3, 0, none⟩ : Addr) (.bool false) (fun H83 => Lp H83 (D52 + 1) (bsy r44) ∧ K49 false (putL H83 (D52 + 1) (dn r44 .ret)))) else (∃ k84, Fix (fun (rec89 : Int → Hp → Prop) (s86 : Int) (H87 : Hp) => ldL H87 (⟨b36, 0, none⟩ : Addr) (fun x90 => if decide (s86 < (x90.n : Int)) = true then (Join (fun (s93 : Bool) (H94 : Hp) => if s93 = true then (st H94 (⟨b3, 0, none⟩ : Addr) (.bool false) (fun H95 => Lp H95 (D52 + 1) (bsy r44) ∧ K49 false (putL H95 (D52 + 1) (dn r44 .ret)))) else (rec89 ((IntKind.wrap .i64 (s86 + 1))) H94)) (fun (J92 : Bool → Hp → Prop) => ldL H87 (⟨b36, 0, none⟩ : Addr) (fun x96 => 0 ≤ s86 ∧ s86 < (x96.n : Int) ∧ someA x96.a (fun p100 => ldS H87 (p100.add (Int.toNat s86 * 1)) (fun x102 => mosaiclaw04_begins.s x102 x48.2 H87 (fun x104 H105 => if x104 = true then (J92 (true) H105) else (ldL H105 (⟨b36, 0, none⟩ : Addr) (fun x106 => 0 ≤ s86 ∧ s86 < (x106.n : Int) ∧ someA x106.a (fun p110 => ldS H105 (p110.add (Int.toNat s86 * 1)) (fun x112 => mosaiclaw04_begins.s x48.2 x112 H105 (fun x114 H115 => J92 (x114) H115))))))))))) else (0 ≤ (IntKind.wrap .i64 ((16 : Int) - (x48.2.size : Int))) ∧ (ldI .i64 H87 (⟨b38, 0, none⟩ : Addr) (fun x118 => st H87 (⟨b38, 0, none⟩ : Addr) (.int .i64 (IntKind.wrap .i64 (x118 + (shlI .i64 1 (IntKind.wrap .i64 ((16 : Int) - (x48.2.size : Int))))))) (fun H120 => ldL H120 (⟨b36, 0, none⟩ : Addr) (fun x121 => nw H120 9 [.string x48.2] (fun p123 H124 => apS H124 x121 9 1 16 z9.cells 1 [.string x48.2] (fun l128 H129 => st H129 (⟨b36, 0, none⟩ : Addr) (.slice l128.a l128.n l128.c) (fun H130 => Lp H130 (D52 + 1) (bsy r44) ∧ K49 true (putL H130 (D52 + 1) r44))))))))))) k84 (0) H82)) (fun (J80 : Bool → Hp → Prop) => if s64.1 = true then (J80 (true) H65) else (if (s64.2.1 != (IntKind.wrap .i64 x56.1)) = true then (J80 (true) H65) else (ldL H65 (⟨b36, 0, none⟩ : Addr) (fun x131 => if decide ((0 : Int) < (x131.n : Int)) = true then (ldL H65 (⟨b36, 0, none⟩ : Addr) (fun x133 => ldL H65 (⟨b36, 0, none⟩ : Addr) (fun x135 => 0 ≤ (IntKind.wrap .i64 ((x135.n : Int) - 1)) ∧ (IntKind.wrap .i64 ((x135.n : Int) - 1)) < (x133.n : Int) ∧ someA x133.a (fun p139 => ldS H65 (p139.add (Int.toNat (IntKind.wrap .i64 ((x135.n : Int) - 1)) * 1)) (fun x141 => J80 ((!(Op.bytesLess x141.toList x48.2.toList))) H65))))) else (J80 (false) H65))))))) k62 (true, 0, 0) H60)) (fun (J58 : Bool → Hp → Prop) => if decide ((x48.2.size : Int) < 1) = true then (J58 (true) H57) else (if decide ((16 : Int) < (x48.2.size : Int)) = true then (J58 (true) H57) else (if (x56.2 != (x48.2.size : Int)) = true then (J58 (true) H57) else (ldL H57 (⟨b36, 0, none⟩ : Addr) (fun x143 => ldL H57 (⟨b1, 16, none⟩ : Addr) (fun x145 => if decide ((x145.n : Int) ≤ (x143.n : Int)) = true then (J58 (true) H57) else (ldL H57 (⟨b1, 16, none⟩ : Addr) (fun x147 => ldL H57 (⟨b36, 0, none⟩ : Addr) (fun x149 => 0 ≤ (x149.n : Int) ∧ (x149.n : Int) < (x147.n : Int) ∧ someA x147.a (fun p153 => ldI .u8 H57 (p153.add (Int.toNat (x149.n : Int) * 1)) (fun x155 => J58 ((x48.1 != x155)) H57)))))))))))))))) x41 H47 (fun _ H51 => (Lp H51 (D52 + 1) r44 ∧ Up (putL H51 (D52 + 1) (exh r44)) (fun H158 => Gn [] H158 (fun (b159 : Nat) (H160 : Hp) => Bk H160 b159 22 (c22 (zInts 16)) → (∃ k161, Fix (fun (rec166 : Int → Hp → Prop) (s163 : Int) (H164 : Hp) => ldL H164 (⟨b36, 0, none⟩ : Addr) (fun x167 => if decide (s163 < (x167.n : Int)) = true then (ldL H164 (⟨b36, 0, none⟩ : Addr) (fun x169 => 0 ≤ s163 ∧ s163 < (x169.n : Int) ∧ someA x169.a (fun p173 => ldS H164 (p173.add (Int.toNat s163 * 1)) (fun x175 => 0 ≤ (IntKind.wrap .i64 ((x175.size : Int) - 1)) ∧ (IntKind.wrap .i64 ((x175.size : Int) - 1)) < (16 : Int) ∧ (ldI .u8 H164 ((⟨b159, 0, none⟩ : Addr).add (Int.toNat (IntKind.wrap .i64 ((x175.size : Int) - 1)) * 1)) (fun x179 => 0 ≤ (IntKind.wrap .i64 ((x175.size : Int) - 1)) ∧ (IntKind.wrap .i64 ((x175.size : Int) - 1)) < (16 : Int) ∧ (st H164 ((⟨b159, 0, none⟩ : Addr).add (Int.toNat (IntKind.wrap .i64 ((x175.size : Int) - 1)) * 1)) (.int .u8 (IntKind.wrap .u8 (x179 + 1))) (fun H183 => rec166 ((IntKind.wrap .i64 (s163 + 1))) H183)))))))) else (if x5 = true then (ldL H164 (⟨b36, 0, none⟩ : Addr) (fun x185 => ldL H164 (⟨b1, 16, none⟩ : Addr) (fun x187 => if ((x185.n : Int) == (x187.n : Int)) = true then (∃ x189 : Ints 16, ∃ x190 : Sl, ldA H164 (⟨b1, 0, none⟩ : Addr) (c25 x189 x190) ∧ (ldI .i64 H164 (⟨b38, 0, none⟩ : Addr) (fun x192 => mosaiclaw04_twin.s x189 x190 H164 (fun x194 H195 => cellAt H195 (⟨b38, 0, none⟩ : Addr) = some (.int .i64 x192) ∧ (huff_Room.s x194.1 x194.2 H195 (fun x197 H198 => cellAt H198 (⟨b38, 0, none⟩ : Addr) = some (.int .i64 x192) ∧ (if (x197 == (IntKind.wrap .i64 ((65536 : Int) - x192))) = true then (ldI .i64 H198 (⟨b38, 0, none⟩ : Addr) (fun x200 => if decide (x200 < 65536) = true then (∃ x202 : Ints 16, ldA H198 (⟨b159, 0, none⟩ : Addr) (c22 x202) ∧ (∃ x204 : Ints 16, ldA H198 (⟨b1, 0, none⟩ : Addr) (c22 x204) ∧ (st H198 (⟨b3, 0, none⟩ : Addr) (.bool (x202.1 == x204.1)) (fun H206 => tkD (D52 :: []) H206 (fun H207 => ldB H207 (⟨b3, 0, none⟩ : Addr) (fun x209 => Q x209 H207)))))) else (st H198 (⟨b3, 0, none⟩ : Addr) (.bool false) (fun H210 => tkD (D52 :: []) H210 (fun H211 => ldB H211 (⟨b3, 0, none⟩ : Addr) (fun x213 => Q x213 H211)))))) else (st H198 (⟨b3, 0, none⟩ : Addr) (.bool false) (fun H214 => tkD (D52 :: []) H214 (fun H215 => ldB H215 (⟨b3, 0, none⟩ : Addr) (fun x217 => Q x217 H215))))))))))) else (st H164 (⟨b3, 0, none⟩ : Addr) (.bool false) (fun H218 => tkD (D52 :: []) H218 (fun H219 => ldB H219 (⟨b3, 0, none⟩ : Addr) (fun x221 => Q x221 H219))))))) else (st H164 (⟨b3, 0, none⟩ : Addr) (.bool false) (fun H222 => tkD (D52 :: []) H222 (fun H223 => ldB H223 (⟨b3, 0, none⟩ : Addr) (fun x225 => Q x225 H223))))))) k161 (0) H160)))) ∨ (Lp H51 (D52 + 1) (dn r44 .ret) ∧ Up (putL H51 (D52 + 1) (exh (dn r44 .ret))) (fun H226 => tkD (D52 :: []) H226 (fun H227 => ldB H227 (⟨b3, 0, none⟩ : Addr) (fun x229 => Q x229 H227)))))))))))))))))) (fun (J17 : Bool → Hp → Prop) => mosaiclaw04_twin.s a0_0 a0_1 H16 (fun x230 H231 => Pv [b1, b3, b14] H16 H231 ∧ (huff_Check.s x230.1 x230.2 H231 (fun x233 H234 => Pv [b1, b3, b14] H231 H234 ∧ (if (x11.2 != x233) = true then (J17 (true) H234) else (J17 ((x11.2 != 0)) H234)))))))))))))))
set_option maxRecDepth 20000 in
set_option maxHeartbeats 4000000 in
theorem mosaiclaw04_HuffPrefix.calls (a0_0 : Ints 16) (a0_1 : Sl) (w0 : World) (Q : Bool → Hp → Prop) (h : mosaiclaw04_HuffPrefix.s a0_0 a0_1 w0.heap Q) :
    Ca Try.prog 8 #[.agg (c25 a0_0 a0_1).toArray] w0 (Rt mosaiclaw04_HuffPrefix.enc Q w0) := by
  refine ca_startM (c := _) Try.func8 rfl Try.ntmps8 rfl ?_
  have so : Sm w0 w0 := Sm.refl w0
  unfold mosaiclaw04_HuffPrefix.s at h
  refine wc_prune [(0, .agg (c25 a0_0 a0_1).toArray)] ⟨rfl, trivial⟩ (fun f1 => ?_)
  refine wc_seq ?_
  refine wc_region ?_
  refine wl_newT (T := 25) (cs := (c25 a0_0 a0_1)) (ef_box rfl rfl) rfl so ?_; intro b1 w2 hb_b1 t_b1 k_b1 so
  have g_b1 := Nat.le_of_eq hb_b1.symm
  have hc := k_b1.ch (F := [])
  replace h := h b1 _ hc g_b1 t_b1.lt; clear hc
  refine wl_newT (T := 4) (cs := [.bool false]) (ef_alloc zero4 rfl) rfl so ?_; intro b3 w4 hb_b3 t_b3 k_b3 so
  have g_b3 := Nat.le_of_eq hb_b3.symm
  have hc := k_b3.ch (F := [])
  have n_b1_b3 : b1 ≠ b3 := fun e => by have := t_b1.lt; omega
  replace t_b1 := t_b1.keep k_b3
  refine wl_nil ?_
  refine wk_prune [(1, .pointer (some (⟨b1, 0, none⟩ : Addr))), (2, .pointer (some (⟨b3, 0, none⟩ : Addr)))] ⟨rfl, rfl, trivial⟩ (fun f1 => ?_)
  refine wk_then ?_
  refine wc_seq ?_
  refine wc_region ?_
  replace h := h b3 _ hc g_b3 t_b3.lt; clear hc
  refine wl_callF (mosaiclaw04_alive.calls _ _ h) enter40 rfl trivial so ?_; intro x5 w6 h so
  obtain ⟨q7, h⟩ := h
  replace t_b1 := pv_bk q7 t_b1 (by simp)
  replace t_b3 := pv_bk q7 t_b3 (by simp)
  refine wl_val (at_assign rfl) rfl ?_
  refine wl_nil ?_
  refine wk_prune [(1, .pointer (some (⟨b1, 0, none⟩ : Addr))), (2, .pointer (some (⟨b3, 0, none⟩ : Addr))), (3, .bool x5)] ⟨rfl, rfl, rfl, trivial⟩ (fun f1 => ?_)
  refine wk_then ?_
  refine wc_seq ?_
  refine wc_region ?_
  refine wl_val (at_loadA (cs := (c25 a0_0 a0_1)) Try.underlying25 rfl (by rw [len25]; exact sz25) rfl (ldA_full t_b1)) rfl ?_
  refine wl_callF (mosaiclaw04_twin.calls _ _ _ _ h) enter11 rfl trivial so ?_; intro x8 w9 h so
  obtain ⟨q10, h⟩ := h
  replace t_b1 := pv_bk q10 t_b1 (by simp)
  replace t_b3 := pv_bk q10 t_b3 (by simp)
  refine wl_callF (huff_New.calls _ _ _ _ h) enter17 rfl trivial so ?_; intro x11 w12 h so
  obtain ⟨q13, h⟩ := h
  replace t_b1 := pv_bk q13 t_b1 (by simp)
  replace t_b3 := pv_bk q13 t_b3 (by simp)
  refine wl_val (at_move rfl) rfl ?_
  refine wl_val (at_extract rfl rfl) rfl ?_
  refine wl_val (at_extract rfl rfl) rfl ?_
  refine wl_newT (T := 32) (cs := [.pointer none]) (ef_alloc zero32 rfl) rfl so ?_; intro b14 w15 hb_b14 t_b14 k_b14 so
  have g_b14 := Nat.le_of_eq hb_b14.symm
  have hc := k_b14.ch (F := [])
  have n_b1_b14 : b1 ≠ b14 := fun e => by have := t_b1.lt; omega
  replace t_b1 := t_b1.keep k_b14
  have n_b3_b14 : b3 ≠ b14 := fun e => by have := t_b3.lt; omega
  replace t_b3 := t_b3.keep k_b14
  refine wl_stT (v := .pointer x11.1) (cs' := [.pointer x11.1]) t_b14 (by first | decide | simp [ints_len, bools_len]) (by first | rfl | simp [List.set_append, ints_len, bools_len]) rfl so (fun q1 q2 => ef_store (sz := sz32) rfl rfl rfl q1 q2) ?_; intro w16 t_b14 s_w16 so
  replace t_b1 := t_b1.same s_w16 (n_b1_b14)
  replace t_b3 := t_b3.same s_w16 (n_b3_b14)
  replace hc := ch_same hc s_w16 (.inr g_b14)
  refine wl_val (at_assign rfl) rfl ?_
  refine wl_nil ?_
  refine wk_prune [(1, .pointer (some (⟨b1, 0, none⟩ : Addr))), (2, .pointer (some (⟨b3, 0, none⟩ : Addr))), (3, .bool x5), (4, .pointer (some (⟨b14, 0, none⟩ : Addr))), (5, .int .i64 x11.2)] ⟨rfl, rfl, rfl, rfl, rfl, trivial⟩ (fun f1 => ?_)
  refine wk_then ?_
  refine wc_seq ?_
  replace h := h b14 _ hc g_b14 t_b14.lt; clear hc
  refine wc_seq ?_
  refine wc_joinG (w0 := w0) (fun (H : Hp) => Bk H b1 25 (c25 a0_0 a0_1) ∧ Bk H b3 4 [.bool false] ∧ Bk H b14 32 [.pointer x11.1] ∧ True) (fun (s18 : Bool) => [(1, .pointer (some (⟨b1, 0, none⟩ : Addr))), (2, .pointer (some (⟨b3, 0, none⟩ : Addr))), (3, .bool x5), (4, .pointer (some (⟨b14, 0, none⟩ : Addr))), (5, .int .i64 x11.2), (35, .bool s18)]) (fun (s18 : Bool) => (mks [])) h ?_ ?_
  · rintro s18 w19 f1 h ⟨t_b1, t_b3, t_b14, _⟩ so; refine wk_then ?_
    refine wc_cond rfl h (fun h => ?_) (fun h => ?_)
    · replace h := h t_b3
      refine wc_seq ?_
      refine wc_join (w0 := w0) (fun (s21 : Unit) => [(2, .pointer (some (⟨b3, 0, none⟩ : Addr)))]) h ?_ ?_
      · rintro s21 w22 f1 h so; refine wk_then ?_
        refine wc_ret ?_
        refine wk_thenR ?_
        refine wk_tk (K := fun H => H = w22.heap) (Ds := []) rfl so ?_; intro w23 hw so; rw [← hw] at h; clear hw
        obtain ⟨x25, q24, h⟩ := h
        exact wk_retR1 (x := x25) rfl ⟨by decide, _, rfl, loadVar_one Try.underlying4 rfl q24⟩ rfl so h
      · intro J20 h hJ20
        refine wc_region ?_
        refine wl_val (at_move rfl) rfl ?_
        refine wl_val (at_move rfl) rfl ?_
        refine bif_ h (fun hb h => ?_) (fun hb h => ?_)
        · refine wl_set (t := 37) (v := .bool true) (congrArg Value.bool hb) ?_; clear hb
          refine wl_on (t := 37) rfl (by decide) rfl ?_
          refine wl_val (at_move rfl) rfl ?_
          refine wl_on (t := 37) rfl (by decide) rfl ?_
          refine wl_val (at_neq rfl rfl) rfl ?_
          refine wl_val (at_pick_t rfl rfl) rfl ?_
          refine wl_val (at_move rfl) rfl ?_
          refine bif_ h (fun hb h => ?_) (fun hb h => ?_)
          · refine wl_set (t := 41) (v := .bool true) (congrArg Value.bool hb) ?_; clear hb
            refine wl_on (t := 41) rfl (by decide) rfl ?_
            refine wl_val (at_load (v := .pointer x11.1) Try.underlying32 rfl rfl ((t_b14.cell 0).trans (by first | rfl | simp [List.getElem?_append, ints_len, bools_len]))) rfl ?_
            refine wl_on (t := 41) rfl (by decide) rfl ?_
            refine wl_val (at_eqlP Try.underlying32 rfl rfl) rfl ?_
            refine wl_val (at_pick_t rfl rfl) rfl ?_
            refine wl_val (at_move rfl) rfl ?_
            refine bif_ h (fun hb h => ?_) (fun hb h => ?_)
            · refine wl_set (t := 45) (v := .bool true) (congrArg Value.bool hb) ?_; clear hb
              refine wl_on (t := 45) rfl (by decide) rfl ?_
              refine wl_val (at_loadA (cs := (c25 a0_0 a0_1)) Try.underlying25 rfl (by rw [len25]; exact sz25) rfl (ldA_full t_b1)) rfl ?_
              refine wl_on (t := 45) rfl (by decide) rfl ?_
              refine wl_callF (mosaiclaw04_twin.calls _ _ _ _ h) enter11 rfl trivial so ?_; intro x26 w27 h so
              refine wl_on (t := 45) rfl (by decide) rfl ?_
              refine wl_callF (huff_Room.calls _ _ _ _ h) enter14 rfl trivial so ?_; intro x28 w29 h so
              refine wl_on (t := 45) rfl (by decide) rfl ?_
              refine wl_val (at_eql rfl rfl) rfl ?_
              refine wl_val (at_pick_t rfl rfl) rfl ?_
              refine wl_st (v := .bool (x28 == 0)) h rfl so (fun q1 q2 => ef_store (sz := sz4) rfl rfl rfl q1 q2) ?_; intro w30 h so
              refine wl_nil ?_
              exact wk_prune [(2, .pointer (some (⟨b3, 0, none⟩ : Addr)))] ⟨rfl, trivial⟩ (fun f1 => hJ20 () _ f1 h so)
            · refine wl_set (t := 45) (v := .bool false) (congrArg Value.bool hb) ?_; clear hb
              refine wl_off (t := 45) rfl (by decide) rfl ?_
              refine wl_off (t := 45) rfl (by decide) rfl ?_
              refine wl_off (t := 45) rfl (by decide) rfl ?_
              refine wl_off (t := 45) rfl (by decide) rfl ?_
              refine wl_val (at_pick_f rfl rfl) rfl ?_
              refine wl_st (v := .bool false) h rfl so (fun q1 q2 => ef_store (sz := sz4) rfl rfl rfl q1 q2) ?_; intro w31 h so
              refine wl_nil ?_
              exact wk_prune [(2, .pointer (some (⟨b3, 0, none⟩ : Addr)))] ⟨rfl, trivial⟩ (fun f1 => hJ20 () _ f1 h so)
          · refine wl_set (t := 41) (v := .bool false) (congrArg Value.bool hb) ?_; clear hb
            refine wl_off (t := 41) rfl (by decide) rfl ?_
            refine wl_off (t := 41) rfl (by decide) rfl ?_
            refine wl_val (at_pick_f rfl rfl) rfl ?_
            refine wl_val (at_move rfl) rfl ?_
            refine wl_off (t := 45) rfl (by decide) rfl ?_
            refine wl_off (t := 45) rfl (by decide) rfl ?_
            refine wl_off (t := 45) rfl (by decide) rfl ?_
            refine wl_off (t := 45) rfl (by decide) rfl ?_
            refine wl_val (at_pick_f rfl rfl) rfl ?_
            refine wl_st (v := .bool false) h rfl so (fun q1 q2 => ef_store (sz := sz4) rfl rfl rfl q1 q2) ?_; intro w32 h so
            refine wl_nil ?_
            exact wk_prune [(2, .pointer (some (⟨b3, 0, none⟩ : Addr)))] ⟨rfl, trivial⟩ (fun f1 => hJ20 () _ f1 h so)
        · refine wl_set (t := 37) (v := .bool false) (congrArg Value.bool hb) ?_; clear hb
          refine wl_off (t := 37) rfl (by decide) rfl ?_
          refine wl_off (t := 37) rfl (by decide) rfl ?_
          refine wl_val (at_pick_f rfl rfl) rfl ?_
          refine wl_val (at_move rfl) rfl ?_
          refine wl_off (t := 41) rfl (by decide) rfl ?_
          refine wl_off (t := 41) rfl (by decide) rfl ?_
          refine wl_val (at_pick_f rfl rfl) rfl ?_
          refine wl_val (at_move rfl) rfl ?_
          refine wl_off (t := 45) rfl (by decide) rfl ?_
          refine wl_off (t := 45) rfl (by decide) rfl ?_
          refine wl_off (t := 45) rfl (by decide) rfl ?_
          refine wl_off (t := 45) rfl (by decide) rfl ?_
          refine wl_val (at_pick_f rfl rfl) rfl ?_
          refine wl_st (v := .bool false) h rfl so (fun q1 q2 => ef_store (sz := sz4) rfl rfl rfl q1 q2) ?_; intro w33 h so
          refine wl_nil ?_
          exact wk_prune [(2, .pointer (some (⟨b3, 0, none⟩ : Addr)))] ⟨rfl, trivial⟩ (fun f1 => hJ20 () _ f1 h so)
    · refine wc_skip ?_
      refine wk_prune [(1, .pointer (some (⟨b1, 0, none⟩ : Addr))), (2, .pointer (some (⟨b3, 0, none⟩ : Addr))), (3, .bool x5), (4, .pointer (some (⟨b14, 0, none⟩ : Addr)))] ⟨rfl, rfl, rfl, rfl, trivial⟩ (fun f1 => ?_)
      refine wk_then ?_
      refine wc_seq ?_
      refine wc_seq ?_
      refine wc_region ?_
      refine wl_val (at_load (v := .pointer x11.1) Try.underlying32 rfl rfl ((t_b14.cell 0).trans (by first | rfl | simp [List.getElem?_append, ints_len, bools_len]))) rfl ?_
      refine wl_val (at_eqlP Try.underlying32 rfl rfl) rfl ?_
      refine wl_nil ?_
      refine wk_prune [(1, .pointer (some (⟨b1, 0, none⟩ : Addr))), (2, .pointer (some (⟨b3, 0, none⟩ : Addr))), (3, .bool x5), (4, .pointer (some (⟨b14, 0, none⟩ : Addr))), (52, .bool x11.1.isNone)] ⟨rfl, rfl, rfl, rfl, rfl, trivial⟩ (fun f1 => ?_)
      refine wk_then ?_
      refine wc_cond rfl h (fun h => ?_) (fun h => ?_)
      · refine wc_seq ?_
        refine wc_region ?_
        refine wl_stT (v := .bool false) (cs' := [.bool false]) t_b3 (by first | decide | simp [ints_len, bools_len]) (by first | rfl | simp [List.set_append, ints_len, bools_len]) rfl so (fun q1 q2 => ef_store (sz := sz4) rfl rfl rfl q1 q2) ?_; intro w34 t_b3 s_w34 so
        replace t_b1 := t_b1.same s_w34 (n_b1_b3)
        replace t_b14 := t_b14.same s_w34 (Ne.symm n_b3_b14)
        have hc := s_w34.ch
        refine wl_nil ?_
        refine wk_prune [(2, .pointer (some (⟨b3, 0, none⟩ : Addr)))] ⟨rfl, trivial⟩ (fun f1 => ?_)
        refine wk_then ?_
        refine wc_ret ?_
        refine wk_thenR ?_
        replace h := h _ hc; clear hc
        refine wk_tk (K := fun H => H = w34.heap) (Ds := []) rfl so ?_; intro w35 hw so; rw [← hw] at h t_b3; clear hw
        exact wk_retR1 (x := false) rfl ⟨by decide, _, rfl, loadVar_one Try.underlying4 rfl ((t_b3.cell 0).trans (by first | rfl | simp [List.getElem?_append, ints_len, bools_len]))⟩ rfl so h
      · refine wc_skip ?_
        refine wk_prune [(1, .pointer (some (⟨b1, 0, none⟩ : Addr))), (2, .pointer (some (⟨b3, 0, none⟩ : Addr))), (3, .bool x5), (4, .pointer (some (⟨b14, 0, none⟩ : Addr)))] ⟨rfl, rfl, rfl, rfl, trivial⟩ (fun f1 => ?_)
        refine wk_then ?_
        refine wc_seq ?_
        refine wc_region ?_
        refine wl_newT (T := 59) (cs := [.slice none 0 0]) (ef_alloc zero59 rfl) rfl so ?_; intro b36 w37 hb_b36 t_b36 k_b36 so
        have g_b36 := Nat.le_of_eq hb_b36.symm
        have hc := k_b36.ch (F := [])
        have n_b1_b36 : b1 ≠ b36 := fun e => by have := t_b1.lt; omega
        replace t_b1 := t_b1.keep k_b36
        have n_b3_b36 : b3 ≠ b36 := fun e => by have := t_b3.lt; omega
        replace t_b3 := t_b3.keep k_b36
        have n_b14_b36 : b14 ≠ b36 := fun e => by have := t_b14.lt; omega
        replace t_b14 := t_b14.keep k_b36
        refine wl_nil ?_
        refine wk_prune [(1, .pointer (some (⟨b1, 0, none⟩ : Addr))), (2, .pointer (some (⟨b3, 0, none⟩ : Addr))), (3, .bool x5), (4, .pointer (some (⟨b14, 0, none⟩ : Addr))), (6, .pointer (some (⟨b36, 0, none⟩ : Addr)))] ⟨rfl, rfl, rfl, rfl, rfl, trivial⟩ (fun f1 => ?_)
        refine wk_then ?_
        refine wc_seq ?_
        refine wc_region ?_
        replace h := h b36 _ hc g_b36 t_b36.lt; clear hc
        refine wl_newT (T := 3) (cs := [.int .i64 0]) (ef_alloc zero3 rfl) rfl so ?_; intro b38 w39 hb_b38 t_b38 k_b38 so
        have g_b38 := Nat.le_of_eq hb_b38.symm
        have hc := k_b38.ch (F := [])
        have n_b1_b38 : b1 ≠ b38 := fun e => by have := t_b1.lt; omega
        replace t_b1 := t_b1.keep k_b38
        have n_b3_b38 : b3 ≠ b38 := fun e => by have := t_b3.lt; omega
        replace t_b3 := t_b3.keep k_b38
        have n_b14_b38 : b14 ≠ b38 := fun e => by have := t_b14.lt; omega
        replace t_b14 := t_b14.keep k_b38
        have n_b36_b38 : b36 ≠ b38 := fun e => by have := t_b36.lt; omega
        replace t_b36 := t_b36.keep k_b38
        refine wl_stT (v := .int .i64 0) (cs' := [.int .i64 0]) t_b38 (by first | decide | simp [ints_len, bools_len]) (by first | rfl | simp [List.set_append, ints_len, bools_len]) rfl so (fun q1 q2 => ef_store (sz := sz3) rfl rfl rfl q1 q2) ?_; intro w40 t_b38 s_w40 so
        replace t_b1 := t_b1.same s_w40 (n_b1_b38)
        replace t_b3 := t_b3.same s_w40 (n_b3_b38)
        replace t_b14 := t_b14.same s_w40 (n_b14_b38)
        replace t_b36 := t_b36.same s_w40 (n_b36_b38)
        replace hc := ch_same hc s_w40 (.inr g_b38)
        refine wl_nil ?_
        refine wk_prune [(1, .pointer (some (⟨b1, 0, none⟩ : Addr))), (2, .pointer (some (⟨b3, 0, none⟩ : Addr))), (3, .bool x5), (4, .pointer (some (⟨b14, 0, none⟩ : Addr))), (6, .pointer (some (⟨b36, 0, none⟩ : Addr))), (7, .pointer (some (⟨b38, 0, none⟩ : Addr)))] ⟨rfl, rfl, rfl, rfl, rfl, rfl, trivial⟩ (fun f1 => ?_)
        refine wk_then ?_
        refine wc_seq ?_
        refine wc_region ?_
        refine wl_val (at_load (v := .pointer x11.1) Try.underlying32 rfl rfl ((t_b14.cell 0).trans (by first | rfl | simp [List.getElem?_append, ints_len, bools_len]))) rfl ?_
        replace h := h b38 _ hc g_b38 t_b38.lt; clear hc
        refine wl_callF (huff_Table_All.calls _ _ _ h) enter41 rfl trivial so ?_; intro x41 w42 h so
        obtain ⟨q43, h⟩ := h
        replace t_b1 := pv_bk q43 t_b1 (by simp)
        replace t_b3 := pv_bk q43 t_b3 (by simp)
        replace t_b14 := pv_bk q43 t_b14 (by simp)
        replace t_b36 := pv_bk q43 t_b36 (by simp)
        replace t_b38 := pv_bk q43 t_b38 (by simp)
        refine wl_val (at_assign rfl) rfl ?_
        refine wl_nil ?_
        refine wk_prune [(1, .pointer (some (⟨b1, 0, none⟩ : Addr))), (2, .pointer (some (⟨b3, 0, none⟩ : Addr))), (3, .bool x5), (4, .pointer (some (⟨b14, 0, none⟩ : Addr))), (6, .pointer (some (⟨b36, 0, none⟩ : Addr))), (7, .pointer (some (⟨b38, 0, none⟩ : Addr))), (8, .func (.func 63) #[] #[.pointer (some x41)])] ⟨rfl, rfl, rfl, rfl, rfl, rfl, rfl, trivial⟩ (fun f1 => ?_)
        refine wk_then ?_
        refine wc_seq ?_
        refine wc_seq ?_
        refine wc_region ?_
        refine wl_val (at_move rfl) rfl ?_
        refine wl_val (at_eqlNF (v := .func (.func 63) #[] #[.pointer (some x41)]) Try.underlying61 rfl rfl rfl) rfl ?_
        refine wl_nil ?_
        refine wk_prune [(1, .pointer (some (⟨b1, 0, none⟩ : Addr))), (2, .pointer (some (⟨b3, 0, none⟩ : Addr))), (3, .bool x5), (4, .pointer (some (⟨b14, 0, none⟩ : Addr))), (6, .pointer (some (⟨b36, 0, none⟩ : Addr))), (7, .pointer (some (⟨b38, 0, none⟩ : Addr))), (8, .func (.func 63) #[] #[.pointer (some x41)]), (56, .bool false)] ⟨rfl, rfl, rfl, rfl, rfl, rfl, rfl, rfl, trivial⟩ (fun f1 => ?_)
        refine wk_then ?_
        refine wc_cond_f rfl ?_
        refine wc_skip ?_
        refine wk_prune [(1, .pointer (some (⟨b1, 0, none⟩ : Addr))), (2, .pointer (some (⟨b3, 0, none⟩ : Addr))), (3, .bool x5), (4, .pointer (some (⟨b14, 0, none⟩ : Addr))), (6, .pointer (some (⟨b36, 0, none⟩ : Addr))), (7, .pointer (some (⟨b38, 0, none⟩ : Addr))), (8, .func (.func 63) #[] #[.pointer (some x41)])] ⟨rfl, rfl, rfl, rfl, rfl, rfl, rfl, trivial⟩ (fun f1 => ?_)
        refine wk_then ?_
        refine wc_seq ?_
        refine wc_seq ?_
        refine wc_region ?_
        refine wl_val (at_move rfl) rfl ?_
        refine wl_nil ?_
        refine wk_prune [(1, .pointer (some (⟨b1, 0, none⟩ : Addr))), (2, .pointer (some (⟨b3, 0, none⟩ : Addr))), (3, .bool x5), (4, .pointer (some (⟨b14, 0, none⟩ : Addr))), (6, .pointer (some (⟨b36, 0, none⟩ : Addr))), (7, .pointer (some (⟨b38, 0, none⟩ : Addr))), (57, .func (.func 63) #[] #[.pointer (some x41)])] ⟨rfl, rfl, rfl, rfl, rfl, rfl, rfl, trivial⟩ (fun f1 => ?_)
        refine wk_then ?_
        refine wc_block ?_
        replace h := h t_b1
        replace h := h t_b3
        replace h := h t_b14
        replace h := h t_b36
        replace h := h t_b38
        refine wc_prune [(1, .pointer (some (⟨b1, 0, none⟩ : Addr))), (2, .pointer (some (⟨b3, 0, none⟩ : Addr))), (3, .bool x5), (4, .pointer (some (⟨b14, 0, none⟩ : Addr))), (6, .pointer (some (⟨b36, 0, none⟩ : Addr))), (7, .pointer (some (⟨b38, 0, none⟩ : Addr))), (57, .func (.func 63) #[] #[.pointer (some x41)])] ⟨rfl, rfl, rfl, rfl, rfl, rfl, rfl, trivial⟩ (fun f1 => ?_)
        refine wc_rng (caps := [.pointer (some x41)]) rfl enter63 so h ?_; intro r44 D52 w47 q45 q46 h so
        refine Ca.mono (huff_Table_All_1.calls _ _ (yok (ps := [58, 59]) q46 (fun _ => rfl) fun x48 w50 K49 h => ?_) _ w47 _ h) ?_
        · refine ⟨h.1, ?_⟩; replace h := h.2; have so := Sm.refl w50; refine wc_prune [(1, .pointer (some (⟨b1, 0, none⟩ : Addr))), (2, .pointer (some (⟨b3, 0, none⟩ : Addr))), (4, .pointer (some (⟨b14, 0, none⟩ : Addr))), (6, .pointer (some (⟨b36, 0, none⟩ : Addr))), (7, .pointer (some (⟨b38, 0, none⟩ : Addr))), (58, .int .u8 x48.1), (59, .string x48.2)] ⟨rfl, rfl, rfl, rfl, rfl, rfl, rfl, trivial⟩ (fun f1 => ?_)
          refine wc_seq ?_
          refine wc_region ?_
          refine wl_val (at_assign rfl) rfl ?_
          refine wl_nil ?_
          refine wk_prune [(1, .pointer (some (⟨b1, 0, none⟩ : Addr))), (2, .pointer (some (⟨b3, 0, none⟩ : Addr))), (4, .pointer (some (⟨b14, 0, none⟩ : Addr))), (6, .pointer (some (⟨b36, 0, none⟩ : Addr))), (7, .pointer (some (⟨b38, 0, none⟩ : Addr))), (9, .int .u8 x48.1), (59, .string x48.2)] ⟨rfl, rfl, rfl, rfl, rfl, rfl, rfl, trivial⟩ (fun f1 => ?_)
          refine wk_then ?_
          refine wc_region ?_
          refine wl_val (at_assign rfl) rfl ?_
          refine wl_nil ?_
          refine wk_prune [(1, .pointer (some (⟨b1, 0, none⟩ : Addr))), (2, .pointer (some (⟨b3, 0, none⟩ : Addr))), (4, .pointer (some (⟨b14, 0, none⟩ : Addr))), (6, .pointer (some (⟨b36, 0, none⟩ : Addr))), (7, .pointer (some (⟨b38, 0, none⟩ : Addr))), (9, .int .u8 x48.1), (10, .string x48.2)] ⟨rfl, rfl, rfl, rfl, rfl, rfl, rfl, trivial⟩ (fun f1 => ?_)
          refine wk_asg q45 h so ?_; intro w53 h so
          refine wc_block ?_
          refine wc_seq ?_
          refine wc_region ?_
          refine wl_val (at_move rfl) rfl ?_
          refine wl_val (at_lenS Try.underlying9 rfl) rfl ?_
          refine wl_val (at_assign rfl) rfl ?_
          refine wl_nil ?_
          refine wk_prune [(1, .pointer (some (⟨b1, 0, none⟩ : Addr))), (2, .pointer (some (⟨b3, 0, none⟩ : Addr))), (4, .pointer (some (⟨b14, 0, none⟩ : Addr))), (6, .pointer (some (⟨b36, 0, none⟩ : Addr))), (7, .pointer (some (⟨b38, 0, none⟩ : Addr))), (9, .int .u8 x48.1), (10, .string x48.2), (11, .int .i64 (x48.2.size : Int))] ⟨rfl, rfl, rfl, rfl, rfl, rfl, rfl, rfl, trivial⟩ (fun f1 => ?_)
          refine wk_then ?_
          refine wc_seq ?_
          refine wc_region ?_
          obtain ⟨x54, q55, h⟩ := h
          refine wl_val (at_load Try.underlying32 rfl rfl q55) rfl ?_
          refine wl_val (at_move rfl) rfl ?_
          refine wl_callF (huff_Table_Code.calls _ _ _ _ h) enter42 rfl trivial so ?_; intro x56 w57 h so
          refine wl_val (at_move rfl) rfl ?_
          refine wl_val (at_extract rfl rfl) rfl ?_
          refine wl_val (at_extract rfl rfl) rfl ?_
          refine wl_val (at_assign rfl) rfl ?_
          refine wl_val (at_assign rfl) rfl ?_
          refine wl_nil ?_
          refine wk_prune [(1, .pointer (some (⟨b1, 0, none⟩ : Addr))), (2, .pointer (some (⟨b3, 0, none⟩ : Addr))), (6, .pointer (some (⟨b36, 0, none⟩ : Addr))), (7, .pointer (some (⟨b38, 0, none⟩ : Addr))), (9, .int .u8 x48.1), (10, .string x48.2), (11, .int .i64 (x48.2.size : Int)), (12, .int .u16 x56.1), (13, .int .i64 x56.2)] ⟨rfl, rfl, rfl, rfl, rfl, rfl, rfl, rfl, rfl, trivial⟩ (fun f1 => ?_)
          refine wk_then ?_
          refine wc_seq ?_
          refine wc_seq ?_
          refine wc_join (w0 := w50) (fun (s59 : Bool) => [(2, .pointer (some (⟨b3, 0, none⟩ : Addr))), (6, .pointer (some (⟨b36, 0, none⟩ : Addr))), (7, .pointer (some (⟨b38, 0, none⟩ : Addr))), (10, .string x48.2), (11, .int .i64 (x48.2.size : Int)), (12, .int .u16 x56.1), (96, .bool s59)]) h ?_ ?_
          · rintro s59 w60 f1 h so; refine wk_then ?_
            refine wc_cond rfl h (fun h => ?_) (fun h => ?_)
            · refine wc_seq ?_
              refine wc_region ?_
              refine wl_st (v := .bool false) h rfl so (fun q1 q2 => ef_store (sz := sz4) rfl rfl rfl q1 q2) ?_; intro w61 h so
              refine wl_nil ?_
              refine wk_prune [(2, .pointer (some (⟨b3, 0, none⟩ : Addr)))] ⟨rfl, trivial⟩ (fun f1 => ?_)
              refine wk_then ?_
              refine wc_ret ?_
              refine wk_thenR ?_
              refine wk_blkR ?_
              exact wk_rdR h so
            · refine wc_skip ?_
              refine wk_prune [(2, .pointer (some (⟨b3, 0, none⟩ : Addr))), (6, .pointer (some (⟨b36, 0, none⟩ : Addr))), (7, .pointer (some (⟨b38, 0, none⟩ : Addr))), (10, .string x48.2), (11, .int .i64 (x48.2.size : Int)), (12, .int .u16 x56.1)] ⟨rfl, rfl, rfl, rfl, rfl, rfl, trivial⟩ (fun f1 => ?_)
              refine wk_then ?_
              refine wc_seq ?_
              refine wc_region ?_
              refine wl_val (at_assign rfl) rfl ?_
              refine wl_nil ?_
              refine wk_prune [(2, .pointer (some (⟨b3, 0, none⟩ : Addr))), (6, .pointer (some (⟨b36, 0, none⟩ : Addr))), (7, .pointer (some (⟨b38, 0, none⟩ : Addr))), (10, .string x48.2), (11, .int .i64 (x48.2.size : Int)), (12, .int .u16 x56.1), (14, .bool true)] ⟨rfl, rfl, rfl, rfl, rfl, rfl, rfl, trivial⟩ (fun f1 => ?_)
              refine wk_then ?_
              refine wc_seq ?_
              refine wc_region ?_
              refine wl_val (at_assign rfl) rfl ?_
              refine wl_nil ?_
              refine wk_prune [(2, .pointer (some (⟨b3, 0, none⟩ : Addr))), (6, .pointer (some (⟨b36, 0, none⟩ : Addr))), (7, .pointer (some (⟨b38, 0, none⟩ : Addr))), (10, .string x48.2), (11, .int .i64 (x48.2.size : Int)), (12, .int .u16 x56.1), (14, .bool true), (15, .int .i64 0)] ⟨rfl, rfl, rfl, rfl, rfl, rfl, rfl, rfl, trivial⟩ (fun f1 => ?_)
              refine wk_then ?_
              refine wc_seq ?_
              refine wc_seq ?_
              refine wc_region ?_
              refine wl_val (at_assign rfl) rfl ?_
              refine wl_nil ?_
              refine wk_prune [(2, .pointer (some (⟨b3, 0, none⟩ : Addr))), (6, .pointer (some (⟨b36, 0, none⟩ : Addr))), (7, .pointer (some (⟨b38, 0, none⟩ : Addr))), (10, .string x48.2), (11, .int .i64 (x48.2.size : Int)), (12, .int .u16 x56.1), (14, .bool true), (15, .int .i64 0), (16, .int .i64 0)] ⟨rfl, rfl, rfl, rfl, rfl, rfl, rfl, rfl, rfl, trivial⟩ (fun f1 => ?_)
              refine wk_then ?_
              refine wc_block ?_
              obtain ⟨k62, h⟩ := h
              refine wc_loop (fun k a w => ∃ (s64 : Bool × Int × Int) (f1 : Nat → Value), a = ac 211 (en f1 [(2, .pointer (some (⟨b3, 0, none⟩ : Addr))), (6, .pointer (some (⟨b36, 0, none⟩ : Addr))), (7, .pointer (some (⟨b38, 0, none⟩ : Addr))), (10, .string x48.2), (11, .int .i64 (x48.2.size : Int)), (12, .int .u16 x56.1), (14, .bool s64.1), (15, .int .i64 s64.2.1), (16, .int .i64 s64.2.2)]) [] ∧ Sm w50 w ∧ Fix _ k s64 w.heap) k62 ⟨(true, 0, 0), _, ac_again ⟨rfl, rfl, rfl, rfl, rfl, rfl, rfl, rfl, rfl, trivial⟩, so, h⟩ ?_
              rintro k63 a66 w65 ⟨s64, f1, rfl, so, h⟩
              rcases k63 with _ | k63
              · exact h.elim
              replace h := Fix.un h; refine wc_in ?_
              refine wc_seq ?_
              refine wc_seq ?_
              refine wc_region ?_
              refine wl_val (at_move rfl) rfl ?_
              refine wl_val (at_move rfl) rfl ?_
              refine wl_val (at_lss rfl rfl) rfl ?_
              refine wl_nil ?_
              refine wk_prune [(2, .pointer (some (⟨b3, 0, none⟩ : Addr))), (6, .pointer (some (⟨b36, 0, none⟩ : Addr))), (7, .pointer (some (⟨b38, 0, none⟩ : Addr))), (10, .string x48.2), (11, .int .i64 (x48.2.size : Int)), (12, .int .u16 x56.1), (14, .bool s64.1), (15, .int .i64 s64.2.1), (16, .int .i64 s64.2.2), (99, .bool (decide (s64.2.2 < (x48.2.size : Int))))] ⟨rfl, rfl, rfl, rfl, rfl, rfl, rfl, rfl, rfl, rfl, trivial⟩ (fun f1 => ?_)
              refine wk_then ?_
              refine wc_cond rfl h (fun h => ?_) (fun h => ?_)
              · refine wc_skip ?_
                refine wk_prune [(2, .pointer (some (⟨b3, 0, none⟩ : Addr))), (6, .pointer (some (⟨b36, 0, none⟩ : Addr))), (7, .pointer (some (⟨b38, 0, none⟩ : Addr))), (10, .string x48.2), (11, .int .i64 (x48.2.size : Int)), (12, .int .u16 x56.1), (14, .bool s64.1), (15, .int .i64 s64.2.1), (16, .int .i64 s64.2.2)] ⟨rfl, rfl, rfl, rfl, rfl, rfl, rfl, rfl, rfl, trivial⟩ (fun f1 => ?_)
                refine wk_then ?_
                refine wc_seq ?_
                refine wc_join (w0 := w50) (fun (s69 : Bool × Int) => [(2, .pointer (some (⟨b3, 0, none⟩ : Addr))), (6, .pointer (some (⟨b36, 0, none⟩ : Addr))), (7, .pointer (some (⟨b38, 0, none⟩ : Addr))), (10, .string x48.2), (11, .int .i64 (x48.2.size : Int)), (12, .int .u16 x56.1), (14, .bool s69.1), (15, .int .i64 s69.2), (16, .int .i64 s64.2.2)]) h ?_ ?_
                · rintro s69 w70 f1 h so; refine wk_then ?_
                  refine wc_region ?_
                  refine wl_val (at_move rfl) rfl ?_
                  refine wl_val (at_add rfl rfl) rfl ?_
                  refine wl_val (at_assign rfl) rfl ?_
                  refine wl_nil ?_
                  exact wk_again ⟨(s69.1, s69.2, (IntKind.wrap .i64 (s64.2.2 + 1))), _, ac_again ⟨rfl, rfl, rfl, rfl, rfl, rfl, rfl, rfl, rfl, trivial⟩, so, h⟩
                · intro J68 h hJ68
                  refine wc_block ?_
                  refine wc_seq ?_
                  refine wc_join (w0 := w50) (fun (s72 : Bool) => [(2, .pointer (some (⟨b3, 0, none⟩ : Addr))), (6, .pointer (some (⟨b36, 0, none⟩ : Addr))), (7, .pointer (some (⟨b38, 0, none⟩ : Addr))), (10, .string x48.2), (11, .int .i64 (x48.2.size : Int)), (12, .int .u16 x56.1), (14, .bool s72), (15, .int .i64 s64.2.1), (16, .int .i64 s64.2.2)]) h ?_ ?_
                  · rintro s72 w73 f1 h so; refine wk_then ?_
                    refine wc_seq ?_
                    refine wc_region ?_
                    refine wl_val (at_move rfl) rfl ?_
                    refine wl_val (at_mul rfl rfl) rfl ?_
                    refine wl_val (at_assign rfl) rfl ?_
                    refine wl_nil ?_
                    refine wk_prune [(2, .pointer (some (⟨b3, 0, none⟩ : Addr))), (6, .pointer (some (⟨b36, 0, none⟩ : Addr))), (7, .pointer (some (⟨b38, 0, none⟩ : Addr))), (10, .string x48.2), (11, .int .i64 (x48.2.size : Int)), (12, .int .u16 x56.1), (14, .bool s72), (15, .int .i64 (IntKind.wrap .i64 ((2 : Int) * s64.2.1))), (16, .int .i64 s64.2.2)] ⟨rfl, rfl, rfl, rfl, rfl, rfl, rfl, rfl, rfl, trivial⟩ (fun f1 => ?_)
                    refine wk_then ?_
                    refine wc_seq ?_
                    refine wc_region ?_
                    refine wl_val (at_move rfl) rfl ?_
                    refine wl_val (at_move rfl) rfl ?_
                    obtain ⟨q74, q75, h⟩ := h
                    refine wl_val (at_ixS Try.underlying9 rfl rfl q74 q75) rfl ?_
                    refine wl_val (at_eql rfl rfl) rfl ?_
                    refine wl_nil ?_
                    refine wk_prune [(2, .pointer (some (⟨b3, 0, none⟩ : Addr))), (6, .pointer (some (⟨b36, 0, none⟩ : Addr))), (7, .pointer (some (⟨b38, 0, none⟩ : Addr))), (10, .string x48.2), (11, .int .i64 (x48.2.size : Int)), (12, .int .u16 x56.1), (14, .bool s72), (15, .int .i64 (IntKind.wrap .i64 ((2 : Int) * s64.2.1))), (16, .int .i64 s64.2.2), (114, .bool ((bt x48.2 s64.2.2) == 49))] ⟨rfl, rfl, rfl, rfl, rfl, rfl, rfl, rfl, rfl, rfl, trivial⟩ (fun f1 => ?_)
                    refine wk_then ?_
                    refine wc_cond rfl h (fun h => ?_) (fun h => ?_)
                    · refine wc_region ?_
                      refine wl_val (at_move rfl) rfl ?_
                      refine wl_val (at_add rfl rfl) rfl ?_
                      refine wl_val (at_assign rfl) rfl ?_
                      obtain ⟨x76, e77⟩ : ∃ x : Int, x = (IntKind.wrap .i64 ((IntKind.wrap .i64 ((2 : Int) * s64.2.1)) + 1)) := ⟨_, rfl⟩; replace h := h x76 e77
                      refine wl_set (t := 15) (v := .int .i64 x76) (congrArg (Value.int .i64) e77.symm) ?_
                      refine wl_nil ?_
                      refine wk_blkN ?_
                      exact wk_prune [(2, .pointer (some (⟨b3, 0, none⟩ : Addr))), (6, .pointer (some (⟨b36, 0, none⟩ : Addr))), (7, .pointer (some (⟨b38, 0, none⟩ : Addr))), (10, .string x48.2), (11, .int .i64 (x48.2.size : Int)), (12, .int .u16 x56.1), (14, .bool s72), (15, .int .i64 x76), (16, .int .i64 s64.2.2)] ⟨rfl, rfl, rfl, rfl, rfl, rfl, rfl, rfl, rfl, trivial⟩ (fun f1 => hJ68 (s72, x76) _ f1 h so)
                    · refine wc_skip ?_
                      refine wk_blkN ?_
                      exact wk_prune [(2, .pointer (some (⟨b3, 0, none⟩ : Addr))), (6, .pointer (some (⟨b36, 0, none⟩ : Addr))), (7, .pointer (some (⟨b38, 0, none⟩ : Addr))), (10, .string x48.2), (11, .int .i64 (x48.2.size : Int)), (12, .int .u16 x56.1), (14, .bool s72), (15, .int .i64 (IntKind.wrap .i64 ((2 : Int) * s64.2.1))), (16, .int .i64 s64.2.2)] ⟨rfl, rfl, rfl, rfl, rfl, rfl, rfl, rfl, rfl, trivial⟩ (fun f1 => hJ68 (s72, (IntKind.wrap .i64 ((2 : Int) * s64.2.1))) _ f1 h so)
                  · intro J71 h hJ71
                    refine wc_region ?_
                    refine wl_val (at_move rfl) rfl ?_
                    refine wl_val (at_move rfl) rfl ?_
                    refine bif_ h (fun hb h => ?_) (fun hb h => ?_)
                    · refine wl_set (t := 103) (v := .bool true) (congrArg Value.bool hb) ?_; clear hb
                      refine wl_on (t := 103) rfl (by decide) rfl ?_
                      refine wl_val (at_move rfl) rfl ?_
                      refine wl_on (t := 103) rfl (by decide) rfl ?_
                      refine wl_val (at_move rfl) rfl ?_
                      refine wl_on (t := 103) rfl (by decide) rfl ?_
                      obtain ⟨q78, q79, h⟩ := h
                      refine wl_val (at_ixS Try.underlying9 rfl rfl q78 q79) rfl ?_
                      refine wl_on (t := 103) rfl (by decide) rfl ?_
                      refine wl_val (at_eql rfl rfl) rfl ?_
                      refine wl_val (at_pick_t rfl rfl) rfl ?_
                      refine wl_val (at_assign rfl) rfl ?_
                      refine wl_nil ?_
                      exact wk_prune [(2, .pointer (some (⟨b3, 0, none⟩ : Addr))), (6, .pointer (some (⟨b36, 0, none⟩ : Addr))), (7, .pointer (some (⟨b38, 0, none⟩ : Addr))), (10, .string x48.2), (11, .int .i64 (x48.2.size : Int)), (12, .int .u16 x56.1), (14, .bool ((bt x48.2 s64.2.2) == 49)), (15, .int .i64 s64.2.1), (16, .int .i64 s64.2.2)] ⟨rfl, rfl, rfl, rfl, rfl, rfl, rfl, rfl, rfl, trivial⟩ (fun f1 => hJ71 (((bt x48.2 s64.2.2) == 49)) _ f1 h so)
                    · refine wl_set (t := 103) (v := .bool false) (congrArg Value.bool hb) ?_; clear hb
                      refine wl_off (t := 103) rfl (by decide) rfl ?_
                      refine wl_off (t := 103) rfl (by decide) rfl ?_
                      refine wl_off (t := 103) rfl (by decide) rfl ?_
                      refine wl_off (t := 103) rfl (by decide) rfl ?_
                      refine wl_val (at_pick_f rfl rfl) rfl ?_
                      refine wl_val (at_assign rfl) rfl ?_
                      refine wl_nil ?_
                      exact wk_prune [(2, .pointer (some (⟨b3, 0, none⟩ : Addr))), (6, .pointer (some (⟨b36, 0, none⟩ : Addr))), (7, .pointer (some (⟨b38, 0, none⟩ : Addr))), (10, .string x48.2), (11, .int .i64 (x48.2.size : Int)), (12, .int .u16 x56.1), (14, .bool false), (15, .int .i64 s64.2.1), (16, .int .i64 s64.2.2)] ⟨rfl, rfl, rfl, rfl, rfl, rfl, rfl, rfl, rfl, trivial⟩ (fun f1 => hJ71 (false) _ f1 h so)
              · refine wc_exit ?_
                refine wk_thenE ?_
                refine wk_thenE ?_
                refine wk_blkE ?_
                refine wk_prune [(2, .pointer (some (⟨b3, 0, none⟩ : Addr))), (6, .pointer (some (⟨b36, 0, none⟩ : Addr))), (7, .pointer (some (⟨b38, 0, none⟩ : Addr))), (10, .string x48.2), (11, .int .i64 (x48.2.size : Int)), (12, .int .u16 x56.1), (14, .bool s64.1), (15, .int .i64 s64.2.1)] ⟨rfl, rfl, rfl, rfl, rfl, rfl, rfl, rfl, trivial⟩ (fun f1 => ?_)
                refine wk_then ?_
                refine wc_seq ?_
                refine wc_seq ?_
                refine wc_join (w0 := w50) (fun (s81 : Bool) => [(2, .pointer (some (⟨b3, 0, none⟩ : Addr))), (6, .pointer (some (⟨b36, 0, none⟩ : Addr))), (7, .pointer (some (⟨b38, 0, none⟩ : Addr))), (10, .string x48.2), (11, .int .i64 (x48.2.size : Int)), (138, .bool s81)]) h ?_ ?_
                · rintro s81 w82 f1 h so; refine wk_then ?_
                  refine wc_cond rfl h (fun h => ?_) (fun h => ?_)
                  · refine wc_seq ?_
                    refine wc_region ?_
                    refine wl_st (v := .bool false) h rfl so (fun q1 q2 => ef_store (sz := sz4) rfl rfl rfl q1 q2) ?_; intro w83 h so
                    refine wl_nil ?_
                    refine wk_prune [(2, .pointer (some (⟨b3, 0, none⟩ : Addr)))] ⟨rfl, trivial⟩ (fun f1 => ?_)
                    refine wk_then ?_
                    refine wc_ret ?_
                    refine wk_thenR ?_
                    refine wk_blkR ?_
                    exact wk_rdR h so
                  · refine wc_skip ?_
                    refine wk_prune [(2, .pointer (some (⟨b3, 0, none⟩ : Addr))), (6, .pointer (some (⟨b36, 0, none⟩ : Addr))), (7, .pointer (some (⟨b38, 0, none⟩ : Addr))), (10, .string x48.2), (11, .int .i64 (x48.2.size : Int))] ⟨rfl, rfl, rfl, rfl, rfl, trivial⟩ (fun f1 => ?_)
                    refine wk_then ?_
                    refine wc_seq ?_
                    refine wc_seq ?_
                    refine wc_region ?_
                    refine wl_val (at_assign rfl) rfl ?_
                    refine wl_nil ?_
                    refine wk_prune [(2, .pointer (some (⟨b3, 0, none⟩ : Addr))), (6, .pointer (some (⟨b36, 0, none⟩ : Addr))), (7, .pointer (some (⟨b38, 0, none⟩ : Addr))), (10, .string x48.2), (11, .int .i64 (x48.2.size : Int)), (17, .int .i64 0)] ⟨rfl, rfl, rfl, rfl, rfl, rfl, trivial⟩ (fun f1 => ?_)
                    refine wk_then ?_
                    refine wc_block ?_
                    obtain ⟨k84, h⟩ := h
                    refine wc_loop (fun k a w => ∃ (s86 : Int) (f1 : Nat → Value), a = ac 211 (en f1 [(2, .pointer (some (⟨b3, 0, none⟩ : Addr))), (6, .pointer (some (⟨b36, 0, none⟩ : Addr))), (7, .pointer (some (⟨b38, 0, none⟩ : Addr))), (10, .string x48.2), (11, .int .i64 (x48.2.size : Int)), (17, .int .i64 s86)]) [] ∧ Sm w50 w ∧ Fix _ k s86 w.heap) k84 ⟨(0), _, ac_again ⟨rfl, rfl, rfl, rfl, rfl, rfl, trivial⟩, so, h⟩ ?_
                    rintro k85 a88 w87 ⟨s86, f1, rfl, so, h⟩
                    rcases k85 with _ | k85
                    · exact h.elim
                    replace h := Fix.un h; refine wc_in ?_
                    refine wc_seq ?_
                    refine wc_seq ?_
                    refine wc_region ?_
                    refine wl_val (at_move rfl) rfl ?_
                    obtain ⟨x90, q91, h⟩ := h
                    refine wl_val (at_load Try.underlying59 rfl rfl q91) rfl ?_
                    refine wl_val (at_lenL Try.underlying59 rfl) rfl ?_
                    refine wl_val (at_lss rfl rfl) rfl ?_
                    refine wl_nil ?_
                    refine wk_prune [(2, .pointer (some (⟨b3, 0, none⟩ : Addr))), (6, .pointer (some (⟨b36, 0, none⟩ : Addr))), (7, .pointer (some (⟨b38, 0, none⟩ : Addr))), (10, .string x48.2), (11, .int .i64 (x48.2.size : Int)), (17, .int .i64 s86), (142, .bool (decide (s86 < (x90.n : Int))))] ⟨rfl, rfl, rfl, rfl, rfl, rfl, rfl, trivial⟩ (fun f1 => ?_)
                    refine wk_then ?_
                    refine wc_cond rfl h (fun h => ?_) (fun h => ?_)
                    · refine wc_skip ?_
                      refine wk_prune [(2, .pointer (some (⟨b3, 0, none⟩ : Addr))), (6, .pointer (some (⟨b36, 0, none⟩ : Addr))), (7, .pointer (some (⟨b38, 0, none⟩ : Addr))), (10, .string x48.2), (11, .int .i64 (x48.2.size : Int)), (17, .int .i64 s86)] ⟨rfl, rfl, rfl, rfl, rfl, rfl, trivial⟩ (fun f1 => ?_)
                      refine wk_then ?_
                      refine wc_seq ?_
                      refine wc_block ?_
                      refine wc_seq ?_
                      refine wc_join (w0 := w50) (fun (s93 : Bool) => [(2, .pointer (some (⟨b3, 0, none⟩ : Addr))), (6, .pointer (some (⟨b36, 0, none⟩ : Addr))), (7, .pointer (some (⟨b38, 0, none⟩ : Addr))), (10, .string x48.2), (11, .int .i64 (x48.2.size : Int)), (17, .int .i64 s86), (158, .bool s93)]) h ?_ ?_
                      · rintro s93 w94 f1 h so; refine wk_then ?_
                        refine wc_cond rfl h (fun h => ?_) (fun h => ?_)
                        · refine wc_seq ?_
                          refine wc_region ?_
                          refine wl_st (v := .bool false) h rfl so (fun q1 q2 => ef_store (sz := sz4) rfl rfl rfl q1 q2) ?_; intro w95 h so
                          refine wl_nil ?_
                          refine wk_prune [(2, .pointer (some (⟨b3, 0, none⟩ : Addr)))] ⟨rfl, trivial⟩ (fun f1 => ?_)
                          refine wk_then ?_
                          refine wc_ret ?_
                          refine wk_blkR ?_
                          refine wk_thenR ?_
                          refine wk_thenR ?_
                          refine wk_blkR ?_
                          refine wk_thenR ?_
                          refine wk_blkR ?_
                          exact wk_rdR h so
                        · refine wc_skip ?_
                          refine wk_blkN ?_
                          refine wk_prune [(2, .pointer (some (⟨b3, 0, none⟩ : Addr))), (6, .pointer (some (⟨b36, 0, none⟩ : Addr))), (7, .pointer (some (⟨b38, 0, none⟩ : Addr))), (10, .string x48.2), (11, .int .i64 (x48.2.size : Int)), (17, .int .i64 s86)] ⟨rfl, rfl, rfl, rfl, rfl, rfl, trivial⟩ (fun f1 => ?_)
                          refine wk_then ?_
                          refine wc_region ?_
                          refine wl_val (at_move rfl) rfl ?_
                          refine wl_val (at_add rfl rfl) rfl ?_
                          refine wl_val (at_assign rfl) rfl ?_
                          refine wl_nil ?_
                          exact wk_again ⟨((IntKind.wrap .i64 (s86 + 1))), _, ac_again ⟨rfl, rfl, rfl, rfl, rfl, rfl, trivial⟩, so, h⟩
                      · intro J92 h hJ92
                        refine wc_region ?_
                        obtain ⟨x96, q97, h⟩ := h
                        refine wl_val (at_load Try.underlying59 rfl rfl q97) rfl ?_
                        refine wl_val (at_move rfl) rfl ?_
                        obtain ⟨q98, q99, p100, q101, h⟩ := h
                        refine wl_val (at_ixAddrL Try.underlying59 sz9 (sl_some q101) rfl q98 q99) rfl ?_
                        obtain ⟨x102, q103, h⟩ := h
                        refine wl_val (at_load Try.underlying9 rfl rfl q103) rfl ?_
                        refine wl_val (at_move rfl) rfl ?_
                        refine wl_callF (mosaiclaw04_begins.calls _ _ _ _ h) enter43 rfl trivial so ?_; intro x104 w105 h so
                        refine wl_val (at_move rfl) rfl ?_
                        refine bif_ h (fun hb h => ?_) (fun hb h => ?_)
                        · refine wl_set (t := 151) (v := .bool true) (congrArg Value.bool hb) ?_; clear hb
                          refine wl_off (t := 151) rfl (by decide) rfl ?_
                          refine wl_off (t := 151) rfl (by decide) rfl ?_
                          refine wl_off (t := 151) rfl (by decide) rfl ?_
                          refine wl_off (t := 151) rfl (by decide) rfl ?_
                          refine wl_off (t := 151) rfl (by decide) rfl ?_
                          refine wl_off (t := 151) rfl (by decide) rfl ?_
                          refine wl_val (at_pick_t rfl rfl) rfl ?_
                          refine wl_nil ?_
                          exact wk_prune [(2, .pointer (some (⟨b3, 0, none⟩ : Addr))), (6, .pointer (some (⟨b36, 0, none⟩ : Addr))), (7, .pointer (some (⟨b38, 0, none⟩ : Addr))), (10, .string x48.2), (11, .int .i64 (x48.2.size : Int)), (17, .int .i64 s86), (158, .bool true)] ⟨rfl, rfl, rfl, rfl, rfl, rfl, rfl, trivial⟩ (fun f1 => hJ92 (true) _ f1 h so)
                        · refine wl_set (t := 151) (v := .bool false) (congrArg Value.bool hb) ?_; clear hb
                          refine wl_on (t := 151) rfl (by decide) rfl ?_
                          refine wl_val (at_move rfl) rfl ?_
                          refine wl_on (t := 151) rfl (by decide) rfl ?_
                          obtain ⟨x106, q107, h⟩ := h
                          refine wl_val (at_load Try.underlying59 rfl rfl q107) rfl ?_
                          refine wl_on (t := 151) rfl (by decide) rfl ?_
                          refine wl_val (at_move rfl) rfl ?_
                          refine wl_on (t := 151) rfl (by decide) rfl ?_
                          obtain ⟨q108, q109, p110, q111, h⟩ := h
                          refine wl_val (at_ixAddrL Try.underlying59 sz9 (sl_some q111) rfl q108 q109) rfl ?_
                          refine wl_on (t := 151) rfl (by decide) rfl ?_
                          obtain ⟨x112, q113, h⟩ := h
                          refine wl_val (at_load Try.underlying9 rfl rfl q113) rfl ?_
                          refine wl_on (t := 151) rfl (by decide) rfl ?_
                          refine wl_callF (mosaiclaw04_begins.calls _ _ _ _ h) enter43 rfl trivial so ?_; intro x114 w115 h so
                          refine wl_val (at_pick_f rfl rfl) rfl ?_
                          refine wl_nil ?_
                          exact wk_prune [(2, .pointer (some (⟨b3, 0, none⟩ : Addr))), (6, .pointer (some (⟨b36, 0, none⟩ : Addr))), (7, .pointer (some (⟨b38, 0, none⟩ : Addr))), (10, .string x48.2), (11, .int .i64 (x48.2.size : Int)), (17, .int .i64 s86), (158, .bool x114)] ⟨rfl, rfl, rfl, rfl, rfl, rfl, rfl, trivial⟩ (fun f1 => hJ92 (x114) _ f1 h so)
                    · refine wc_exit ?_
                      refine wk_thenE ?_
                      refine wk_thenE ?_
                      refine wk_blkE ?_
                      refine wk_prune [(6, .pointer (some (⟨b36, 0, none⟩ : Addr))), (7, .pointer (some (⟨b38, 0, none⟩ : Addr))), (10, .string x48.2), (11, .int .i64 (x48.2.size : Int))] ⟨rfl, rfl, rfl, rfl, trivial⟩ (fun f1 => ?_)
                      refine wk_then ?_
                      refine wc_seq ?_
                      refine wc_wo [0, 0, 2, 6, 15, 31] mixed (by kernel_rfl) so ?_; intro w116 hw so; rw [← hw] at h; clear hw
                      refine wo_pure (m' := 2) 1 rfl (by kernel_rfl) rfl rfl (fun H => at_move rfl) ?_
                      refine wo_pure (m' := 6) 2 rfl (by kernel_rfl) rfl rfl (fun H => at_sub rfl rfl) ?_
                      obtain ⟨q117, h⟩ := h
                      refine wo_pure (m' := 14) 3 rfl (by kernel_rfl) rfl rfl (fun H => at_shl rfl rfl q117) ?_
                      obtain ⟨x118, q119, h⟩ := h
                      refine wo_load (m' := 15) 0 (fun H => cellAt H (⟨b38, 0, none⟩ : Addr) = some (.int .i64 x118)) rfl (by kernel_rfl) rfl rfl (fun H q119 => at_load Try.underlying3 rfl rfl q119) q119 ?_
                      refine wo_pure (m' := 31) 4 rfl (by kernel_rfl) rfl rfl (fun H => at_add rfl rfl) ?_
                      refine wo_take (m' := 63) 5 [true] rfl (by kernel_rfl) rfl (by kernel_rfl) ?_
                      refine wl_st (v := .int .i64 (IntKind.wrap .i64 (x118 + (shlI .i64 1 (IntKind.wrap .i64 ((16 : Int) - (x48.2.size : Int))))))) h rfl so (fun q1 q2 => ef_store (sz := sz3) rfl rfl rfl q1 q2) ?_; intro w120 h so
                      refine wl_nil ?_
                      refine wk_tq trivial ?_
                      refine wo_done (by kernel_rfl) ?_
                      refine wk_prune [(6, .pointer (some (⟨b36, 0, none⟩ : Addr))), (10, .string x48.2)] ⟨rfl, rfl, trivial⟩ (fun f1 => ?_)
                      refine wk_then ?_
                      refine wc_region ?_
                      obtain ⟨x121, q122, h⟩ := h
                      refine wl_val (at_load Try.underlying59 rfl rfl q122) rfl ?_
                      refine wl_val (at_move rfl) rfl ?_
                      obtain ⟨i126, i126a, i126b, i126c, i126d⟩ := info9
                      refine wl_newS (ef_buildSlice (cs := [.string x48.2]) (ps := [(0, .string x48.2)]) Try.underlying59 i126a i126b rfl (by rw [i126c]; decide) (by rw [i126c]; exact fill_full (vs := [.string x48.2]) rfl (by simp [Value.cells]) (by simp [Value.cells]) rfl (by simp))) rfl so (ones_cons rfl ones_nil) h ?_; intro p123 w124 h r125 so
                      obtain ⟨i127, i127a, i127b, i127c, i127d⟩ := info9
                      refine wl_ap (fx_append (s := x121) (t := ⟨(some p123), 1, 1⟩) (m := 1) (xs := [.string x48.2]) Try.underlying59 Try.underlying59 i127a i127b i127c i127d rfl rfl rfl (by first | rfl | simp) r125 h) rfl so ?_; intro l128 w129 h so
                      refine wl_st (v := .slice l128.a l128.n l128.c) h rfl so (fun q1 q2 => ef_store (sz := sz59) rfl rfl rfl q1 q2) ?_; intro w130 h so
                      refine wl_nil ?_
                      refine wk_blkN ?_
                      exact wk_rdN q45 h so
                · intro J80 h hJ80
                  refine wc_region ?_
                  refine wl_val (at_move rfl) rfl ?_
                  refine wl_val (at_move rfl) rfl ?_
                  refine bif_ h (fun hb h => ?_) (fun hb h => ?_)
                  · refine wl_set (t := 118) (v := .bool true) (congrArg Value.bool hb) ?_; clear hb
                    refine wl_off (t := 118) rfl (by decide) rfl ?_
                    refine wl_off (t := 118) rfl (by decide) rfl ?_
                    refine wl_off (t := 118) rfl (by decide) rfl ?_
                    refine wl_off (t := 118) rfl (by decide) rfl ?_
                    refine wl_val (at_pick_t rfl rfl) rfl ?_
                    refine wl_val (at_move rfl) rfl ?_
                    refine wl_off (t := 124) rfl (by decide) rfl ?_
                    refine wl_off (t := 124) rfl (by decide) rfl ?_
                    refine wl_off (t := 124) rfl (by decide) rfl ?_
                    refine wl_off (t := 124) rfl (by decide) rfl ?_
                    refine wl_off' (t := 128) rfl (by decide) rfl ?_
                    refine wl_off' (t := 128) rfl (by decide) rfl ?_
                    refine wl_off' (t := 128) rfl (by decide) rfl ?_
                    refine wl_off' (t := 128) rfl (by decide) rfl ?_
                    refine wl_off' (t := 128) rfl (by decide) rfl ?_
                    refine wl_off' (t := 128) rfl (by decide) rfl ?_
                    refine wl_off' (t := 128) rfl (by decide) rfl ?_
                    refine wl_off' (t := 128) rfl (by decide) rfl ?_
                    refine wl_off (t := 124) rfl (by decide) rfl ?_
                    refine wl_val (at_pick_t rfl rfl) rfl ?_
                    refine wl_nil ?_
                    exact wk_prune [(2, .pointer (some (⟨b3, 0, none⟩ : Addr))), (6, .pointer (some (⟨b36, 0, none⟩ : Addr))), (7, .pointer (some (⟨b38, 0, none⟩ : Addr))), (10, .string x48.2), (11, .int .i64 (x48.2.size : Int)), (138, .bool true)] ⟨rfl, rfl, rfl, rfl, rfl, rfl, trivial⟩ (fun f1 => hJ80 (true) _ f1 h so)
                  · refine wl_set (t := 118) (v := .bool false) (congrArg Value.bool hb) ?_; clear hb
                    refine wl_on (t := 118) rfl (by decide) rfl ?_
                    refine wl_val (at_move rfl) rfl ?_
                    refine wl_on (t := 118) rfl (by decide) rfl ?_
                    refine wl_val (at_move rfl) rfl ?_
                    refine wl_on (t := 118) rfl (by decide) rfl ?_
                    refine wl_val (at_conv Try.underlying63 Try.underlying3 rfl) rfl ?_
                    refine wl_on (t := 118) rfl (by decide) rfl ?_
                    refine wl_val (at_neq rfl rfl) rfl ?_
                    refine wl_val (at_pick_f rfl rfl) rfl ?_
                    refine wl_val (at_move rfl) rfl ?_
                    refine bif_ h (fun hb h => ?_) (fun hb h => ?_)
                    · refine wl_set (t := 124) (v := .bool true) (congrArg Value.bool hb) ?_; clear hb
                      refine wl_off (t := 124) rfl (by decide) rfl ?_
                      refine wl_off (t := 124) rfl (by decide) rfl ?_
                      refine wl_off (t := 124) rfl (by decide) rfl ?_
                      refine wl_off (t := 124) rfl (by decide) rfl ?_
                      refine wl_off' (t := 128) rfl (by decide) rfl ?_
                      refine wl_off' (t := 128) rfl (by decide) rfl ?_
                      refine wl_off' (t := 128) rfl (by decide) rfl ?_
                      refine wl_off' (t := 128) rfl (by decide) rfl ?_
                      refine wl_off' (t := 128) rfl (by decide) rfl ?_
                      refine wl_off' (t := 128) rfl (by decide) rfl ?_
                      refine wl_off' (t := 128) rfl (by decide) rfl ?_
                      refine wl_off' (t := 128) rfl (by decide) rfl ?_
                      refine wl_off (t := 124) rfl (by decide) rfl ?_
                      refine wl_val (at_pick_t rfl rfl) rfl ?_
                      refine wl_nil ?_
                      exact wk_prune [(2, .pointer (some (⟨b3, 0, none⟩ : Addr))), (6, .pointer (some (⟨b36, 0, none⟩ : Addr))), (7, .pointer (some (⟨b38, 0, none⟩ : Addr))), (10, .string x48.2), (11, .int .i64 (x48.2.size : Int)), (138, .bool true)] ⟨rfl, rfl, rfl, rfl, rfl, rfl, trivial⟩ (fun f1 => hJ80 (true) _ f1 h so)
                    · refine wl_set (t := 124) (v := .bool false) (congrArg Value.bool hb) ?_; clear hb
                      refine wl_on (t := 124) rfl (by decide) rfl ?_
                      obtain ⟨x131, q132, h⟩ := h
                      refine wl_val (at_load Try.underlying59 rfl rfl q132) rfl ?_
                      refine wl_on (t := 124) rfl (by decide) rfl ?_
                      refine wl_val (at_lenL Try.underlying59 rfl) rfl ?_
                      refine wl_on (t := 124) rfl (by decide) rfl ?_
                      refine wl_val (at_gtr rfl rfl) rfl ?_
                      refine wl_on (t := 124) rfl (by decide) rfl ?_
                      refine wl_val (at_move rfl) rfl ?_
                      refine bif_ h (fun hb h => ?_) (fun hb h => ?_)
                      · refine wl_set (t := 128) (v := .bool true) (congrArg Value.bool hb) ?_; clear hb
                        refine wl_on (t := 128) rfl (by decide) rfl ?_
                        obtain ⟨x133, q134, h⟩ := h
                        refine wl_val (at_load Try.underlying59 rfl rfl q134) rfl ?_
                        refine wl_on (t := 128) rfl (by decide) rfl ?_
                        obtain ⟨x135, q136, h⟩ := h
                        refine wl_val (at_load Try.underlying59 rfl rfl q136) rfl ?_
                        refine wl_on (t := 128) rfl (by decide) rfl ?_
                        refine wl_val (at_lenL Try.underlying59 rfl) rfl ?_
                        refine wl_on (t := 128) rfl (by decide) rfl ?_
                        refine wl_val (at_sub rfl rfl) rfl ?_
                        refine wl_on (t := 128) rfl (by decide) rfl ?_
                        obtain ⟨q137, q138, p139, q140, h⟩ := h
                        refine wl_val (at_ixAddrL Try.underlying59 sz9 (sl_some q140) rfl q137 q138) rfl ?_
                        refine wl_on (t := 128) rfl (by decide) rfl ?_
                        obtain ⟨x141, q142, h⟩ := h
                        refine wl_val (at_load Try.underlying9 rfl rfl q142) rfl ?_
                        refine wl_on (t := 128) rfl (by decide) rfl ?_
                        refine wl_val (at_move rfl) rfl ?_
                        refine wl_on (t := 128) rfl (by decide) rfl ?_
                        refine wl_val (at_geqS rfl rfl) rfl ?_
                        refine wl_on (t := 124) rfl (by decide) rfl ?_
                        refine wl_val (at_pick_t rfl rfl) rfl ?_
                        refine wl_val (at_pick_f rfl rfl) rfl ?_
                        refine wl_nil ?_
                        exact wk_prune [(2, .pointer (some (⟨b3, 0, none⟩ : Addr))), (6, .pointer (some (⟨b36, 0, none⟩ : Addr))), (7, .pointer (some (⟨b38, 0, none⟩ : Addr))), (10, .string x48.2), (11, .int .i64 (x48.2.size : Int)), (138, .bool (!(Op.bytesLess x141.toList x48.2.toList)))] ⟨rfl, rfl, rfl, rfl, rfl, rfl, trivial⟩ (fun f1 => hJ80 ((!(Op.bytesLess x141.toList x48.2.toList))) _ f1 h so)
                      · refine wl_set (t := 128) (v := .bool false) (congrArg Value.bool hb) ?_; clear hb
                        refine wl_off (t := 128) rfl (by decide) rfl ?_
                        refine wl_off (t := 128) rfl (by decide) rfl ?_
                        refine wl_off (t := 128) rfl (by decide) rfl ?_
                        refine wl_off (t := 128) rfl (by decide) rfl ?_
                        refine wl_off (t := 128) rfl (by decide) rfl ?_
                        refine wl_off (t := 128) rfl (by decide) rfl ?_
                        refine wl_off (t := 128) rfl (by decide) rfl ?_
                        refine wl_off (t := 128) rfl (by decide) rfl ?_
                        refine wl_on (t := 124) rfl (by decide) rfl ?_
                        refine wl_val (at_pick_f rfl rfl) rfl ?_
                        refine wl_val (at_pick_f rfl rfl) rfl ?_
                        refine wl_nil ?_
                        exact wk_prune [(2, .pointer (some (⟨b3, 0, none⟩ : Addr))), (6, .pointer (some (⟨b36, 0, none⟩ : Addr))), (7, .pointer (some (⟨b38, 0, none⟩ : Addr))), (10, .string x48.2), (11, .int .i64 (x48.2.size : Int)), (138, .bool false)] ⟨rfl, rfl, rfl, rfl, rfl, rfl, trivial⟩ (fun f1 => hJ80 (false) _ f1 h so)
          · intro J58 h hJ58
            refine wc_region ?_
            refine wl_val (at_move rfl) rfl ?_
            refine wl_val (at_lss rfl rfl) rfl ?_
            refine wl_val (at_move rfl) rfl ?_
            refine bif_ h (fun hb h => ?_) (fun hb h => ?_)
            · refine wl_set (t := 70) (v := .bool true) (congrArg Value.bool hb) ?_; clear hb
              refine wl_off (t := 70) rfl (by decide) rfl ?_
              refine wl_off (t := 70) rfl (by decide) rfl ?_
              refine wl_val (at_pick_t rfl rfl) rfl ?_
              refine wl_val (at_move rfl) rfl ?_
              refine wl_off (t := 74) rfl (by decide) rfl ?_
              refine wl_off (t := 74) rfl (by decide) rfl ?_
              refine wl_off (t := 74) rfl (by decide) rfl ?_
              refine wl_val (at_pick_t rfl rfl) rfl ?_
              refine wl_val (at_move rfl) rfl ?_
              refine wl_off (t := 79) rfl (by decide) rfl ?_
              refine wl_off (t := 79) rfl (by decide) rfl ?_
              refine wl_off (t := 79) rfl (by decide) rfl ?_
              refine wl_off (t := 79) rfl (by decide) rfl ?_
              refine wl_off (t := 79) rfl (by decide) rfl ?_
              refine wl_off (t := 79) rfl (by decide) rfl ?_
              refine wl_val (at_pick_t rfl rfl) rfl ?_
              refine wl_val (at_move rfl) rfl ?_
              refine wl_off (t := 87) rfl (by decide) rfl ?_
              refine wl_off (t := 87) rfl (by decide) rfl ?_
              refine wl_off (t := 87) rfl (by decide) rfl ?_
              refine wl_off (t := 87) rfl (by decide) rfl ?_
              refine wl_off (t := 87) rfl (by decide) rfl ?_
              refine wl_off (t := 87) rfl (by decide) rfl ?_
              refine wl_off (t := 87) rfl (by decide) rfl ?_
              refine wl_off (t := 87) rfl (by decide) rfl ?_
              refine wl_val (at_pick_t rfl rfl) rfl ?_
              refine wl_nil ?_
              exact wk_prune [(2, .pointer (some (⟨b3, 0, none⟩ : Addr))), (6, .pointer (some (⟨b36, 0, none⟩ : Addr))), (7, .pointer (some (⟨b38, 0, none⟩ : Addr))), (10, .string x48.2), (11, .int .i64 (x48.2.size : Int)), (12, .int .u16 x56.1), (96, .bool true)] ⟨rfl, rfl, rfl, rfl, rfl, rfl, rfl, trivial⟩ (fun f1 => hJ58 (true) _ f1 h so)
            · refine wl_set (t := 70) (v := .bool false) (congrArg Value.bool hb) ?_; clear hb
              refine wl_on (t := 70) rfl (by decide) rfl ?_
              refine wl_val (at_move rfl) rfl ?_
              refine wl_on (t := 70) rfl (by decide) rfl ?_
              refine wl_val (at_gtr rfl rfl) rfl ?_
              refine wl_val (at_pick_f rfl rfl) rfl ?_
              refine wl_val (at_move rfl) rfl ?_
              refine bif_ h (fun hb h => ?_) (fun hb h => ?_)
              · refine wl_set (t := 74) (v := .bool true) (congrArg Value.bool hb) ?_; clear hb
                refine wl_off (t := 74) rfl (by decide) rfl ?_
                refine wl_off (t := 74) rfl (by decide) rfl ?_
                refine wl_off (t := 74) rfl (by decide) rfl ?_
                refine wl_val (at_pick_t rfl rfl) rfl ?_
                refine wl_val (at_move rfl) rfl ?_
                refine wl_off (t := 79) rfl (by decide) rfl ?_
                refine wl_off (t := 79) rfl (by decide) rfl ?_
                refine wl_off (t := 79) rfl (by decide) rfl ?_
                refine wl_off (t := 79) rfl (by decide) rfl ?_
                refine wl_off (t := 79) rfl (by decide) rfl ?_
                refine wl_off (t := 79) rfl (by decide) rfl ?_
                refine wl_val (at_pick_t rfl rfl) rfl ?_
                refine wl_val (at_move rfl) rfl ?_
                refine wl_off (t := 87) rfl (by decide) rfl ?_
                refine wl_off (t := 87) rfl (by decide) rfl ?_
                refine wl_off (t := 87) rfl (by decide) rfl ?_
                refine wl_off (t := 87) rfl (by decide) rfl ?_
                refine wl_off (t := 87) rfl (by decide) rfl ?_
                refine wl_off (t := 87) rfl (by decide) rfl ?_
                refine wl_off (t := 87) rfl (by decide) rfl ?_
                refine wl_off (t := 87) rfl (by decide) rfl ?_
                refine wl_val (at_pick_t rfl rfl) rfl ?_
                refine wl_nil ?_
                exact wk_prune [(2, .pointer (some (⟨b3, 0, none⟩ : Addr))), (6, .pointer (some (⟨b36, 0, none⟩ : Addr))), (7, .pointer (some (⟨b38, 0, none⟩ : Addr))), (10, .string x48.2), (11, .int .i64 (x48.2.size : Int)), (12, .int .u16 x56.1), (96, .bool true)] ⟨rfl, rfl, rfl, rfl, rfl, rfl, rfl, trivial⟩ (fun f1 => hJ58 (true) _ f1 h so)
              · refine wl_set (t := 74) (v := .bool false) (congrArg Value.bool hb) ?_; clear hb
                refine wl_on (t := 74) rfl (by decide) rfl ?_
                refine wl_val (at_move rfl) rfl ?_
                refine wl_on (t := 74) rfl (by decide) rfl ?_
                refine wl_val (at_move rfl) rfl ?_
                refine wl_on (t := 74) rfl (by decide) rfl ?_
                refine wl_val (at_neq rfl rfl) rfl ?_
                refine wl_val (at_pick_f rfl rfl) rfl ?_
                refine wl_val (at_move rfl) rfl ?_
                refine bif_ h (fun hb h => ?_) (fun hb h => ?_)
                · refine wl_set (t := 79) (v := .bool true) (congrArg Value.bool hb) ?_; clear hb
                  refine wl_off (t := 79) rfl (by decide) rfl ?_
                  refine wl_off (t := 79) rfl (by decide) rfl ?_
                  refine wl_off (t := 79) rfl (by decide) rfl ?_
                  refine wl_off (t := 79) rfl (by decide) rfl ?_
                  refine wl_off (t := 79) rfl (by decide) rfl ?_
                  refine wl_off (t := 79) rfl (by decide) rfl ?_
                  refine wl_val (at_pick_t rfl rfl) rfl ?_
                  refine wl_val (at_move rfl) rfl ?_
                  refine wl_off (t := 87) rfl (by decide) rfl ?_
                  refine wl_off (t := 87) rfl (by decide) rfl ?_
                  refine wl_off (t := 87) rfl (by decide) rfl ?_
                  refine wl_off (t := 87) rfl (by decide) rfl ?_
                  refine wl_off (t := 87) rfl (by decide) rfl ?_
                  refine wl_off (t := 87) rfl (by decide) rfl ?_
                  refine wl_off (t := 87) rfl (by decide) rfl ?_
                  refine wl_off (t := 87) rfl (by decide) rfl ?_
                  refine wl_val (at_pick_t rfl rfl) rfl ?_
                  refine wl_nil ?_
                  exact wk_prune [(2, .pointer (some (⟨b3, 0, none⟩ : Addr))), (6, .pointer (some (⟨b36, 0, none⟩ : Addr))), (7, .pointer (some (⟨b38, 0, none⟩ : Addr))), (10, .string x48.2), (11, .int .i64 (x48.2.size : Int)), (12, .int .u16 x56.1), (96, .bool true)] ⟨rfl, rfl, rfl, rfl, rfl, rfl, rfl, trivial⟩ (fun f1 => hJ58 (true) _ f1 h so)
                · refine wl_set (t := 79) (v := .bool false) (congrArg Value.bool hb) ?_; clear hb
                  refine wl_on (t := 79) rfl (by decide) rfl ?_
                  obtain ⟨x143, q144, h⟩ := h
                  refine wl_val (at_load Try.underlying59 rfl rfl q144) rfl ?_
                  refine wl_on (t := 79) rfl (by decide) rfl ?_
                  refine wl_val (at_lenL Try.underlying59 rfl) rfl ?_
                  refine wl_on (t := 79) rfl (by decide) rfl ?_
                  refine wl_val (at_fieldAddr Try.underlying25 rfl rfl sz23 (by decide) rfl) rfl ?_
                  refine wl_on (t := 79) rfl (by decide) rfl ?_
                  obtain ⟨x145, q146, h⟩ := h
                  refine wl_val (at_load Try.underlying23 rfl rfl q146) rfl ?_
                  refine wl_on (t := 79) rfl (by decide) rfl ?_
                  refine wl_val (at_lenL Try.underlying23 rfl) rfl ?_
                  refine wl_on (t := 79) rfl (by decide) rfl ?_
                  refine wl_val (at_geq rfl rfl) rfl ?_
                  refine wl_val (at_pick_f rfl rfl) rfl ?_
                  refine wl_val (at_move rfl) rfl ?_
                  refine bif_ h (fun hb h => ?_) (fun hb h => ?_)
                  · refine wl_set (t := 87) (v := .bool true) (congrArg Value.bool hb) ?_; clear hb
                    refine wl_off (t := 87) rfl (by decide) rfl ?_
                    refine wl_off (t := 87) rfl (by decide) rfl ?_
                    refine wl_off (t := 87) rfl (by decide) rfl ?_
                    refine wl_off (t := 87) rfl (by decide) rfl ?_
                    refine wl_off (t := 87) rfl (by decide) rfl ?_
                    refine wl_off (t := 87) rfl (by decide) rfl ?_
                    refine wl_off (t := 87) rfl (by decide) rfl ?_
                    refine wl_off (t := 87) rfl (by decide) rfl ?_
                    refine wl_val (at_pick_t rfl rfl) rfl ?_
                    refine wl_nil ?_
                    exact wk_prune [(2, .pointer (some (⟨b3, 0, none⟩ : Addr))), (6, .pointer (some (⟨b36, 0, none⟩ : Addr))), (7, .pointer (some (⟨b38, 0, none⟩ : Addr))), (10, .string x48.2), (11, .int .i64 (x48.2.size : Int)), (12, .int .u16 x56.1), (96, .bool true)] ⟨rfl, rfl, rfl, rfl, rfl, rfl, rfl, trivial⟩ (fun f1 => hJ58 (true) _ f1 h so)
                  · refine wl_set (t := 87) (v := .bool false) (congrArg Value.bool hb) ?_; clear hb
                    refine wl_on (t := 87) rfl (by decide) rfl ?_
                    refine wl_val (at_move rfl) rfl ?_
                    refine wl_on (t := 87) rfl (by decide) rfl ?_
                    refine wl_val (at_fieldAddr Try.underlying25 rfl rfl sz23 (by decide) rfl) rfl ?_
                    refine wl_on (t := 87) rfl (by decide) rfl ?_
                    obtain ⟨x147, q148, h⟩ := h
                    refine wl_val (at_load Try.underlying23 rfl rfl q148) rfl ?_
                    refine wl_on (t := 87) rfl (by decide) rfl ?_
                    obtain ⟨x149, q150, h⟩ := h
                    refine wl_val (at_load Try.underlying59 rfl rfl q150) rfl ?_
                    refine wl_on (t := 87) rfl (by decide) rfl ?_
                    refine wl_val (at_lenL Try.underlying59 rfl) rfl ?_
                    refine wl_on (t := 87) rfl (by decide) rfl ?_
                    obtain ⟨q151, q152, p153, q154, h⟩ := h
                    refine wl_val (at_ixAddrL Try.underlying23 sz5 (sl_some q154) rfl q151 q152) rfl ?_
                    refine wl_on (t := 87) rfl (by decide) rfl ?_
                    obtain ⟨x155, q156, h⟩ := h
                    refine wl_val (at_load Try.underlying5 rfl rfl q156) rfl ?_
                    refine wl_on (t := 87) rfl (by decide) rfl ?_
                    refine wl_val (at_neq rfl rfl) rfl ?_
                    refine wl_val (at_pick_f rfl rfl) rfl ?_
                    refine wl_nil ?_
                    exact wk_prune [(2, .pointer (some (⟨b3, 0, none⟩ : Addr))), (6, .pointer (some (⟨b36, 0, none⟩ : Addr))), (7, .pointer (some (⟨b38, 0, none⟩ : Addr))), (10, .string x48.2), (11, .int .i64 (x48.2.size : Int)), (12, .int .u16 x56.1), (96, .bool (x48.1 != x155))] ⟨rfl, rfl, rfl, rfl, rfl, rfl, rfl, trivial⟩ (fun f1 => hJ58 ((x48.1 != x155)) _ f1 h so)
        · rintro _ w51 ⟨_, rfl, h, q157⟩; replace so := so.trans q157
          rcases h with h | h
          · refine rp_none q45 h so ?_; intro w158 h so
            refine wk_blkN ?_
            refine wk_prune [(1, .pointer (some (⟨b1, 0, none⟩ : Addr))), (2, .pointer (some (⟨b3, 0, none⟩ : Addr))), (3, .bool x5), (6, .pointer (some (⟨b36, 0, none⟩ : Addr))), (7, .pointer (some (⟨b38, 0, none⟩ : Addr)))] ⟨rfl, rfl, rfl, rfl, rfl, trivial⟩ (fun f1 => ?_)
            refine wk_then ?_
            refine wc_seq ?_
            refine wc_region ?_
            refine wl_newT (T := 22) (cs := (c22 (zInts 16))) (ef_alloc zero22 rfl) rfl so ?_; intro b159 w160 hb_b159 t_b159 k_b159 so
            have g_b159 := Nat.le_of_eq hb_b159.symm
            have hc := k_b159.ch (F := [])
            refine wl_nil ?_
            refine wk_prune [(1, .pointer (some (⟨b1, 0, none⟩ : Addr))), (2, .pointer (some (⟨b3, 0, none⟩ : Addr))), (3, .bool x5), (6, .pointer (some (⟨b36, 0, none⟩ : Addr))), (7, .pointer (some (⟨b38, 0, none⟩ : Addr))), (18, .pointer (some (⟨b159, 0, none⟩ : Addr)))] ⟨rfl, rfl, rfl, rfl, rfl, rfl, trivial⟩ (fun f1 => ?_)
            refine wk_then ?_
            refine wc_seq ?_
            refine wc_seq ?_
            refine wc_region ?_
            refine wl_val (at_assign rfl) rfl ?_
            refine wl_nil ?_
            refine wk_prune [(1, .pointer (some (⟨b1, 0, none⟩ : Addr))), (2, .pointer (some (⟨b3, 0, none⟩ : Addr))), (3, .bool x5), (6, .pointer (some (⟨b36, 0, none⟩ : Addr))), (7, .pointer (some (⟨b38, 0, none⟩ : Addr))), (18, .pointer (some (⟨b159, 0, none⟩ : Addr))), (19, .int .i64 0)] ⟨rfl, rfl, rfl, rfl, rfl, rfl, rfl, trivial⟩ (fun f1 => ?_)
            refine wk_then ?_
            refine wc_block ?_
            replace h := h b159 _ hc g_b159 t_b159.lt; clear hc
            replace h := h t_b159
            obtain ⟨k161, h⟩ := h
            refine wc_loop (fun k a w => ∃ (s163 : Int) (f1 : Nat → Value), a = ac 211 (en f1 [(1, .pointer (some (⟨b1, 0, none⟩ : Addr))), (2, .pointer (some (⟨b3, 0, none⟩ : Addr))), (3, .bool x5), (6, .pointer (some (⟨b36, 0, none⟩ : Addr))), (7, .pointer (some (⟨b38, 0, none⟩ : Addr))), (18, .pointer (some (⟨b159, 0, none⟩ : Addr))), (19, .int .i64 s163)]) (mks (D52 :: [])) ∧ Sm w0 w ∧ Fix _ k s163 w.heap) k161 ⟨(0), _, ac_again ⟨rfl, rfl, rfl, rfl, rfl, rfl, rfl, trivial⟩, so, h⟩ ?_
            rintro k162 a165 w164 ⟨s163, f1, rfl, so, h⟩
            rcases k162 with _ | k162
            · exact h.elim
            replace h := Fix.un h; refine wc_in ?_
            refine wc_seq ?_
            refine wc_seq ?_
            refine wc_region ?_
            refine wl_val (at_move rfl) rfl ?_
            obtain ⟨x167, q168, h⟩ := h
            refine wl_val (at_load Try.underlying59 rfl rfl q168) rfl ?_
            refine wl_val (at_lenL Try.underlying59 rfl) rfl ?_
            refine wl_val (at_lss rfl rfl) rfl ?_
            refine wl_nil ?_
            refine wk_prune [(1, .pointer (some (⟨b1, 0, none⟩ : Addr))), (2, .pointer (some (⟨b3, 0, none⟩ : Addr))), (3, .bool x5), (6, .pointer (some (⟨b36, 0, none⟩ : Addr))), (7, .pointer (some (⟨b38, 0, none⟩ : Addr))), (18, .pointer (some (⟨b159, 0, none⟩ : Addr))), (19, .int .i64 s163), (171, .bool (decide (s163 < (x167.n : Int))))] ⟨rfl, rfl, rfl, rfl, rfl, rfl, rfl, rfl, trivial⟩ (fun f1 => ?_)
            refine wk_then ?_
            refine wc_cond rfl h (fun h => ?_) (fun h => ?_)
            · refine wc_skip ?_
              refine wk_prune [(1, .pointer (some (⟨b1, 0, none⟩ : Addr))), (2, .pointer (some (⟨b3, 0, none⟩ : Addr))), (3, .bool x5), (6, .pointer (some (⟨b36, 0, none⟩ : Addr))), (7, .pointer (some (⟨b38, 0, none⟩ : Addr))), (18, .pointer (some (⟨b159, 0, none⟩ : Addr))), (19, .int .i64 s163)] ⟨rfl, rfl, rfl, rfl, rfl, rfl, rfl, trivial⟩ (fun f1 => ?_)
              refine wk_then ?_
              refine wc_seq ?_
              refine wc_block ?_
              refine wc_region ?_
              obtain ⟨x169, q170, h⟩ := h
              refine wl_val (at_load Try.underlying59 rfl rfl q170) rfl ?_
              refine wl_val (at_move rfl) rfl ?_
              obtain ⟨q171, q172, p173, q174, h⟩ := h
              refine wl_val (at_ixAddrL Try.underlying59 sz9 (sl_some q174) rfl q171 q172) rfl ?_
              obtain ⟨x175, q176, h⟩ := h
              refine wl_val (at_load Try.underlying9 rfl rfl q176) rfl ?_
              refine wl_val (at_lenS Try.underlying9 rfl) rfl ?_
              refine wl_val (at_sub rfl rfl) rfl ?_
              obtain ⟨q177, q178, h⟩ := h
              refine wl_val (at_ixAddrA Try.underlying22 sz5 rfl rfl q177 q178) rfl ?_
              obtain ⟨x179, q180, h⟩ := h
              refine wl_val (at_load Try.underlying5 rfl rfl q180) rfl ?_
              refine wl_val (at_add rfl rfl) rfl ?_
              obtain ⟨q181, q182, h⟩ := h
              refine wl_val (at_ixAddrA Try.underlying22 sz5 rfl rfl q181 q182) rfl ?_
              refine wl_st (v := .int .u8 (IntKind.wrap .u8 (x179 + 1))) h rfl so (fun q1 q2 => ef_store (sz := sz5) rfl rfl rfl q1 q2) ?_; intro w183 h so
              refine wl_nil ?_
              refine wk_blkN ?_
              refine wk_prune [(1, .pointer (some (⟨b1, 0, none⟩ : Addr))), (2, .pointer (some (⟨b3, 0, none⟩ : Addr))), (3, .bool x5), (6, .pointer (some (⟨b36, 0, none⟩ : Addr))), (7, .pointer (some (⟨b38, 0, none⟩ : Addr))), (18, .pointer (some (⟨b159, 0, none⟩ : Addr))), (19, .int .i64 s163)] ⟨rfl, rfl, rfl, rfl, rfl, rfl, rfl, trivial⟩ (fun f1 => ?_)
              refine wk_then ?_
              refine wc_region ?_
              refine wl_val (at_move rfl) rfl ?_
              refine wl_val (at_add rfl rfl) rfl ?_
              refine wl_val (at_assign rfl) rfl ?_
              refine wl_nil ?_
              exact wk_again ⟨((IntKind.wrap .i64 (s163 + 1))), _, ac_again ⟨rfl, rfl, rfl, rfl, rfl, rfl, rfl, trivial⟩, so, h⟩
            · refine wc_exit ?_
              refine wk_thenE ?_
              refine wk_thenE ?_
              refine wk_blkE ?_
              refine wk_prune [(1, .pointer (some (⟨b1, 0, none⟩ : Addr))), (2, .pointer (some (⟨b3, 0, none⟩ : Addr))), (3, .bool x5), (6, .pointer (some (⟨b36, 0, none⟩ : Addr))), (7, .pointer (some (⟨b38, 0, none⟩ : Addr))), (18, .pointer (some (⟨b159, 0, none⟩ : Addr)))] ⟨rfl, rfl, rfl, rfl, rfl, rfl, trivial⟩ (fun f1 => ?_)
              refine wk_then ?_
              refine wc_seq ?_
              refine wc_wo [0, 1, 3, 7, 3, 19, 51, 127, 255, 511, 1023, 2047, 4095, 1023, 9215, 32767, 65535, 131071, 262143, 524287, 1048575, 2097151, 4194303, 4194303, 12582911, 33554431, 67108863, 134217727] mixed (by kernel_rfl) so ?_; intro w184 hw so; rw [← hw] at h; clear hw
              refine wo_pure (m' := 1) 0 rfl (by kernel_rfl) rfl rfl (fun H => at_move rfl) ?_
              refine wo_pure (m' := 3) 1 rfl (by kernel_rfl) rfl rfl (fun H => at_move rfl) ?_
              refine bif_ h (fun hb h => ?_) (fun hb h => ?_)
              · refine wo_set (t := 185) (v := .bool true) (congrArg Value.bool hb) ?_; clear hb
                refine wo_pureG (m' := 19) 4 rfl (by kernel_rfl) rfl (t := 185) rfl (by decide) rfl (fun H => at_fieldAddr Try.underlying25 rfl rfl sz23 (by decide) rfl) ?_
                obtain ⟨x185, q186, h⟩ := h
                refine wo_loadG (m' := 23) 2 (fun H => cellAt H (⟨b36, 0, none⟩ : Addr) = some (.slice x185.a x185.n x185.c)) rfl (by kernel_rfl) rfl (t := 185) rfl (by decide) rfl (fun H q186 => at_load Try.underlying59 rfl rfl q186) q186 ?_
                refine wo_pureG (m' := 31) 3 rfl (by kernel_rfl) rfl (t := 185) rfl (by decide) rfl (fun H => at_lenL Try.underlying59 rfl) ?_
                obtain ⟨x187, q188, h⟩ := h
                refine wo_loadG (m' := 63) 5 (fun H => cellAt H (⟨b1, 16, none⟩ : Addr) = some (.slice x187.a x187.n x187.c)) rfl (by kernel_rfl) rfl (t := 185) rfl (by decide) rfl (fun H q188 => at_load Try.underlying23 rfl rfl q188) q188 ?_
                refine wo_pureG (m' := 127) 6 rfl (by kernel_rfl) rfl (t := 185) rfl (by decide) rfl (fun H => at_lenL Try.underlying23 rfl) ?_
                refine wo_pureG (m' := 255) 7 rfl (by kernel_rfl) rfl (t := 185) rfl (by decide) rfl (fun H => at_eql rfl rfl) ?_
                refine wo_pure (m' := 511) 8 rfl (by kernel_rfl) rfl rfl (fun H => at_pick_t rfl rfl) ?_
                refine wo_pure (m' := 1023) 9 rfl (by kernel_rfl) rfl rfl (fun H => at_move rfl) ?_
                refine bif_ h (fun hb h => ?_) (fun hb h => ?_)
                · refine wo_set (t := 193) (v := .bool true) (congrArg Value.bool hb) ?_; clear hb
                  obtain ⟨x189, x190, q191, h⟩ := h
                  refine wo_loadG (m' := 2047) 10 (fun H => ldA H (⟨b1, 0, none⟩ : Addr) (c25 x189 x190)) rfl (by kernel_rfl) rfl (t := 193) rfl (by decide) rfl (fun H q191 => at_loadA (cs := (c25 x189 x190)) Try.underlying25 rfl (by rw [len25]; exact sz25) rfl q191) q191 ?_
                  obtain ⟨x192, q193, h⟩ := h
                  refine wo_loadG (m' := 10239) 13 (fun H => cellAt H (⟨b38, 0, none⟩ : Addr) = some (.int .i64 x192)) rfl (by kernel_rfl) rfl (t := 193) rfl (by decide) rfl (fun H q193 => at_load Try.underlying3 rfl rfl q193) q193 ?_
                  refine wo_pureG (m' := 26623) 14 rfl (by kernel_rfl) rfl (t := 193) rfl (by decide) rfl (fun H => at_sub rfl rfl) ?_
                  refine wo_take (m' := 28671) 11 [false, true, true, true] rfl (by kernel_rfl) rfl (by kernel_rfl) ?_
                  refine wl_on (t := 193) rfl (by decide) rfl ?_
                  refine wl_callF (mosaiclaw04_twin.calls _ _ _ _ h) enter11 rfl trivial so ?_; intro x194 w195 h so
                  refine wl_nil ?_
                  obtain ⟨q196, h⟩ := h
                  refine wk_tq ⟨q196, trivial⟩ ?_
                  refine wo_take (m' := 32767) 12 [false] rfl (by kernel_rfl) rfl (by kernel_rfl) ?_
                  refine wl_on (t := 193) rfl (by decide) rfl ?_
                  refine wl_callF (huff_Room.calls _ _ _ _ h) enter14 rfl trivial so ?_; intro x197 w198 h so
                  refine wl_nil ?_
                  obtain ⟨q199, h⟩ := h
                  refine wk_tq ⟨q199, trivial⟩ ?_
                  refine wo_pureG (m' := 65535) 15 rfl (by kernel_rfl) rfl (t := 193) rfl (by decide) rfl (fun H => at_eql rfl rfl) ?_
                  refine wo_pure (m' := 131071) 16 rfl (by kernel_rfl) rfl rfl (fun H => at_pick_t rfl rfl) ?_
                  refine wo_pure (m' := 262143) 17 rfl (by kernel_rfl) rfl rfl (fun H => at_move rfl) ?_
                  refine bif_ h (fun hb h => ?_) (fun hb h => ?_)
                  · refine wo_set (t := 201) (v := .bool true) (congrArg Value.bool hb) ?_; clear hb
                    obtain ⟨x200, q201, h⟩ := h
                    refine wo_loadG (m' := 524287) 18 (fun H => cellAt H (⟨b38, 0, none⟩ : Addr) = some (.int .i64 x200)) rfl (by kernel_rfl) rfl (t := 201) rfl (by decide) rfl (fun H q201 => at_load Try.underlying3 rfl rfl q201) q201 ?_
                    refine wo_pureG (m' := 1048575) 19 rfl (by kernel_rfl) rfl (t := 201) rfl (by decide) rfl (fun H => at_lss rfl rfl) ?_
                    refine wo_pure (m' := 2097151) 20 rfl (by kernel_rfl) rfl rfl (fun H => at_pick_t rfl rfl) ?_
                    refine wo_pure (m' := 4194303) 21 rfl (by kernel_rfl) rfl rfl (fun H => at_move rfl) ?_
                    refine bif_ h (fun hb h => ?_) (fun hb h => ?_)
                    · refine wo_set (t := 205) (v := .bool true) (congrArg Value.bool hb) ?_; clear hb
                      refine wo_pureG (m' := 12582911) 23 rfl (by kernel_rfl) rfl (t := 205) rfl (by decide) rfl (fun H => at_fieldAddr Try.underlying25 rfl rfl sz22 (by decide) rfl) ?_
                      obtain ⟨x202, q203, h⟩ := h
                      refine wo_loadG (m' := 16777215) 22 (fun H => ldA H (⟨b159, 0, none⟩ : Addr) (c22 x202)) rfl (by kernel_rfl) rfl (t := 205) rfl (by decide) rfl (fun H q203 => at_loadA (cs := (c22 x202)) Try.underlying22 rfl (by rw [len22]; exact sz22) rfl q203) q203 ?_
                      obtain ⟨x204, q205, h⟩ := h
                      refine wo_loadG (m' := 33554431) 24 (fun H => ldA H (⟨b1, 0, none⟩ : Addr) (c22 x204)) rfl (by kernel_rfl) rfl (t := 205) rfl (by decide) rfl (fun H q205 => at_loadA (cs := (c22 x204)) Try.underlying22 rfl (by rw [len22]; exact sz22) rfl q205) q205 ?_
                      refine wo_pureG (m' := 67108863) 25 rfl (by kernel_rfl) rfl (t := 205) rfl (by decide) rfl (fun H => at_eqlA (xs := (c22 x202)) (ys := (c22 x204)) rfl rfl (by kernel_rfl) (eqv_ints Try.underlying22 Try.underlying5 sz5)) ?_
                      refine wo_pure (m' := 134217727) 26 rfl (by kernel_rfl) rfl rfl (fun H => at_pick_t rfl rfl) ?_
                      refine wo_take (m' := 268435455) 27 [true, true, true, true] rfl (by kernel_rfl) rfl (by kernel_rfl) ?_
                      refine wl_st (v := .bool (x202.1 == x204.1)) h rfl so (fun q1 q2 => ef_store (sz := sz4) rfl rfl rfl q1 q2) ?_; intro w206 h so
                      refine wl_nil ?_
                      refine wk_tq trivial ?_
                      refine wo_done (by kernel_rfl) ?_
                      refine wk_prune [(2, .pointer (some (⟨b3, 0, none⟩ : Addr)))] ⟨rfl, trivial⟩ (fun f1 => ?_)
                      refine wk_then ?_
                      refine wc_ret ?_
                      refine wk_tk h so ?_; intro w207 h so
                      obtain ⟨x209, q208, h⟩ := h
                      exact wk_retR1 (x := x209) rfl ⟨by decide, _, rfl, loadVar_one Try.underlying4 rfl q208⟩ rfl so h
                    · refine wo_set (t := 205) (v := .bool false) (congrArg Value.bool hb) ?_; clear hb
                      refine wo_off (m' := 8388607) 22 rfl (by kernel_rfl) rfl (t := 205) rfl (by decide) rfl ?_
                      refine wo_off (m' := 16777215) 23 rfl (by kernel_rfl) rfl (t := 205) rfl (by decide) rfl ?_
                      refine wo_off (m' := 33554431) 24 rfl (by kernel_rfl) rfl (t := 205) rfl (by decide) rfl ?_
                      refine wo_off (m' := 67108863) 25 rfl (by kernel_rfl) rfl (t := 205) rfl (by decide) rfl ?_
                      refine wo_pure (m' := 134217727) 26 rfl (by kernel_rfl) rfl rfl (fun H => at_pick_f rfl rfl) ?_
                      refine wo_take (m' := 268435455) 27 [true, true] rfl (by kernel_rfl) rfl (by kernel_rfl) ?_
                      refine wl_st (v := .bool false) h rfl so (fun q1 q2 => ef_store (sz := sz4) rfl rfl rfl q1 q2) ?_; intro w210 h so
                      refine wl_nil ?_
                      refine wk_tq trivial ?_
                      refine wo_done (by kernel_rfl) ?_
                      refine wk_prune [(2, .pointer (some (⟨b3, 0, none⟩ : Addr)))] ⟨rfl, trivial⟩ (fun f1 => ?_)
                      refine wk_then ?_
                      refine wc_ret ?_
                      refine wk_tk h so ?_; intro w211 h so
                      obtain ⟨x213, q212, h⟩ := h
                      exact wk_retR1 (x := x213) rfl ⟨by decide, _, rfl, loadVar_one Try.underlying4 rfl q212⟩ rfl so h
                  · refine wo_set (t := 201) (v := .bool false) (congrArg Value.bool hb) ?_; clear hb
                    refine wo_off (m' := 524287) 18 rfl (by kernel_rfl) rfl (t := 201) rfl (by decide) rfl ?_
                    refine wo_off (m' := 1048575) 19 rfl (by kernel_rfl) rfl (t := 201) rfl (by decide) rfl ?_
                    refine wo_pure (m' := 2097151) 20 rfl (by kernel_rfl) rfl rfl (fun H => at_pick_f rfl rfl) ?_
                    refine wo_pure (m' := 4194303) 21 rfl (by kernel_rfl) rfl rfl (fun H => at_move rfl) ?_
                    refine wo_off (m' := 8388607) 22 rfl (by kernel_rfl) rfl (t := 205) rfl (by decide) rfl ?_
                    refine wo_off (m' := 16777215) 23 rfl (by kernel_rfl) rfl (t := 205) rfl (by decide) rfl ?_
                    refine wo_off (m' := 33554431) 24 rfl (by kernel_rfl) rfl (t := 205) rfl (by decide) rfl ?_
                    refine wo_off (m' := 67108863) 25 rfl (by kernel_rfl) rfl (t := 205) rfl (by decide) rfl ?_
                    refine wo_pure (m' := 134217727) 26 rfl (by kernel_rfl) rfl rfl (fun H => at_pick_f rfl rfl) ?_
                    refine wo_take (m' := 268435455) 27 [true] rfl (by kernel_rfl) rfl (by kernel_rfl) ?_
                    refine wl_st (v := .bool false) h rfl so (fun q1 q2 => ef_store (sz := sz4) rfl rfl rfl q1 q2) ?_; intro w214 h so
                    refine wl_nil ?_
                    refine wk_tq trivial ?_
                    refine wo_done (by kernel_rfl) ?_
                    refine wk_prune [(2, .pointer (some (⟨b3, 0, none⟩ : Addr)))] ⟨rfl, trivial⟩ (fun f1 => ?_)
                    refine wk_then ?_
                    refine wc_ret ?_
                    refine wk_tk h so ?_; intro w215 h so
                    obtain ⟨x217, q216, h⟩ := h
                    exact wk_retR1 (x := x217) rfl ⟨by decide, _, rfl, loadVar_one Try.underlying4 rfl q216⟩ rfl so h
                · refine wo_set (t := 193) (v := .bool false) (congrArg Value.bool hb) ?_; clear hb
                  refine wo_off (m' := 2047) 10 rfl (by kernel_rfl) rfl (t := 193) rfl (by decide) rfl ?_
                  refine wo_off (m' := 4095) 11 rfl (by kernel_rfl) rfl (t := 193) rfl (by decide) rfl ?_
                  refine wo_off (m' := 8191) 12 rfl (by kernel_rfl) rfl (t := 193) rfl (by decide) rfl ?_
                  refine wo_off (m' := 16383) 13 rfl (by kernel_rfl) rfl (t := 193) rfl (by decide) rfl ?_
                  refine wo_off (m' := 32767) 14 rfl (by kernel_rfl) rfl (t := 193) rfl (by decide) rfl ?_
                  refine wo_off (m' := 65535) 15 rfl (by kernel_rfl) rfl (t := 193) rfl (by decide) rfl ?_
                  refine wo_pure (m' := 131071) 16 rfl (by kernel_rfl) rfl rfl (fun H => at_pick_f rfl rfl) ?_
                  refine wo_pure (m' := 262143) 17 rfl (by kernel_rfl) rfl rfl (fun H => at_move rfl) ?_
                  refine wo_off (m' := 524287) 18 rfl (by kernel_rfl) rfl (t := 201) rfl (by decide) rfl ?_
                  refine wo_off (m' := 1048575) 19 rfl (by kernel_rfl) rfl (t := 201) rfl (by decide) rfl ?_
                  refine wo_pure (m' := 2097151) 20 rfl (by kernel_rfl) rfl rfl (fun H => at_pick_f rfl rfl) ?_
                  refine wo_pure (m' := 4194303) 21 rfl (by kernel_rfl) rfl rfl (fun H => at_move rfl) ?_
                  refine wo_off (m' := 8388607) 22 rfl (by kernel_rfl) rfl (t := 205) rfl (by decide) rfl ?_
                  refine wo_off (m' := 16777215) 23 rfl (by kernel_rfl) rfl (t := 205) rfl (by decide) rfl ?_
                  refine wo_off (m' := 33554431) 24 rfl (by kernel_rfl) rfl (t := 205) rfl (by decide) rfl ?_
                  refine wo_off (m' := 67108863) 25 rfl (by kernel_rfl) rfl (t := 205) rfl (by decide) rfl ?_
                  refine wo_pure (m' := 134217727) 26 rfl (by kernel_rfl) rfl rfl (fun H => at_pick_f rfl rfl) ?_
                  refine wo_take (m' := 268435455) 27 [true, true] rfl (by kernel_rfl) rfl (by kernel_rfl) ?_
                  refine wl_st (v := .bool false) h rfl so (fun q1 q2 => ef_store (sz := sz4) rfl rfl rfl q1 q2) ?_; intro w218 h so
                  refine wl_nil ?_
                  refine wk_tq trivial ?_
                  refine wo_done (by kernel_rfl) ?_
                  refine wk_prune [(2, .pointer (some (⟨b3, 0, none⟩ : Addr)))] ⟨rfl, trivial⟩ (fun f1 => ?_)
                  refine wk_then ?_
                  refine wc_ret ?_
                  refine wk_tk h so ?_; intro w219 h so
                  obtain ⟨x221, q220, h⟩ := h
                  exact wk_retR1 (x := x221) rfl ⟨by decide, _, rfl, loadVar_one Try.underlying4 rfl q220⟩ rfl so h
              · refine wo_set (t := 185) (v := .bool false) (congrArg Value.bool hb) ?_; clear hb
                refine wo_off (m' := 7) 2 rfl (by kernel_rfl) rfl (t := 185) rfl (by decide) rfl ?_
                refine wo_off (m' := 15) 3 rfl (by kernel_rfl) rfl (t := 185) rfl (by decide) rfl ?_
                refine wo_off (m' := 31) 4 rfl (by kernel_rfl) rfl (t := 185) rfl (by decide) rfl ?_
                refine wo_off (m' := 63) 5 rfl (by kernel_rfl) rfl (t := 185) rfl (by decide) rfl ?_
                refine wo_off (m' := 127) 6 rfl (by kernel_rfl) rfl (t := 185) rfl (by decide) rfl ?_
                refine wo_off (m' := 255) 7 rfl (by kernel_rfl) rfl (t := 185) rfl (by decide) rfl ?_
                refine wo_pure (m' := 511) 8 rfl (by kernel_rfl) rfl rfl (fun H => at_pick_f rfl rfl) ?_
                refine wo_pure (m' := 1023) 9 rfl (by kernel_rfl) rfl rfl (fun H => at_move rfl) ?_
                refine wo_off (m' := 2047) 10 rfl (by kernel_rfl) rfl (t := 193) rfl (by decide) rfl ?_
                refine wo_off (m' := 4095) 11 rfl (by kernel_rfl) rfl (t := 193) rfl (by decide) rfl ?_
                refine wo_off (m' := 8191) 12 rfl (by kernel_rfl) rfl (t := 193) rfl (by decide) rfl ?_
                refine wo_off (m' := 16383) 13 rfl (by kernel_rfl) rfl (t := 193) rfl (by decide) rfl ?_
                refine wo_off (m' := 32767) 14 rfl (by kernel_rfl) rfl (t := 193) rfl (by decide) rfl ?_
                refine wo_off (m' := 65535) 15 rfl (by kernel_rfl) rfl (t := 193) rfl (by decide) rfl ?_
                refine wo_pure (m' := 131071) 16 rfl (by kernel_rfl) rfl rfl (fun H => at_pick_f rfl rfl) ?_
                refine wo_pure (m' := 262143) 17 rfl (by kernel_rfl) rfl rfl (fun H => at_move rfl) ?_
                refine wo_off (m' := 524287) 18 rfl (by kernel_rfl) rfl (t := 201) rfl (by decide) rfl ?_
                refine wo_off (m' := 1048575) 19 rfl (by kernel_rfl) rfl (t := 201) rfl (by decide) rfl ?_
                refine wo_pure (m' := 2097151) 20 rfl (by kernel_rfl) rfl rfl (fun H => at_pick_f rfl rfl) ?_
                refine wo_pure (m' := 4194303) 21 rfl (by kernel_rfl) rfl rfl (fun H => at_move rfl) ?_
                refine wo_off (m' := 8388607) 22 rfl (by kernel_rfl) rfl (t := 205) rfl (by decide) rfl ?_
                refine wo_off (m' := 16777215) 23 rfl (by kernel_rfl) rfl (t := 205) rfl (by decide) rfl ?_
                refine wo_off (m' := 33554431) 24 rfl (by kernel_rfl) rfl (t := 205) rfl (by decide) rfl ?_
                refine wo_off (m' := 67108863) 25 rfl (by kernel_rfl) rfl (t := 205) rfl (by decide) rfl ?_
                refine wo_pure (m' := 134217727) 26 rfl (by kernel_rfl) rfl rfl (fun H => at_pick_f rfl rfl) ?_
                refine wo_take (m' := 268435455) 27 [] rfl (by kernel_rfl) rfl (by kernel_rfl) ?_
                refine wl_st (v := .bool false) h rfl so (fun q1 q2 => ef_store (sz := sz4) rfl rfl rfl q1 q2) ?_; intro w222 h so
                refine wl_nil ?_
                refine wk_tq trivial ?_
                refine wo_done (by kernel_rfl) ?_
                refine wk_prune [(2, .pointer (some (⟨b3, 0, none⟩ : Addr)))] ⟨rfl, trivial⟩ (fun f1 => ?_)
                refine wk_then ?_
                refine wc_ret ?_
                refine wk_tk h so ?_; intro w223 h so
                obtain ⟨x225, q224, h⟩ := h
                exact wk_retR1 (x := x225) rfl ⟨by decide, _, rfl, loadVar_one Try.underlying4 rfl q224⟩ rfl so h
          · refine rp_jump h so ?_; intro w226 h so; refine wc_ret ?_
            refine wk_blkR ?_
            refine wk_thenR ?_
            refine wk_tk h so ?_; intro w227 h so
            obtain ⟨x229, q228, h⟩ := h
            exact wk_retR1 (x := x229) rfl ⟨by decide, _, rfl, loadVar_one Try.underlying4 rfl q228⟩ rfl so h
  · intro J17 h hJ17
    refine wc_region ?_
    refine wl_val (at_move rfl) rfl ?_
    refine wl_val (at_loadA (cs := (c25 a0_0 a0_1)) Try.underlying25 rfl (by rw [len25]; exact sz25) rfl (ldA_full t_b1)) rfl ?_
    refine wl_callF (mosaiclaw04_twin.calls _ _ _ _ h) enter11 rfl trivial so ?_; intro x230 w231 h so
    obtain ⟨q232, h⟩ := h
    replace t_b1 := pv_bk q232 t_b1 (by simp)
    replace t_b3 := pv_bk q232 t_b3 (by simp)
    replace t_b14 := pv_bk q232 t_b14 (by simp)
    refine wl_callF (huff_Check.calls _ _ _ _ h) enter13 rfl trivial so ?_; intro x233 w234 h so
    obtain ⟨q235, h⟩ := h
    replace t_b1 := pv_bk q235 t_b1 (by simp)
    replace t_b3 := pv_bk q235 t_b3 (by simp)
    replace t_b14 := pv_bk q235 t_b14 (by simp)
    refine wl_val (at_neq rfl rfl) rfl ?_
    refine wl_val (at_move rfl) rfl ?_
    refine bif_ h (fun hb h => ?_) (fun hb h => ?_)
    · refine wl_set (t := 32) (v := .bool true) (congrArg Value.bool hb) ?_; clear hb
      refine wl_off (t := 32) rfl (by decide) rfl ?_
      refine wl_off (t := 32) rfl (by decide) rfl ?_
      refine wl_val (at_pick_t rfl rfl) rfl ?_
      refine wl_nil ?_
      exact wk_prune [(1, .pointer (some (⟨b1, 0, none⟩ : Addr))), (2, .pointer (some (⟨b3, 0, none⟩ : Addr))), (3, .bool x5), (4, .pointer (some (⟨b14, 0, none⟩ : Addr))), (5, .int .i64 x11.2), (35, .bool true)] ⟨rfl, rfl, rfl, rfl, rfl, rfl, trivial⟩ (fun f1 => hJ17 (true) _ f1 h ⟨t_b1, t_b3, t_b14, trivial⟩ so)
    · refine wl_set (t := 32) (v := .bool false) (congrArg Value.bool hb) ?_; clear hb
      refine wl_on (t := 32) rfl (by decide) rfl ?_
      refine wl_val (at_move rfl) rfl ?_
      refine wl_on (t := 32) rfl (by decide) rfl ?_
      refine wl_val (at_neq rfl rfl) rfl ?_
      refine wl_val (at_pick_f rfl rfl) rfl ?_
      refine wl_nil ?_
      exact wk_prune [(1, .pointer (some (⟨b1, 0, none⟩ : Addr))), (2, .pointer (some (⟨b3, 0, none⟩ : Addr))), (3, .bool x5), (4, .pointer (some (⟨b14, 0, none⟩ : Addr))), (5, .int .i64 x11.2), (35, .bool (x11.2 != 0))] ⟨rfl, rfl, rfl, rfl, rfl, rfl, trivial⟩ (fun f1 => hJ17 ((x11.2 != 0)) _ f1 h ⟨t_b1, t_b3, t_b14, trivial⟩ so)
end Go.Proofs.Ytbefacccdaafeaa.G
