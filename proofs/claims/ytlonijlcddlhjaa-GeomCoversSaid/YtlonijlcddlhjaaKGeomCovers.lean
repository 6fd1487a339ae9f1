import Derived.Test.YtlonijlcddlhjaaGF
import Derived.Test.YtlonijlcddlhjaaKgeom
import Derived.Test.YtlonijlcddlhjaaKmosaiclaw14
namespace Go.Proofs.Ytlonijlcddlhjaa.G
open Go.RowKit
set_option linter.unusedVariables false
set_option linter.unusedSimpArgs false
/-- mosaic/mosaiclaw14.GeomCovers -/
def mosaiclaw14_GeomCovers.enc : Bool → Value := fun r => .bool r
def mosaiclaw14_GeomCovers.s (a0_0 : Int) (a0_1 : Int) (a0_2 : Int) (a0_3 : Sl) (a1 : Sl) (H0 : Hp) (Q : Bool → Hp → Prop) : Prop :=
  Gn [] H0 (fun (b1 : Nat) (H2 : Hp) => Gn [] H2 (fun (b3 : Nat) (H4 : Hp) => Gn [] H4 (fun (b5 : Nat) (H6 : Hp) => mosaiclaw14_alive.s H6 (fun x7 H8 => Pv [b1, b3, b5] H6 H8 ∧ (Join (fun (s11 : Bool) (H12 : Hp) => if s11 = true then (Gr [b5] H12 (fun (H13 : Hp) => Q x7 H13)) else (geom_Units.s a0_0 a0_1 a0_2 a0_3 a1 H12 (fun x15 H16 => Pv [b1, b3, b5] H12 H16 ∧ (Gn [] H16 (fun (b18 : Nat) (H19 : Hp) => Gn [b18] H19 (fun (b20 : Nat) (H23 : Hp) => Gn [] H23 (fun (b24 : Nat) (H25 : Hp) => Bk H25 b24 55 [.slice none 0 0] → (∃ k26, Fix (fun (rec31 : (Int × Int) → Hp → Prop) (s28 : Int × Int) (H29 : Hp) => if decide (s28.2 < (a1.n : Int)) = true then (0 ≤ s28.2 ∧ s28.2 < (a1.n : Int) ∧ someA a1.a (fun p37 => ldI .i64 H29 ((p37.add (Int.toNat s28.2 * 3)).add 0) (fun x39 => 0 ≤ x39 ∧ x39 < (a0_3.n : Int) ∧ someA a0_3.a (fun p43 => ∃ x45 : Int, ∃ x46 : Int, ∃ x47 : Int, ∃ x48 : Int, ldA H29 (p43.add (Int.toNat x39 * 4)) (c23 x45 x46 x47 x48) ∧ (Gn [] H29 (fun (b50 : Nat) (H51 : Hp) => ldA H51 (p43.add (Int.toNat x39 * 4)) (c23 x45 x46 x47 x48) ∧ cellAt H51 ((p37.add (Int.toNat s28.2 * 3)).add 0) = some (.int .i64 x39) ∧ (Gr [b50] H51 (fun (H54 : Hp) => Lt ((IntKind.wrap .i64 (s28.1 + (IntKind.wrap .i64 ((IntKind.wrap .i64 x46) * (IntKind.wrap .i64 x47))))) : Int) (fun x55 => ldL H54 (⟨b24, 0, none⟩ : Addr) (fun x58 => 0 ≤ (IntKind.wrap .i64 ((IntKind.wrap .i64 ((16 : Int) * (IntKind.wrap .i64 (x15.1 + 1)))) * (IntKind.wrap .i64 (x15.2 + 1)))) ∧ (8 : Int) * (IntKind.wrap .i64 ((IntKind.wrap .i64 ((16 : Int) * (IntKind.wrap .i64 (x15.1 + 1)))) * (IntKind.wrap .i64 (x15.2 + 1)))) ≤ 281474976710656 ∧ (IntKind.wrap .i64 ((IntKind.wrap .i64 ((16 : Int) * (IntKind.wrap .i64 (x15.1 + 1)))) * (IntKind.wrap .i64 (x15.2 + 1)))) ≤ 9223372036854775807 ∧ nwA H54 3 (madeCells z3.cells (Int.toNat (IntKind.wrap .i64 ((IntKind.wrap .i64 ((16 : Int) * (IntKind.wrap .i64 (x15.1 + 1)))) * (IntKind.wrap .i64 (x15.2 + 1)))) * 1)) (fun p66 H67 => Pv [b1, b3, b5, b18, b20] H54 H67 ∧ (cellAt H67 (⟨b24, 0, none⟩ : Addr) = some (.slice x58.a x58.n x58.c) ∧ (nw H67 56 [.slice (some p66) (Int.toNat (IntKind.wrap .i64 ((IntKind.wrap .i64 ((16 : Int) * (IntKind.wrap .i64 (x15.1 + 1)))) * (IntKind.wrap .i64 (x15.2 + 1))))) (Int.toNat (IntKind.wrap .i64 ((IntKind.wrap .i64 ((16 : Int) * (IntKind.wrap .i64 (x15.1 + 1)))) * (IntKind.wrap .i64 (x15.2 + 1)))))] (fun p70 H71 => Pv [b1, b3, b5, b18, b20] H67 H71 ∧ (cellAt H71 (⟨b24, 0, none⟩ : Addr) = some (.slice x58.a x58.n x58.c) ∧ (apS H71 x58 56 1 24 z56.cells 1 [.slice (some p66) (Int.toNat (IntKind.wrap .i64 ((IntKind.wrap .i64 ((16 : Int) * (IntKind.wrap .i64 (x15.1 + 1)))) * (IntKind.wrap .i64 (x15.2 + 1))))) (Int.toNat (IntKind.wrap .i64 ((IntKind.wrap .i64 ((16 : Int) * (IntKind.wrap .i64 (x15.1 + 1)))) * (IntKind.wrap .i64 (x15.2 + 1)))))] (fun l77 H78 => Pv [b1, b3, b5, b18, b20] H71 H78 ∧ (st H78 (⟨b24, 0, none⟩ : Addr) (.slice l77.a l77.n l77.c) (fun H80 => Pv [b1, b3, b5, b18, b20] H78 H80 ∧ (rec31 (x55, (IntKind.wrap .i64 (s28.2 + 1))) H80)))))))))))))))))))) else (Join (fun (s83 : Int) (H84 : Hp) => Gn [] H84 (fun (b85 : Nat) (H87 : Hp) => geom_Walk.s a0_0 a0_1 a0_2 a0_3 a1 0 (IntKind.wrap .i64 (x15.1 * x15.2)) H87 (fun x88 H89 => Pv [b1, b3, b5, b18, b20, b85] H87 H89 ∧ (Bk H89 b1 26 (c26 a0_0 a0_1 a0_2 a0_3) → (Bk H89 b3 32 [.slice a1.a a1.n a1.c] → (Bk H89 b5 4 [.bool false] → (Bk H89 b18 3 [.int .i64 x15.1] → (Bk H89 b20 3 [.int .i64 x15.2] → (Bk H89 b85 3 [.int .i64 0] → (Rg H89 (fun r91 D99 H94 => geom_Walk_1.s (.func (.yield (D99 + 1)) #[] #[]) (fun (x95 : Int × Int × Int × Int × Bool) (H97 : Hp) (K96 : Bool → Hp → Prop) => Lp H97 (D99 + 1) r91 ∧ (Gn [] H97 (fun (b100 : Nat) (H102 : Hp) => Lp H102 (D99 + 1) r91 ∧ Up (putL H102 (D99 + 1) (bsy r91)) (fun H103 => Pv [b100] H102 H103 ∧ (Join (fun (s106 : Bool) (H107 : Hp) => if s106 = true then (st H107 (⟨b5, 0, none⟩ : Addr) (.bool false) (fun H108 => Lp H108 (D99 + 1) (bsy r91) ∧ K96 false (putL H108 (D99 + 1) (dn r91 .ret)))) else (∃ x109 : Int, ∃ x110 : Int, ∃ x111 : Int, ∃ x112 : Sl, ldA H107 (⟨b1, 0, none⟩ : Addr) (c26 x109 x110 x111 x112) ∧ (geom_Blocks.s x109 x110 x111 x112 x95.2.1 H107 (fun x114 H115 => Pv [b100] H107 H115 ∧ (ldI .i64 H115 (⟨b18, 0, none⟩ : Addr) (fun x117 => Lt ((IntKind.wrap .i64 ((IntKind.wrap .i64 ((IntKind.wrap .i64 (x95.2.2.2.1 * 4)) * (IntKind.wrap .i64 (x117 + 1)))) + x95.2.2.1)) : Int) (fun x119 => Join (fun (s122 : Bool) (H123 : Hp) => if s122 = true then (st H123 (⟨b5, 0, none⟩ : Addr) (.bool false) (fun H124 => Lp H124 (D99 + 1) (bsy r91) ∧ K96 false (putL H124 (D99 + 1) (dn r91 .ret)))) else (ldL H123 (⟨b24, 0, none⟩ : Addr) (fun x125 => 0 ≤ x95.1 ∧ x95.1 < (x125.n : Int) ∧ someA x125.a (fun p129 => ldL H123 (p129.add (Int.toNat x95.1 * 1)) (fun x131 => 0 ≤ x119 ∧ x119 < (x131.n : Int) ∧ someA x131.a (fun p135 => st H123 (p135.add (Int.toNat x119 * 1)) (.int .i64 1) (fun H137 => ldI .i64 H137 (⟨b85, 0, none⟩ : Addr) (fun x138 => st H137 (⟨b85, 0, none⟩ : Addr) (.int .i64 (IntKind.wrap .i64 (x138 + 1))) (fun H140 => Lp H140 (D99 + 1) (bsy r91) ∧ K96 true (putL H140 (D99 + 1) r91)))))))))) (fun (J121 : Bool → Hp → Prop) => if decide (x95.2.2.1 < x114.1) = true then (if (!(x95.2.2.2.2 == decide (x95.2.2.2.1 < x114.2))) = true then (J121 (true) H115) else (ldL H115 (⟨b24, 0, none⟩ : Addr) (fun x141 => 0 ≤ x95.1 ∧ x95.1 < (x141.n : Int) ∧ someA x141.a (fun p145 => ldL H115 (p145.add (Int.toNat x95.1 * 1)) (fun x147 => 0 ≤ x119 ∧ x119 < (x147.n : Int) ∧ someA x147.a (fun p151 => ldI .i64 H115 (p151.add (Int.toNat x119 * 1)) (fun x153 => J121 ((x153 != 0)) H115))))))) else (if (!(x95.2.2.2.2 == false)) = true then (J121 (true) H115) else (ldL H115 (⟨b24, 0, none⟩ : Addr) (fun x155 => 0 ≤ x95.1 ∧ x95.1 < (x155.n : Int) ∧ someA x155.a (fun p159 => ldL H115 (p159.add (Int.toNat x95.1 * 1)) (fun x161 => 0 ≤ x119 ∧ x119 < (x161.n : Int) ∧ someA x161.a (fun p165 => ldI .i64 H115 (p165.add (Int.toNat x119 * 1)) (fun x167 => J121 ((x167 != 0)) H115))))))))))))))) (fun (J105 : Bool → Hp → Prop) => if decide (x95.1 < 0) = true then (J105 (true) H103) else (ldL H103 (⟨b3, 0, none⟩ : Addr) (fun x172 => if decide ((x172.n : Int) ≤ x95.1) = true then (J105 (true) H103) else (ldL H103 (⟨b3, 0, none⟩ : Addr) (fun x175 => 0 ≤ x95.1 ∧ x95.1 < (x175.n : Int) ∧ someA x175.a (fun p180 => ldI .i64 H103 ((p180.add (Int.toNat x95.1 * 3)).add 0) (fun x182 => if (x95.2.1 != x182) = true then (J105 (true) H103) else (if decide (x95.2.2.1 < 0) = true then (J105 (true) H103) else (if decide (x95.2.2.2.1 < 0) = true then (J105 (true) H103) else (ldI .i64 H103 (⟨b18, 0, none⟩ : Addr) (fun x187 => if decide ((IntKind.wrap .i64 ((4 : Int) * (IntKind.wrap .i64 (x187 + 1)))) ≤ x95.2.2.1) = true then (J105 (true) H103) else (ldI .i64 H103 (⟨b20, 0, none⟩ : Addr) (fun x190 => J105 ((decide ((IntKind.wrap .i64 ((4 : Int) * (IntKind.wrap .i64 (x190 + 1)))) ≤ x95.2.2.2.1))) H103)))))))))))))))))) x88.1 x88.2.1 x88.2.2.1 x88.2.2.2.1 x88.2.2.2.2 H94 (fun _ H98 => (Lp H98 (D99 + 1) r91 ∧ Up (putL H98 (D99 + 1) (exh r91)) (fun H193 => Join (fun (s195 : Bool) (H196 : Hp) => if s195 = true then (st H196 (⟨b5, 0, none⟩ : Addr) (.bool false) (fun H197 => tkD (D99 :: []) H197 (fun H198 => ldB H198 (⟨b5, 0, none⟩ : Addr) (fun x200 => Q x200 H198)))) else (∃ k201, Fix (fun (rec206 : Int → Hp → Prop) (s203 : Int) (H204 : Hp) => ldL H204 (⟨b3, 0, none⟩ : Addr) (fun x207 => if decide (s203 < (x207.n : Int)) = true then (∃ x210 : Int, ∃ x211 : Int, ∃ x212 : Int, ∃ x213 : Sl, ldA H204 (⟨b1, 0, none⟩ : Addr) (c26 x210 x211 x212 x213) ∧ (ldL H204 (⟨b3, 0, none⟩ : Addr) (fun x215 => 0 ≤ s203 ∧ s203 < (x215.n : Int) ∧ someA x215.a (fun p219 => ldI .i64 H204 ((p219.add (Int.toNat s203 * 3)).add 0) (fun x221 => geom_Blocks.s x210 x211 x212 x213 x221 H204 (fun x223 H224 => ∃ k225, Fix (fun (rec230 : Int → Hp → Prop) (s227 : Int) (H228 : Hp) => if decide (s227 < (IntKind.wrap .i64 (x223.1 * x223.2))) = true then (Join (fun (s232 : Bool) (H233 : Hp) => if s232 = true then (st H233 (⟨b5, 0, none⟩ : Addr) (.bool false) (fun H234 => tkD (D99 :: []) H234 (fun H235 => ldB H235 (⟨b5, 0, none⟩ : Addr) (fun x237 => Q x237 H235)))) else (rec230 ((IntKind.wrap .i64 (s227 + 1))) H233)) (fun (J231 : Bool → Hp → Prop) => ldI .i64 H228 (⟨b18, 0, none⟩ : Addr) (fun x239 => if decide ((IntKind.wrap .i64 ((4 : Int) * (IntKind.wrap .i64 (x239 + 1)))) < x223.1) = true then (J231 (true) H228) else (ldI .i64 H228 (⟨b20, 0, none⟩ : Addr) (fun x241 => if decide ((IntKind.wrap .i64 ((4 : Int) * (IntKind.wrap .i64 (x241 + 1)))) < x223.2) = true then (J231 (true) H228) else (x223.1 ≠ 0 ∧ (x223.1 ≠ 0 ∧ (ldL H228 (⟨b24, 0, none⟩ : Addr) (fun x245 => 0 ≤ s203 ∧ s203 < (x245.n : Int) ∧ someA x245.a (fun p249 => ldL H228 (p249.add (Int.toNat s203 * 1)) (fun x251 => ldI .i64 H228 (⟨b18, 0, none⟩ : Addr) (fun x253 => 0 ≤ (IntKind.wrap .i64 ((IntKind.wrap .i64 ((IntKind.wrap .i64 ((IntKind.wrap .i64 (Int.tdiv s227 x223.1)) * 4)) * (IntKind.wrap .i64 (x253 + 1)))) + (Int.tmod s227 x223.1))) ∧ (IntKind.wrap .i64 ((IntKind.wrap .i64 ((IntKind.wrap .i64 ((IntKind.wrap .i64 (Int.tdiv s227 x223.1)) * 4)) * (IntKind.wrap .i64 (x253 + 1)))) + (Int.tmod s227 x223.1))) < (x251.n : Int) ∧ someA x251.a (fun p257 => ldI .i64 H228 (p257.add (Int.toNat (IntKind.wrap .i64 ((IntKind.wrap .i64 ((IntKind.wrap .i64 ((IntKind.wrap .i64 (Int.tdiv s227 x223.1)) * 4)) * (IntKind.wrap .i64 (x253 + 1)))) + (Int.tmod s227 x223.1))) * 1)) (fun x259 => J231 ((x259 == 0)) H228)))))))))))))) else (rec206 ((IntKind.wrap .i64 (s203 + 1))) H228)) k225 (0) H224)))))) else (st H204 (⟨b5, 0, none⟩ : Addr) (.bool true) (fun H261 => tkD (D99 :: []) H261 (fun H262 => ldB H262 (⟨b5, 0, none⟩ : Addr) (fun x264 => Q x264 H262)))))) k201 (0) H196)) (fun (J194 : Bool → Hp → Prop) => if (!x7) = true then (J194 (true) H193) else (ldI .i64 H193 (⟨b85, 0, none⟩ : Addr) (fun x265 => ldI .i64 H193 (⟨b18, 0, none⟩ : Addr) (fun x267 => ldI .i64 H193 (⟨b20, 0, none⟩ : Addr) (fun x269 => J194 ((x265 != (IntKind.wrap .i64 ((IntKind.wrap .i64 (s83 * x267)) * x269)))) H193))))))) ∨ (Lp H98 (D99 + 1) (dn r91 .ret) ∧ Up (putL H98 (D99 + 1) (exh (dn r91 .ret))) (fun H271 => tkD (D99 :: []) H271 (fun H272 => ldB H272 (⟨b5, 0, none⟩ : Addr) (fun x274 => Q x274 H272)))))))))))))))) (fun (J82 : Int → Hp → Prop) => if ((a1.n : Int) == 1) = true then (J82 (1) H29) else (J82 (s28.1) H29)))) k26 (0, 0) H25)))))))) (fun (J10 : Bool → Hp → Prop) => geom_Parts.s a0_0 a0_1 a0_2 a0_3 a1 H8 (fun x275 H276 => Pv [b1, b3, b5] H8 H276 ∧ (if (x275 != 0) = true then (J10 (true) H276) else (mosaiclaw14_many.s a0_0 a0_1 a0_2 a0_3 H276 (fun x278 H279 => Pv [b1, b3, b5] H276 H279 ∧ (J10 (x278) H279)))))))))))
set_option maxRecDepth 20000 in
set_option maxHeartbeats 4000000 in
theorem mosaiclaw14_GeomCovers.calls (a0_0 : Int) (a0_1 : Int) (a0_2 : Int) (a0_3 : Sl) (a1 : Sl) (w0 : World) (Q : Bool → Hp → Prop) (h : mosaiclaw14_GeomCovers.s a0_0 a0_1 a0_2 a0_3 a1 w0.heap Q) :
    Ca Try.prog 6 #[.agg (c26 a0_0 a0_1 a0_2 a0_3).toArray, .slice a1.a a1.n a1.c] w0 (Rt mosaiclaw14_GeomCovers.enc Q w0) := by
  refine ca_startM (c := _) Try.func6 rfl Try.ntmps6 rfl ?_
  have so : Sm w0 w0 := Sm.refl w0
  unfold mosaiclaw14_GeomCovers.s at h
  refine wc_prune [(0, .agg (c26 a0_0 a0_1 a0_2 a0_3).toArray), (1, .slice a1.a a1.n a1.c)] ⟨rfl, rfl, trivial⟩ (fun f1 => ?_)
  refine wc_seq ?_
  refine wc_region ?_
  refine wl_newT (T := 26) (cs := (c26 a0_0 a0_1 a0_2 a0_3)) (ef_box rfl rfl) rfl so ?_; intro b1 w2 hb_b1 t_b1 k_b1 so
  have g_b1 := Nat.le_of_eq hb_b1.symm
  have hc := k_b1.ch (F := [])
  replace h := h b1 _ hc g_b1 t_b1.lt; clear hc
  refine wl_newT (T := 32) (cs := [.slice a1.a a1.n a1.c]) (ef_box rfl rfl) rfl so ?_; intro b3 w4 hb_b3 t_b3 k_b3 so
  have g_b3 := Nat.le_of_eq hb_b3.symm
  have hc := k_b3.ch (F := [])
  have n_b1_b3 : b1 ≠ b3 := fun e => by have := t_b1.lt; omega
  replace t_b1 := t_b1.keep k_b3
  replace h := h b3 _ hc g_b3 t_b3.lt; clear hc
  refine wl_newT (T := 4) (cs := [.bool false]) (ef_alloc zero4 rfl) rfl so ?_; intro b5 w6 hb_b5 t_b5 k_b5 so
  have g_b5 := Nat.le_of_eq hb_b5.symm
  have hc := k_b5.ch (F := [])
  have n_b1_b5 : b1 ≠ b5 := fun e => by have := t_b1.lt; omega
  replace t_b1 := t_b1.keep k_b5
  have n_b3_b5 : b3 ≠ b5 := fun e => by have := t_b3.lt; omega
  replace t_b3 := t_b3.keep k_b5
  refine wl_nil ?_
  refine wk_prune [(2, .pointer (some (⟨b1, 0, none⟩ : Addr))), (3, .pointer (some (⟨b3, 0, none⟩ : Addr))), (4, .pointer (some (⟨b5, 0, none⟩ : Addr)))] ⟨rfl, rfl, rfl, trivial⟩ (fun f1 => ?_)
  refine wk_then ?_
  refine wc_seq ?_
  refine wc_region ?_
  replace h := h b5 _ hc g_b5 t_b5.lt; clear hc
  refine wl_callF (mosaiclaw14_alive.calls _ _ h) enter28 rfl trivial so ?_; intro x7 w8 h so
  obtain ⟨q9, h⟩ := h
  replace t_b1 := pv_bk q9 t_b1 (by simp)
  replace t_b3 := pv_bk q9 t_b3 (by simp)
  replace t_b5 := pv_bk q9 t_b5 (by simp)
  refine wl_val (at_assign rfl) rfl ?_
  refine wl_nil ?_
  refine wk_prune [(2, .pointer (some (⟨b1, 0, none⟩ : Addr))), (3, .pointer (some (⟨b3, 0, none⟩ : Addr))), (4, .pointer (some (⟨b5, 0, none⟩ : Addr))), (5, .bool x7)] ⟨rfl, rfl, rfl, rfl, trivial⟩ (fun f1 => ?_)
  refine wk_then ?_
  refine wc_seq ?_
  refine wc_seq ?_
  refine wc_joinG (w0 := w0) (fun (H : Hp) => Bk H b1 26 (c26 a0_0 a0_1 a0_2 a0_3) ∧ Bk H b3 32 [.slice a1.a a1.n a1.c] ∧ Bk H b5 4 [.bool false] ∧ True) (fun (s11 : Bool) => [(2, .pointer (some (⟨b1, 0, none⟩ : Addr))), (3, .pointer (some (⟨b3, 0, none⟩ : Addr))), (4, .pointer (some (⟨b5, 0, none⟩ : Addr))), (5, .bool x7), (30, .bool s11)]) (fun (s11 : Bool) => (mks [])) h ?_ ?_
  · rintro s11 w12 f1 h ⟨t_b1, t_b3, t_b5, _⟩ so; refine wk_then ?_
    refine wc_cond rfl h (fun h => ?_) (fun h => ?_)
    · refine wc_seq ?_
      refine wc_region ?_
      refine wl_val (at_move rfl) rfl ?_
      refine wl_stT (v := .bool x7) (cs' := [.bool x7]) t_b5 (by first | decide | simp [ints_len, bools_len]) (by first | rfl | simp [List.set_append, ints_len, bools_len]) rfl so (fun q1 q2 => ef_store (sz := sz4) rfl rfl rfl q1 q2) ?_; intro w13 t_b5 s_w13 so
      replace t_b1 := t_b1.same s_w13 (n_b1_b5)
      replace t_b3 := t_b3.same s_w13 (n_b3_b5)
      have hc := s_w13.ch
      refine wl_nil ?_
      refine wk_prune [(4, .pointer (some (⟨b5, 0, none⟩ : Addr)))] ⟨rfl, trivial⟩ (fun f1 => ?_)
      refine wk_then ?_
      refine wc_ret ?_
      refine wk_thenR ?_
      replace h := h _ hc; clear hc
      refine wk_tk (K := fun H => H = w13.heap) (Ds := []) rfl so ?_; intro w14 hw so; rw [← hw] at h t_b5; clear hw
      exact wk_retR1 (x := x7) rfl ⟨by decide, _, rfl, loadVar_one Try.underlying4 rfl ((t_b5.cell 0).trans (by first | rfl | simp [List.getElem?_append, ints_len, bools_len]))⟩ rfl so h
    · refine wc_skip ?_
      refine wk_prune [(2, .pointer (some (⟨b1, 0, none⟩ : Addr))), (3, .pointer (some (⟨b3, 0, none⟩ : Addr))), (4, .pointer (some (⟨b5, 0, none⟩ : Addr))), (5, .bool x7)] ⟨rfl, rfl, rfl, rfl, trivial⟩ (fun f1 => ?_)
      refine wk_then ?_
      refine wc_seq ?_
      refine wc_region ?_
      refine wl_val (at_loadA (cs := (c26 a0_0 a0_1 a0_2 a0_3)) Try.underlying26 rfl (by rw [len26]; exact sz26) rfl (ldA_full t_b1)) rfl ?_
      refine wl_val (at_load (v := .slice a1.a a1.n a1.c) Try.underlying32 rfl rfl ((t_b3.cell 0).trans (by first | rfl | simp [List.getElem?_append, ints_len, bools_len]))) rfl ?_
      refine wl_callF (geom_Units.calls _ _ _ _ _ _ _ h) enter20 rfl trivial so ?_; intro x15 w16 h so
      obtain ⟨q17, h⟩ := h
      replace t_b1 := pv_bk q17 t_b1 (by simp)
      replace t_b3 := pv_bk q17 t_b3 (by simp)
      replace t_b5 := pv_bk q17 t_b5 (by simp)
      refine wl_val (at_move rfl) rfl ?_
      refine wl_val (at_extract rfl rfl) rfl ?_
      refine wl_val (at_extract rfl rfl) rfl ?_
      refine wl_newT (T := 3) (cs := [.int .i64 0]) (ef_alloc zero3 rfl) rfl so ?_; intro b18 w19 hb_b18 t_b18 k_b18 so
      have g_b18 := Nat.le_of_eq hb_b18.symm
      have hc := k_b18.ch (F := [])
      have n_b1_b18 : b1 ≠ b18 := fun e => by have := t_b1.lt; omega
      replace t_b1 := t_b1.keep k_b18
      have n_b3_b18 : b3 ≠ b18 := fun e => by have := t_b3.lt; omega
      replace t_b3 := t_b3.keep k_b18
      have n_b5_b18 : b5 ≠ b18 := fun e => by have := t_b5.lt; omega
      replace t_b5 := t_b5.keep k_b18
      replace h := h b18 _ hc g_b18 t_b18.lt; clear hc
      refine wl_newT (T := 3) (cs := [.int .i64 0]) (ef_alloc zero3 rfl) rfl so ?_; intro b20 w21 hb_b20 t_b20 k_b20 so
      have g_b20 := Nat.le_of_eq hb_b20.symm
      have hc := k_b20.ch (F := [])
      have n_b1_b20 : b1 ≠ b20 := fun e => by have := t_b1.lt; omega
      replace t_b1 := t_b1.keep k_b20
      have n_b3_b20 : b3 ≠ b20 := fun e => by have := t_b3.lt; omega
      replace t_b3 := t_b3.keep k_b20
      have n_b5_b20 : b5 ≠ b20 := fun e => by have := t_b5.lt; omega
      replace t_b5 := t_b5.keep k_b20
      have n_b18_b20 : b18 ≠ b20 := fun e => by have := t_b18.lt; omega
      replace t_b18 := t_b18.keep k_b20
      refine wl_stT (v := .int .i64 x15.1) (cs' := [.int .i64 x15.1]) t_b18 (by first | decide | simp [ints_len, bools_len]) (by first | rfl | simp [List.set_append, ints_len, bools_len]) rfl so (fun q1 q2 => ef_store (sz := sz3) rfl rfl rfl q1 q2) ?_; intro w22 t_b18 s_w22 so
      replace t_b1 := t_b1.same s_w22 (n_b1_b18)
      replace t_b3 := t_b3.same s_w22 (n_b3_b18)
      replace t_b5 := t_b5.same s_w22 (n_b5_b18)
      replace t_b20 := t_b20.same s_w22 (Ne.symm n_b18_b20)
      replace hc := ch_more hc s_w22
      refine wl_stT (v := .int .i64 x15.2) (cs' := [.int .i64 x15.2]) t_b20 (by first | decide | simp [ints_len, bools_len]) (by first | rfl | simp [List.set_append, ints_len, bools_len]) rfl so (fun q1 q2 => ef_store (sz := sz3) rfl rfl rfl q1 q2) ?_; intro w23 t_b20 s_w23 so
      replace t_b1 := t_b1.same s_w23 (n_b1_b20)
      replace t_b3 := t_b3.same s_w23 (n_b3_b20)
      replace t_b5 := t_b5.same s_w23 (n_b5_b20)
      replace t_b18 := t_b18.same s_w23 (n_b18_b20)
      replace hc := ch_same hc s_w23 (.inr g_b20)
      refine wl_nil ?_
      refine wk_prune [(2, .pointer (some (⟨b1, 0, none⟩ : Addr))), (3, .pointer (some (⟨b3, 0, none⟩ : Addr))), (4, .pointer (some (⟨b5, 0, none⟩ : Addr))), (5, .bool x7), (6, .pointer (some (⟨b18, 0, none⟩ : Addr))), (7, .pointer (some (⟨b20, 0, none⟩ : Addr)))] ⟨rfl, rfl, rfl, rfl, rfl, rfl, trivial⟩ (fun f1 => ?_)
      refine wk_then ?_
      refine wc_seq ?_
      refine wc_region ?_
      refine wl_val (at_assign rfl) rfl ?_
      refine wl_nil ?_
      refine wk_prune [(2, .pointer (some (⟨b1, 0, none⟩ : Addr))), (3, .pointer (some (⟨b3, 0, none⟩ : Addr))), (4, .pointer (some (⟨b5, 0, none⟩ : Addr))), (5, .bool x7), (6, .pointer (some (⟨b18, 0, none⟩ : Addr))), (7, .pointer (some (⟨b20, 0, none⟩ : Addr))), (8, .int .i64 0)] ⟨rfl, rfl, rfl, rfl, rfl, rfl, rfl, trivial⟩ (fun f1 => ?_)
      refine wk_then ?_
      refine wc_seq ?_
      refine wc_region ?_
      replace h := h b20 _ hc g_b20 t_b20.lt; clear hc
      refine wl_newT (T := 55) (cs := [.slice none 0 0]) (ef_alloc zero55 rfl) rfl so ?_; intro b24 w25 hb_b24 t_b24 k_b24 so
      have g_b24 := Nat.le_of_eq hb_b24.symm
      have hc := k_b24.ch (F := [])
      have n_b1_b24 : b1 ≠ b24 := fun e => by have := t_b1.lt; omega
      replace t_b1 := t_b1.keep k_b24
      have n_b3_b24 : b3 ≠ b24 := fun e => by have := t_b3.lt; omega
      replace t_b3 := t_b3.keep k_b24
      have n_b5_b24 : b5 ≠ b24 := fun e => by have := t_b5.lt; omega
      replace t_b5 := t_b5.keep k_b24
      have n_b18_b24 : b18 ≠ b24 := fun e => by have := t_b18.lt; omega
      replace t_b18 := t_b18.keep k_b24
      have n_b20_b24 : b20 ≠ b24 := fun e => by have := t_b20.lt; omega
      replace t_b20 := t_b20.keep k_b24
      refine wl_nil ?_
      refine wk_prune [(2, .pointer (some (⟨b1, 0, none⟩ : Addr))), (3, .pointer (some (⟨b3, 0, none⟩ : Addr))), (4, .pointer (some (⟨b5, 0, none⟩ : Addr))), (5, .bool x7), (6, .pointer (some (⟨b18, 0, none⟩ : Addr))), (7, .pointer (some (⟨b20, 0, none⟩ : Addr))), (8, .int .i64 0), (9, .pointer (some (⟨b24, 0, none⟩ : Addr)))] ⟨rfl, rfl, rfl, rfl, rfl, rfl, rfl, rfl, trivial⟩ (fun f1 => ?_)
      refine wk_then ?_
      refine wc_seq ?_
      refine wc_seq ?_
      refine wc_region ?_
      refine wl_val (at_assign rfl) rfl ?_
      refine wl_nil ?_
      refine wk_prune [(2, .pointer (some (⟨b1, 0, none⟩ : Addr))), (3, .pointer (some (⟨b3, 0, none⟩ : Addr))), (4, .pointer (some (⟨b5, 0, none⟩ : Addr))), (5, .bool x7), (6, .pointer (some (⟨b18, 0, none⟩ : Addr))), (7, .pointer (some (⟨b20, 0, none⟩ : Addr))), (8, .int .i64 0), (9, .pointer (some (⟨b24, 0, none⟩ : Addr))), (10, .int .i64 0)] ⟨rfl, rfl, rfl, rfl, rfl, rfl, rfl, rfl, rfl, trivial⟩ (fun f1 => ?_)
      refine wk_then ?_
      refine wc_block ?_
      replace h := h b24 _ hc g_b24 t_b24.lt; clear hc
      replace h := h t_b24
      obtain ⟨k26, h⟩ := h
      refine wc_loop (fun k a w => ∃ (s28 : Int × Int) (f1 : Nat → Value), a = ac 247 (en f1 [(2, .pointer (some (⟨b1, 0, none⟩ : Addr))), (3, .pointer (some (⟨b3, 0, none⟩ : Addr))), (4, .pointer (some (⟨b5, 0, none⟩ : Addr))), (5, .bool x7), (6, .pointer (some (⟨b18, 0, none⟩ : Addr))), (7, .pointer (some (⟨b20, 0, none⟩ : Addr))), (8, .int .i64 s28.1), (9, .pointer (some (⟨b24, 0, none⟩ : Addr))), (10, .int .i64 s28.2)]) (mks []) ∧ Sm w0 w ∧ (Bk w.heap b1 26 (c26 a0_0 a0_1 a0_2 a0_3) ∧ Bk w.heap b3 32 [.slice a1.a a1.n a1.c] ∧ Bk w.heap b5 4 [.bool false] ∧ Bk w.heap b18 3 [.int .i64 x15.1] ∧ Bk w.heap b20 3 [.int .i64 x15.2] ∧ True) ∧ Fix _ k s28 w.heap) k26 ⟨(0, 0), _, ac_again ⟨rfl, rfl, rfl, rfl, rfl, rfl, rfl, rfl, rfl, trivial⟩, so, ⟨t_b1, t_b3, t_b5, t_b18, t_b20, trivial⟩, h⟩ ?_
      rintro k27 a30 w29 ⟨s28, f1, rfl, so, ⟨t_b1, t_b3, t_b5, t_b18, t_b20, _⟩, h⟩
      rcases k27 with _ | k27
      · exact h.elim
      replace h := Fix.un h; refine wc_in ?_
      refine wc_seq ?_
      refine wc_seq ?_
      refine wc_region ?_
      refine wl_val (at_move rfl) rfl ?_
      refine wl_val (at_load (v := .slice a1.a a1.n a1.c) Try.underlying32 rfl rfl ((t_b3.cell 0).trans (by first | rfl | simp [List.getElem?_append, ints_len, bools_len]))) rfl ?_
      refine wl_val (at_lenL Try.underlying32 rfl) rfl ?_
      refine wl_val (at_lss rfl rfl) rfl ?_
      refine wl_nil ?_
      refine wk_prune [(2, .pointer (some (⟨b1, 0, none⟩ : Addr))), (3, .pointer (some (⟨b3, 0, none⟩ : Addr))), (4, .pointer (some (⟨b5, 0, none⟩ : Addr))), (5, .bool x7), (6, .pointer (some (⟨b18, 0, none⟩ : Addr))), (7, .pointer (some (⟨b20, 0, none⟩ : Addr))), (8, .int .i64 s28.1), (9, .pointer (some (⟨b24, 0, none⟩ : Addr))), (10, .int .i64 s28.2), (41, .bool (decide (s28.2 < (a1.n : Int))))] ⟨rfl, rfl, rfl, rfl, rfl, rfl, rfl, rfl, rfl, rfl, trivial⟩ (fun f1 => ?_)
      refine wk_then ?_
      refine wc_cond rfl h (fun h => ?_) (fun h => ?_)
      · refine wc_skip ?_
        refine wk_prune [(2, .pointer (some (⟨b1, 0, none⟩ : Addr))), (3, .pointer (some (⟨b3, 0, none⟩ : Addr))), (4, .pointer (some (⟨b5, 0, none⟩ : Addr))), (5, .bool x7), (6, .pointer (some (⟨b18, 0, none⟩ : Addr))), (7, .pointer (some (⟨b20, 0, none⟩ : Addr))), (8, .int .i64 s28.1), (9, .pointer (some (⟨b24, 0, none⟩ : Addr))), (10, .int .i64 s28.2)] ⟨rfl, rfl, rfl, rfl, rfl, rfl, rfl, rfl, rfl, trivial⟩ (fun f1 => ?_)
        refine wk_then ?_
        refine wc_seq ?_
        refine wc_block ?_
        refine wc_seq ?_
        refine wc_wo [0, 1, 0, 0, 12, 28, 60, 127, 255, 0, 1023] mixed (by kernel_rfl) so ?_; intro w32 hw so; rw [← hw] at h t_b1 t_b3 t_b5 t_b18 t_b20; clear hw
        refine wo_pure (m' := 1) 0 rfl (by kernel_rfl) rfl rfl (fun H => at_fieldAddr Try.underlying26 rfl rfl sz24 (by decide) rfl) ?_
        refine wo_pure (m' := 9) 3 rfl (by kernel_rfl) rfl rfl (fun H => at_move rfl) ?_
        have q33 : cellAt w32.heap (⟨b1, 3, none⟩ : Addr) = some (.slice a0_3.a a0_3.n a0_3.c) := (t_b1.cell 3).trans (by first | rfl | simp [List.getElem?_append, ints_len, bools_len])
        refine wo_load (m' := 11) 1 (fun H => cellAt H (⟨b1, 3, none⟩ : Addr) = some (.slice a0_3.a a0_3.n a0_3.c)) rfl (by kernel_rfl) rfl rfl (fun H q33 => at_load (v := .slice a0_3.a a0_3.n a0_3.c) Try.underlying24 rfl rfl (q33)) q33 ?_
        have q34 : cellAt w32.heap (⟨b3, 0, none⟩ : Addr) = some (.slice a1.a a1.n a1.c) := (t_b3.cell 0).trans (by first | rfl | simp [List.getElem?_append, ints_len, bools_len])
        refine wo_load (m' := 15) 2 (fun H => cellAt H (⟨b3, 0, none⟩ : Addr) = some (.slice a1.a a1.n a1.c)) rfl (by kernel_rfl) rfl rfl (fun H q34 => at_load (v := .slice a1.a a1.n a1.c) Try.underlying32 rfl rfl (q34)) q34 ?_
        obtain ⟨q35, q36, p37, q38, h⟩ := h
        refine wo_pure (m' := 31) 4 rfl (by kernel_rfl) rfl rfl (fun H => at_ixAddrL Try.underlying32 sz52 (sl_some q38) rfl q35 q36) ?_
        refine wo_pure (m' := 63) 5 rfl (by kernel_rfl) rfl rfl (fun H => at_fieldAddr Try.underlying52 rfl rfl sz3 (by decide) rfl) ?_
        obtain ⟨x39, q40, h⟩ := h
        refine wo_load (m' := 127) 6 (fun H => cellAt H ((p37.add (Int.toNat s28.2 * 3)).add 0) = some (.int .i64 x39)) rfl (by kernel_rfl) rfl rfl (fun H q40 => at_load Try.underlying3 rfl rfl q40) q40 ?_
        obtain ⟨q41, q42, p43, q44, h⟩ := h
        refine wo_pure (m' := 255) 7 rfl (by kernel_rfl) rfl rfl (fun H => at_ixAddrL Try.underlying24 sz23 (sl_some q44) rfl q41 q42) ?_
        obtain ⟨x45, x46, x47, x48, q49, h⟩ := h
        refine wo_load (m' := 511) 8 (fun H => ldA H (p43.add (Int.toNat x39 * 4)) (c23 x45 x46 x47 x48)) rfl (by kernel_rfl) rfl rfl (fun H q49 => at_loadA (cs := (c23 x45 x46 x47 x48)) Try.underlying23 rfl (by rw [len23]; exact sz23) rfl q49) q49 ?_
        refine wo_take (m' := 1023) 9 [false, false, false, false] rfl (by kernel_rfl) rfl (by kernel_rfl) ?_
        refine wl_newT (T := 23) (cs := (c23 0 0 0 0)) (ef_alloc zero23 rfl) rfl so ?_; intro b50 w51 hb_b50 t_b50 k_b50 so
        have g_b50 := Nat.le_of_eq hb_b50.symm
        have hc := k_b50.ch (F := [])
        have n_b1_b50 : b1 ≠ b50 := fun e => by have := t_b1.lt; omega
        replace t_b1 := t_b1.keep k_b50
        have n_b3_b50 : b3 ≠ b50 := fun e => by have := t_b3.lt; omega
        replace t_b3 := t_b3.keep k_b50
        have n_b5_b50 : b5 ≠ b50 := fun e => by have := t_b5.lt; omega
        replace t_b5 := t_b5.keep k_b50
        have n_b18_b50 : b18 ≠ b50 := fun e => by have := t_b18.lt; omega
        replace t_b18 := t_b18.keep k_b50
        have n_b20_b50 : b20 ≠ b50 := fun e => by have := t_b20.lt; omega
        replace t_b20 := t_b20.keep k_b50
        refine wl_nil ?_
        replace h := h b50 _ hc g_b50 t_b50.lt; clear hc
        obtain ⟨q52, q53, h⟩ := h
        refine wk_tq ⟨q52, q53, ((t_b3.cell 0).trans (by first | rfl | simp [List.getElem?_append, ints_len, bools_len])), ((t_b1.cell 3).trans (by first | rfl | simp [List.getElem?_append, ints_len, bools_len])), trivial⟩ ?_
        refine wo_take (m' := 2047) 10 [true, true, true, true] rfl (by kernel_rfl) rfl (by kernel_rfl) ?_
        refine wl_stWT (vs := (c23 x45 x46 x47 x48)) t_b50 (by first | (rw [len23, len23]) | (rw [len23]) | rfl) rfl so (fun q => ef_storeA (p := (⟨b50, 0, none⟩ : Addr)) (cs := (c23 x45 x46 x47 x48)) (by rw [len23]; exact sz23) rfl rfl (one23 _ _ _ _) q) ?_; intro w54 t_b50 s_w54 so
        replace t_b1 := t_b1.same s_w54 (n_b1_b50)
        replace t_b3 := t_b3.same s_w54 (n_b3_b50)
        replace t_b5 := t_b5.same s_w54 (n_b5_b50)
        replace t_b18 := t_b18.same s_w54 (n_b18_b50)
        replace t_b20 := t_b20.same s_w54 (n_b20_b50)
        have hc := s_w54.ch
        refine wl_nil ?_
        refine wk_tq trivial ?_
        refine wo_done (by kernel_rfl) ?_
        refine wk_prune [(2, .pointer (some (⟨b1, 0, none⟩ : Addr))), (3, .pointer (some (⟨b3, 0, none⟩ : Addr))), (4, .pointer (some (⟨b5, 0, none⟩ : Addr))), (5, .bool x7), (6, .pointer (some (⟨b18, 0, none⟩ : Addr))), (7, .pointer (some (⟨b20, 0, none⟩ : Addr))), (8, .int .i64 s28.1), (9, .pointer (some (⟨b24, 0, none⟩ : Addr))), (10, .int .i64 s28.2), (11, .pointer (some (⟨b50, 0, none⟩ : Addr)))] ⟨rfl, rfl, rfl, rfl, rfl, rfl, rfl, rfl, rfl, rfl, trivial⟩ (fun f1 => ?_)
        refine wk_then ?_
        refine wc_seq ?_
        refine wc_region ?_
        refine wl_val (at_move rfl) rfl ?_
        refine wl_val (at_fieldAddr Try.underlying23 rfl rfl sz5 (by decide) rfl) rfl ?_
        refine wl_val (at_load (v := .int .u8 x46) Try.underlying5 rfl rfl ((t_b50.cell 1).trans (by first | rfl | simp [List.getElem?_append, ints_len, bools_len]))) rfl ?_
        refine wl_val (at_conv Try.underlying5 Try.underlying3 rfl) rfl ?_
        refine wl_val (at_fieldAddr Try.underlying23 rfl rfl sz5 (by decide) rfl) rfl ?_
        refine wl_val (at_load (v := .int .u8 x47) Try.underlying5 rfl rfl ((t_b50.cell 2).trans (by first | rfl | simp [List.getElem?_append, ints_len, bools_len]))) rfl ?_
        refine wl_val (at_conv Try.underlying5 Try.underlying3 rfl) rfl ?_
        refine wl_val (at_mul rfl rfl) rfl ?_
        refine wl_val (at_add rfl rfl) rfl ?_
        refine wl_val (at_assign rfl) rfl ?_
        replace h := h _ hc; clear hc
        obtain ⟨x55, e56⟩ : ∃ x : Int, x = (IntKind.wrap .i64 (s28.1 + (IntKind.wrap .i64 ((IntKind.wrap .i64 x46) * (IntKind.wrap .i64 x47))))) := ⟨_, rfl⟩; replace h := h x55 e56
        refine wl_set (t := 8) (v := .int .i64 x55) (congrArg (Value.int .i64) e56.symm) ?_
        refine wl_nil ?_
        refine wk_prune [(2, .pointer (some (⟨b1, 0, none⟩ : Addr))), (3, .pointer (some (⟨b3, 0, none⟩ : Addr))), (4, .pointer (some (⟨b5, 0, none⟩ : Addr))), (5, .bool x7), (6, .pointer (some (⟨b18, 0, none⟩ : Addr))), (7, .pointer (some (⟨b20, 0, none⟩ : Addr))), (8, .int .i64 x55), (9, .pointer (some (⟨b24, 0, none⟩ : Addr))), (10, .int .i64 s28.2)] ⟨rfl, rfl, rfl, rfl, rfl, rfl, rfl, rfl, rfl, trivial⟩ (fun f1 => ?_)
        refine wk_then ?_
        refine wc_wo [0, 0, 2, 6, 0, 16, 62, 126, 254, 511, 1023] mixed (by kernel_rfl) so ?_; intro w57 hw so; rw [← hw] at h t_b1 t_b3 t_b5 t_b18 t_b20; clear hw
        obtain ⟨x58, q59, h⟩ := h
        refine wo_load (m' := 1) 0 (fun H => cellAt H (⟨b24, 0, none⟩ : Addr) = some (.slice x58.a x58.n x58.c)) rfl (by kernel_rfl) rfl rfl (fun H q59 => at_load Try.underlying55 rfl rfl q59) q59 ?_
        have q60 : cellAt w57.heap (⟨b18, 0, none⟩ : Addr) = some (.int .i64 x15.1) := (t_b18.cell 0).trans (by first | rfl | simp [List.getElem?_append, ints_len, bools_len])
        refine wo_load (m' := 3) 1 (fun H => cellAt H (⟨b18, 0, none⟩ : Addr) = some (.int .i64 x15.1)) rfl (by kernel_rfl) rfl rfl (fun H q60 => at_load (v := .int .i64 x15.1) Try.underlying3 rfl rfl (q60)) q60 ?_
        refine wo_pure (m' := 7) 2 rfl (by kernel_rfl) rfl rfl (fun H => at_add rfl rfl) ?_
        refine wo_pure (m' := 15) 3 rfl (by kernel_rfl) rfl rfl (fun H => at_mul rfl rfl) ?_
        have q61 : cellAt w57.heap (⟨b20, 0, none⟩ : Addr) = some (.int .i64 x15.2) := (t_b20.cell 0).trans (by first | rfl | simp [List.getElem?_append, ints_len, bools_len])
        refine wo_load (m' := 31) 4 (fun H => cellAt H (⟨b20, 0, none⟩ : Addr) = some (.int .i64 x15.2)) rfl (by kernel_rfl) rfl rfl (fun H q61 => at_load (v := .int .i64 x15.2) Try.underlying3 rfl rfl (q61)) q61 ?_
        refine wo_pure (m' := 63) 5 rfl (by kernel_rfl) rfl rfl (fun H => at_add rfl rfl) ?_
        refine wo_pure (m' := 127) 6 rfl (by kernel_rfl) rfl rfl (fun H => at_mul rfl rfl) ?_
        refine wo_take (m' := 255) 7 [true, true, false] rfl (by kernel_rfl) rfl (by kernel_rfl) ?_
        obtain ⟨i62, i62a, i62b, i62c, i62d⟩ := info3; obtain ⟨q63, q64, q65, h⟩ := h
        refine wl_mk (ef_makeSlice Try.underlying56 i62a i62b i62c rfl rfl q63 (by rw [i62d]; exact q64) q65) rfl so h ?_; intro p66 w67 h so
        obtain ⟨q68, h⟩ := h
        replace t_b1 := pv_bk q68 t_b1 (by simp)
        replace t_b3 := pv_bk q68 t_b3 (by simp)
        replace t_b5 := pv_bk q68 t_b5 (by simp)
        replace t_b18 := pv_bk q68 t_b18 (by simp)
        replace t_b20 := pv_bk q68 t_b20 (by simp)
        refine wl_nil ?_
        obtain ⟨q69, h⟩ := h
        refine wk_tq ⟨q69, trivial⟩ ?_
        refine wo_take (m' := 511) 8 [false] rfl (by kernel_rfl) rfl (by kernel_rfl) ?_
        obtain ⟨i73, i73a, i73b, i73c, i73d⟩ := info56
        refine wl_newS (ef_buildSlice (cs := [.slice (some p66) (Int.toNat (IntKind.wrap .i64 ((IntKind.wrap .i64 ((16 : Int) * (IntKind.wrap .i64 (x15.1 + 1)))) * (IntKind.wrap .i64 (x15.2 + 1))))) (Int.toNat (IntKind.wrap .i64 ((IntKind.wrap .i64 ((16 : Int) * (IntKind.wrap .i64 (x15.1 + 1)))) * (IntKind.wrap .i64 (x15.2 + 1)))))]) (ps := [(0, .slice (some p66) (Int.toNat (IntKind.wrap .i64 ((IntKind.wrap .i64 ((16 : Int) * (IntKind.wrap .i64 (x15.1 + 1)))) * (IntKind.wrap .i64 (x15.2 + 1))))) (Int.toNat (IntKind.wrap .i64 ((IntKind.wrap .i64 ((16 : Int) * (IntKind.wrap .i64 (x15.1 + 1)))) * (IntKind.wrap .i64 (x15.2 + 1))))))]) Try.underlying55 i73a i73b rfl (by rw [i73c]; decide) (by rw [i73c]; exact fill_full (vs := [.slice (some p66) (Int.toNat (IntKind.wrap .i64 ((IntKind.wrap .i64 ((16 : Int) * (IntKind.wrap .i64 (x15.1 + 1)))) * (IntKind.wrap .i64 (x15.2 + 1))))) (Int.toNat (IntKind.wrap .i64 ((IntKind.wrap .i64 ((16 : Int) * (IntKind.wrap .i64 (x15.1 + 1)))) * (IntKind.wrap .i64 (x15.2 + 1)))))]) rfl (by simp [Value.cells]) (by simp [Value.cells]) rfl (by simp))) rfl so (ones_cons rfl ones_nil) h ?_; intro p70 w71 h r72 so
        obtain ⟨q74, h⟩ := h
        replace t_b1 := pv_bk q74 t_b1 (by simp)
        replace t_b3 := pv_bk q74 t_b3 (by simp)
        replace t_b5 := pv_bk q74 t_b5 (by simp)
        replace t_b18 := pv_bk q74 t_b18 (by simp)
        replace t_b20 := pv_bk q74 t_b20 (by simp)
        refine wl_nil ?_
        obtain ⟨q75, h⟩ := h
        refine wk_tq ⟨q75, trivial⟩ ?_
        refine wo_take (m' := 1023) 9 [true] rfl (by kernel_rfl) rfl (by kernel_rfl) ?_
        obtain ⟨i76, i76a, i76b, i76c, i76d⟩ := info56
        refine wl_ap (fx_append (s := x58) (t := ⟨(some p70), 1, 1⟩) (m := 1) (xs := [.slice (some p66) (Int.toNat (IntKind.wrap .i64 ((IntKind.wrap .i64 ((16 : Int) * (IntKind.wrap .i64 (x15.1 + 1)))) * (IntKind.wrap .i64 (x15.2 + 1))))) (Int.toNat (IntKind.wrap .i64 ((IntKind.wrap .i64 ((16 : Int) * (IntKind.wrap .i64 (x15.1 + 1)))) * (IntKind.wrap .i64 (x15.2 + 1)))))]) Try.underlying55 Try.underlying55 i76a i76b i76c i76d rfl rfl rfl (by first | rfl | simp) r72 h) rfl so ?_; intro l77 w78 h so
        obtain ⟨q79, h⟩ := h
        replace t_b1 := pv_bk q79 t_b1 (by simp)
        replace t_b3 := pv_bk q79 t_b3 (by simp)
        replace t_b5 := pv_bk q79 t_b5 (by simp)
        replace t_b18 := pv_bk q79 t_b18 (by simp)
        replace t_b20 := pv_bk q79 t_b20 (by simp)
        refine wl_nil ?_
        refine wk_tq trivial ?_
        refine wo_take (m' := 2047) 10 [] rfl (by kernel_rfl) rfl (by kernel_rfl) ?_
        refine wl_st (v := .slice l77.a l77.n l77.c) h rfl so (fun q1 q2 => ef_store (sz := sz55) rfl rfl rfl q1 q2) ?_; intro w80 h so
        obtain ⟨q81, h⟩ := h
        replace t_b1 := pv_bk q81 t_b1 (by simp)
        replace t_b3 := pv_bk q81 t_b3 (by simp)
        replace t_b5 := pv_bk q81 t_b5 (by simp)
        replace t_b18 := pv_bk q81 t_b18 (by simp)
        replace t_b20 := pv_bk q81 t_b20 (by simp)
        refine wl_nil ?_
        refine wk_tq trivial ?_
        refine wo_done (by kernel_rfl) ?_
        refine wk_blkN ?_
        refine wk_prune [(2, .pointer (some (⟨b1, 0, none⟩ : Addr))), (3, .pointer (some (⟨b3, 0, none⟩ : Addr))), (4, .pointer (some (⟨b5, 0, none⟩ : Addr))), (5, .bool x7), (6, .pointer (some (⟨b18, 0, none⟩ : Addr))), (7, .pointer (some (⟨b20, 0, none⟩ : Addr))), (8, .int .i64 x55), (9, .pointer (some (⟨b24, 0, none⟩ : Addr))), (10, .int .i64 s28.2)] ⟨rfl, rfl, rfl, rfl, rfl, rfl, rfl, rfl, rfl, trivial⟩ (fun f1 => ?_)
        refine wk_then ?_
        refine wc_region ?_
        refine wl_val (at_move rfl) rfl ?_
        refine wl_val (at_add rfl rfl) rfl ?_
        refine wl_val (at_assign rfl) rfl ?_
        refine wl_nil ?_
        exact wk_again ⟨(x55, (IntKind.wrap .i64 (s28.2 + 1))), _, ac_again ⟨rfl, rfl, rfl, rfl, rfl, rfl, rfl, rfl, rfl, trivial⟩, so, ⟨t_b1, t_b3, t_b5, t_b18, t_b20, trivial⟩, h⟩
      · refine wc_exit ?_
        refine wk_thenE ?_
        refine wk_thenE ?_
        refine wk_blkE ?_
        refine wk_prune [(2, .pointer (some (⟨b1, 0, none⟩ : Addr))), (3, .pointer (some (⟨b3, 0, none⟩ : Addr))), (4, .pointer (some (⟨b5, 0, none⟩ : Addr))), (5, .bool x7), (6, .pointer (some (⟨b18, 0, none⟩ : Addr))), (7, .pointer (some (⟨b20, 0, none⟩ : Addr))), (8, .int .i64 s28.1), (9, .pointer (some (⟨b24, 0, none⟩ : Addr)))] ⟨rfl, rfl, rfl, rfl, rfl, rfl, rfl, rfl, trivial⟩ (fun f1 => ?_)
        refine wk_then ?_
        refine wc_seq ?_
        refine wc_joinG (w0 := w0) (fun (H : Hp) => Bk H b1 26 (c26 a0_0 a0_1 a0_2 a0_3) ∧ Bk H b3 32 [.slice a1.a a1.n a1.c] ∧ Bk H b5 4 [.bool false] ∧ Bk H b18 3 [.int .i64 x15.1] ∧ Bk H b20 3 [.int .i64 x15.2] ∧ True) (fun (s83 : Int) => [(2, .pointer (some (⟨b1, 0, none⟩ : Addr))), (3, .pointer (some (⟨b3, 0, none⟩ : Addr))), (4, .pointer (some (⟨b5, 0, none⟩ : Addr))), (5, .bool x7), (6, .pointer (some (⟨b18, 0, none⟩ : Addr))), (7, .pointer (some (⟨b20, 0, none⟩ : Addr))), (8, .int .i64 s83), (9, .pointer (some (⟨b24, 0, none⟩ : Addr)))]) (fun (s83 : Int) => (mks [])) h ?_ ?_
        · rintro s83 w84 f1 h ⟨t_b1, t_b3, t_b5, t_b18, t_b20, _⟩ so; refine wk_then ?_
          refine wc_seq ?_
          refine wc_region ?_
          refine wl_newT (T := 3) (cs := [.int .i64 0]) (ef_alloc zero3 rfl) rfl so ?_; intro b85 w86 hb_b85 t_b85 k_b85 so
          have g_b85 := Nat.le_of_eq hb_b85.symm
          have hc := k_b85.ch (F := [])
          have n_b1_b85 : b1 ≠ b85 := fun e => by have := t_b1.lt; omega
          replace t_b1 := t_b1.keep k_b85
          have n_b3_b85 : b3 ≠ b85 := fun e => by have := t_b3.lt; omega
          replace t_b3 := t_b3.keep k_b85
          have n_b5_b85 : b5 ≠ b85 := fun e => by have := t_b5.lt; omega
          replace t_b5 := t_b5.keep k_b85
          have n_b18_b85 : b18 ≠ b85 := fun e => by have := t_b18.lt; omega
          replace t_b18 := t_b18.keep k_b85
          have n_b20_b85 : b20 ≠ b85 := fun e => by have := t_b20.lt; omega
          replace t_b20 := t_b20.keep k_b85
          refine wl_stT (v := .int .i64 0) (cs' := [.int .i64 0]) t_b85 (by first | decide | simp [ints_len, bools_len]) (by first | rfl | simp [List.set_append, ints_len, bools_len]) rfl so (fun q1 q2 => ef_store (sz := sz3) rfl rfl rfl q1 q2) ?_; intro w87 t_b85 s_w87 so
          replace t_b1 := t_b1.same s_w87 (n_b1_b85)
          replace t_b3 := t_b3.same s_w87 (n_b3_b85)
          replace t_b5 := t_b5.same s_w87 (n_b5_b85)
          replace t_b18 := t_b18.same s_w87 (n_b18_b85)
          replace t_b20 := t_b20.same s_w87 (n_b20_b85)
          replace hc := ch_same hc s_w87 (.inr g_b85)
          refine wl_nil ?_
          refine wk_prune [(2, .pointer (some (⟨b1, 0, none⟩ : Addr))), (3, .pointer (some (⟨b3, 0, none⟩ : Addr))), (4, .pointer (some (⟨b5, 0, none⟩ : Addr))), (5, .bool x7), (6, .pointer (some (⟨b18, 0, none⟩ : Addr))), (7, .pointer (some (⟨b20, 0, none⟩ : Addr))), (8, .int .i64 s83), (9, .pointer (some (⟨b24, 0, none⟩ : Addr))), (12, .pointer (some (⟨b85, 0, none⟩ : Addr)))] ⟨rfl, rfl, rfl, rfl, rfl, rfl, rfl, rfl, rfl, trivial⟩ (fun f1 => ?_)
          refine wk_then ?_
          refine wc_seq ?_
          refine wc_region ?_
          refine wl_val (at_loadA (cs := (c26 a0_0 a0_1 a0_2 a0_3)) Try.underlying26 rfl (by rw [len26]; exact sz26) rfl (ldA_full t_b1)) rfl ?_
          refine wl_val (at_load (v := .slice a1.a a1.n a1.c) Try.underlying32 rfl rfl ((t_b3.cell 0).trans (by first | rfl | simp [List.getElem?_append, ints_len, bools_len]))) rfl ?_
          refine wl_val (at_load (v := .int .i64 x15.1) Try.underlying3 rfl rfl ((t_b18.cell 0).trans (by first | rfl | simp [List.getElem?_append, ints_len, bools_len]))) rfl ?_
          refine wl_val (at_load (v := .int .i64 x15.2) Try.underlying3 rfl rfl ((t_b20.cell 0).trans (by first | rfl | simp [List.getElem?_append, ints_len, bools_len]))) rfl ?_
          refine wl_val (at_mul rfl rfl) rfl ?_
          replace h := h b85 _ hc g_b85 t_b85.lt; clear hc
          refine wl_callF (geom_Walk.calls _ _ _ _ _ _ _ _ _ h) enter27 rfl trivial so ?_; intro x88 w89 h so
          obtain ⟨q90, h⟩ := h
          replace t_b1 := pv_bk q90 t_b1 (by simp)
          replace t_b3 := pv_bk q90 t_b3 (by simp)
          replace t_b5 := pv_bk q90 t_b5 (by simp)
          replace t_b18 := pv_bk q90 t_b18 (by simp)
          replace t_b20 := pv_bk q90 t_b20 (by simp)
          replace t_b85 := pv_bk q90 t_b85 (by simp)
          refine wl_val (at_assign rfl) rfl ?_
          refine wl_nil ?_
          refine wk_prune [(2, .pointer (some (⟨b1, 0, none⟩ : Addr))), (3, .pointer (some (⟨b3, 0, none⟩ : Addr))), (4, .pointer (some (⟨b5, 0, none⟩ : Addr))), (5, .bool x7), (6, .pointer (some (⟨b18, 0, none⟩ : Addr))), (7, .pointer (some (⟨b20, 0, none⟩ : Addr))), (8, .int .i64 s83), (9, .pointer (some (⟨b24, 0, none⟩ : Addr))), (12, .pointer (some (⟨b85, 0, none⟩ : Addr))), (13, .func (.func 36) #[] #[.pointer (some x88.1), .pointer (some x88.2.1), .pointer (some x88.2.2.1), .pointer (some x88.2.2.2.1), .pointer (some x88.2.2.2.2)])] ⟨rfl, rfl, rfl, rfl, rfl, rfl, rfl, rfl, rfl, rfl, trivial⟩ (fun f1 => ?_)
          refine wk_then ?_
          refine wc_seq ?_
          refine wc_seq ?_
          refine wc_region ?_
          refine wl_val (at_move rfl) rfl ?_
          refine wl_val (at_eqlNF (v := .func (.func 36) #[] #[.pointer (some x88.1), .pointer (some x88.2.1), .pointer (some x88.2.2.1), .pointer (some x88.2.2.2.1), .pointer (some x88.2.2.2.2)]) Try.underlying47 rfl rfl rfl) rfl ?_
          refine wl_nil ?_
          refine wk_prune [(2, .pointer (some (⟨b1, 0, none⟩ : Addr))), (3, .pointer (some (⟨b3, 0, none⟩ : Addr))), (4, .pointer (some (⟨b5, 0, none⟩ : Addr))), (5, .bool x7), (6, .pointer (some (⟨b18, 0, none⟩ : Addr))), (7, .pointer (some (⟨b20, 0, none⟩ : Addr))), (8, .int .i64 s83), (9, .pointer (some (⟨b24, 0, none⟩ : Addr))), (12, .pointer (some (⟨b85, 0, none⟩ : Addr))), (13, .func (.func 36) #[] #[.pointer (some x88.1), .pointer (some x88.2.1), .pointer (some x88.2.2.1), .pointer (some x88.2.2.2.1), .pointer (some x88.2.2.2.2)]), (82, .bool false)] ⟨rfl, rfl, rfl, rfl, rfl, rfl, rfl, rfl, rfl, rfl, rfl, trivial⟩ (fun f1 => ?_)
          refine wk_then ?_
          refine wc_cond_f rfl ?_
          refine wc_skip ?_
          refine wk_prune [(2, .pointer (some (⟨b1, 0, none⟩ : Addr))), (3, .pointer (some (⟨b3, 0, none⟩ : Addr))), (4, .pointer (some (⟨b5, 0, none⟩ : Addr))), (5, .bool x7), (6, .pointer (some (⟨b18, 0, none⟩ : Addr))), (7, .pointer (some (⟨b20, 0, none⟩ : Addr))), (8, .int .i64 s83), (9, .pointer (some (⟨b24, 0, none⟩ : Addr))), (12, .pointer (some (⟨b85, 0, none⟩ : Addr))), (13, .func (.func 36) #[] #[.pointer (some x88.1), .pointer (some x88.2.1), .pointer (some x88.2.2.1), .pointer (some x88.2.2.2.1), .pointer (some x88.2.2.2.2)])] ⟨rfl, rfl, rfl, rfl, rfl, rfl, rfl, rfl, rfl, rfl, trivial⟩ (fun f1 => ?_)
          refine wk_then ?_
          refine wc_seq ?_
          refine wc_seq ?_
          refine wc_region ?_
          refine wl_val (at_move rfl) rfl ?_
          refine wl_nil ?_
          refine wk_prune [(2, .pointer (some (⟨b1, 0, none⟩ : Addr))), (3, .pointer (some (⟨b3, 0, none⟩ : Addr))), (4, .pointer (some (⟨b5, 0, none⟩ : Addr))), (5, .bool x7), (6, .pointer (some (⟨b18, 0, none⟩ : Addr))), (7, .pointer (some (⟨b20, 0, none⟩ : Addr))), (8, .int .i64 s83), (9, .pointer (some (⟨b24, 0, none⟩ : Addr))), (12, .pointer (some (⟨b85, 0, none⟩ : Addr))), (83, .func (.func 36) #[] #[.pointer (some x88.1), .pointer (some x88.2.1), .pointer (some x88.2.2.1), .pointer (some x88.2.2.2.1), .pointer (some x88.2.2.2.2)])] ⟨rfl, rfl, rfl, rfl, rfl, rfl, rfl, rfl, rfl, rfl, trivial⟩ (fun f1 => ?_)
          refine wk_then ?_
          refine wc_block ?_
          replace h := h t_b1
          replace h := h t_b3
          replace h := h t_b5
          replace h := h t_b18
          replace h := h t_b20
          replace h := h t_b85
          refine wc_prune [(2, .pointer (some (⟨b1, 0, none⟩ : Addr))), (3, .pointer (some (⟨b3, 0, none⟩ : Addr))), (4, .pointer (some (⟨b5, 0, none⟩ : Addr))), (5, .bool x7), (6, .pointer (some (⟨b18, 0, none⟩ : Addr))), (7, .pointer (some (⟨b20, 0, none⟩ : Addr))), (8, .int .i64 s83), (9, .pointer (some (⟨b24, 0, none⟩ : Addr))), (12, .pointer (some (⟨b85, 0, none⟩ : Addr))), (83, .func (.func 36) #[] #[.pointer (some x88.1), .pointer (some x88.2.1), .pointer (some x88.2.2.1), .pointer (some x88.2.2.2.1), .pointer (some x88.2.2.2.2)])] ⟨rfl, rfl, rfl, rfl, rfl, rfl, rfl, rfl, rfl, rfl, trivial⟩ (fun f1 => ?_)
          refine wc_rng (caps := [.pointer (some x88.1), .pointer (some x88.2.1), .pointer (some x88.2.2.1), .pointer (some x88.2.2.2.1), .pointer (some x88.2.2.2.2)]) rfl enter36 so h ?_; intro r91 D99 w94 q92 q93 h so
          refine Ca.mono (geom_Walk_1.calls _ _ (yok (ps := [84]) q93 (fun _ => rfl) fun x95 w97 K96 h => ?_) _ _ _ _ _ w94 _ h) ?_
          · refine ⟨h.1, ?_⟩; replace h := h.2; have so := Sm.refl w97; refine wc_prune [(2, .pointer (some (⟨b1, 0, none⟩ : Addr))), (3, .pointer (some (⟨b3, 0, none⟩ : Addr))), (4, .pointer (some (⟨b5, 0, none⟩ : Addr))), (6, .pointer (some (⟨b18, 0, none⟩ : Addr))), (7, .pointer (some (⟨b20, 0, none⟩ : Addr))), (9, .pointer (some (⟨b24, 0, none⟩ : Addr))), (12, .pointer (some (⟨b85, 0, none⟩ : Addr))), (84, .agg (c50 x95.1 x95.2.1 x95.2.2.1 x95.2.2.2.1 x95.2.2.2.2).toArray)] ⟨rfl, rfl, rfl, rfl, rfl, rfl, rfl, rfl, trivial⟩ (fun f1 => ?_)
            refine wc_region ?_
            refine wl_newT (T := 50) (cs := (c50 0 0 0 0 false)) (ef_alloc zero50 rfl) rfl so ?_; intro b100 w101 hb_b100 t_b100 k_b100 so
            have g_b100 := Nat.le_of_eq hb_b100.symm
            have hc := k_b100.ch (F := [])
            refine wl_stWT (vs := (c50 x95.1 x95.2.1 x95.2.2.1 x95.2.2.2.1 x95.2.2.2.2)) t_b100 (by first | (rw [len50, len50]) | (rw [len50]) | rfl) rfl so (fun q => ef_storeA (p := (⟨b100, 0, none⟩ : Addr)) (cs := (c50 x95.1 x95.2.1 x95.2.2.1 x95.2.2.2.1 x95.2.2.2.2)) (by rw [len50]; exact sz50) rfl rfl (one50 _ _ _ _ _) q) ?_; intro w102 t_b100 s_w102 so
            replace hc := ch_same hc s_w102 (.inr g_b100)
            refine wl_nil ?_
            replace h := h b100 _ hc g_b100 t_b100.lt; clear hc
            refine wk_prune [(2, .pointer (some (⟨b1, 0, none⟩ : Addr))), (3, .pointer (some (⟨b3, 0, none⟩ : Addr))), (4, .pointer (some (⟨b5, 0, none⟩ : Addr))), (6, .pointer (some (⟨b18, 0, none⟩ : Addr))), (7, .pointer (some (⟨b20, 0, none⟩ : Addr))), (9, .pointer (some (⟨b24, 0, none⟩ : Addr))), (12, .pointer (some (⟨b85, 0, none⟩ : Addr))), (14, .pointer (some (⟨b100, 0, none⟩ : Addr)))] ⟨rfl, rfl, rfl, rfl, rfl, rfl, rfl, rfl, trivial⟩ (fun f1 => ?_)
            refine wk_asg q92 h so ?_; intro w103 h so
            obtain ⟨q104, h⟩ := h
            replace t_b100 := pv_bk q104 t_b100 (by simp)
            refine wc_block ?_
            refine wc_seq ?_
            refine wc_seq ?_
            refine wc_joinG (w0 := w97) (fun (H : Hp) => Bk H b100 50 (c50 x95.1 x95.2.1 x95.2.2.1 x95.2.2.2.1 x95.2.2.2.2) ∧ True) (fun (s106 : Bool) => [(2, .pointer (some (⟨b1, 0, none⟩ : Addr))), (4, .pointer (some (⟨b5, 0, none⟩ : Addr))), (6, .pointer (some (⟨b18, 0, none⟩ : Addr))), (9, .pointer (some (⟨b24, 0, none⟩ : Addr))), (12, .pointer (some (⟨b85, 0, none⟩ : Addr))), (14, .pointer (some (⟨b100, 0, none⟩ : Addr))), (131, .bool s106)]) (fun (s106 : Bool) => []) h ?_ ?_
            · rintro s106 w107 f1 h ⟨t_b100, _⟩ so; refine wk_then ?_
              refine wc_cond rfl h (fun h => ?_) (fun h => ?_)
              · refine wc_seq ?_
                refine wc_region ?_
                refine wl_st (v := .bool false) h rfl so (fun q1 q2 => ef_store (sz := sz4) rfl rfl rfl q1 q2) ?_; intro w108 h so
                refine wl_nil ?_
                refine wk_prune [(4, .pointer (some (⟨b5, 0, none⟩ : Addr)))] ⟨rfl, trivial⟩ (fun f1 => ?_)
                refine wk_then ?_
                refine wc_ret ?_
                refine wk_thenR ?_
                refine wk_blkR ?_
                exact wk_rdR h so
              · refine wc_skip ?_
                refine wk_prune [(2, .pointer (some (⟨b1, 0, none⟩ : Addr))), (4, .pointer (some (⟨b5, 0, none⟩ : Addr))), (6, .pointer (some (⟨b18, 0, none⟩ : Addr))), (9, .pointer (some (⟨b24, 0, none⟩ : Addr))), (12, .pointer (some (⟨b85, 0, none⟩ : Addr))), (14, .pointer (some (⟨b100, 0, none⟩ : Addr)))] ⟨rfl, rfl, rfl, rfl, rfl, rfl, trivial⟩ (fun f1 => ?_)
                refine wk_then ?_
                refine wc_seq ?_
                refine wc_region ?_
                obtain ⟨x109, x110, x111, x112, q113, h⟩ := h
                refine wl_val (at_loadA (cs := (c26 x109 x110 x111 x112)) Try.underlying26 rfl (by rw [len26]; exact sz26) rfl q113) rfl ?_
                refine wl_val (at_fieldAddr Try.underlying50 rfl rfl sz3 (by decide) rfl) rfl ?_
                refine wl_val (at_load (v := .int .i64 x95.2.1) Try.underlying3 rfl rfl ((t_b100.cell 1).trans (by first | rfl | simp [List.getElem?_append, ints_len, bools_len]))) rfl ?_
                refine wl_callF (geom_Blocks.calls _ _ _ _ _ _ _ h) enter9 rfl trivial so ?_; intro x114 w115 h so
                obtain ⟨q116, h⟩ := h
                replace t_b100 := pv_bk q116 t_b100 (by simp)
                refine wl_val (at_move rfl) rfl ?_
                refine wl_val (at_extract rfl rfl) rfl ?_
                refine wl_val (at_extract rfl rfl) rfl ?_
                refine wl_val (at_assign rfl) rfl ?_
                refine wl_val (at_assign rfl) rfl ?_
                refine wl_nil ?_
                refine wk_prune [(4, .pointer (some (⟨b5, 0, none⟩ : Addr))), (6, .pointer (some (⟨b18, 0, none⟩ : Addr))), (9, .pointer (some (⟨b24, 0, none⟩ : Addr))), (12, .pointer (some (⟨b85, 0, none⟩ : Addr))), (14, .pointer (some (⟨b100, 0, none⟩ : Addr))), (15, .int .i64 x114.1), (16, .int .i64 x114.2)] ⟨rfl, rfl, rfl, rfl, rfl, rfl, rfl, trivial⟩ (fun f1 => ?_)
                refine wk_then ?_
                refine wc_seq ?_
                refine wc_region ?_
                refine wl_val (at_fieldAddr Try.underlying50 rfl rfl sz3 (by decide) rfl) rfl ?_
                refine wl_val (at_load (v := .int .i64 x95.2.2.2.1) Try.underlying3 rfl rfl ((t_b100.cell 3).trans (by first | rfl | simp [List.getElem?_append, ints_len, bools_len]))) rfl ?_
                refine wl_val (at_mul rfl rfl) rfl ?_
                obtain ⟨x117, q118, h⟩ := h
                refine wl_val (at_load Try.underlying3 rfl rfl q118) rfl ?_
                refine wl_val (at_add rfl rfl) rfl ?_
                refine wl_val (at_mul rfl rfl) rfl ?_
                refine wl_val (at_fieldAddr Try.underlying50 rfl rfl sz3 (by decide) rfl) rfl ?_
                refine wl_val (at_load (v := .int .i64 x95.2.2.1) Try.underlying3 rfl rfl ((t_b100.cell 2).trans (by first | rfl | simp [List.getElem?_append, ints_len, bools_len]))) rfl ?_
                refine wl_val (at_add rfl rfl) rfl ?_
                refine wl_val (at_assign rfl) rfl ?_
                obtain ⟨x119, e120⟩ : ∃ x : Int, x = (IntKind.wrap .i64 ((IntKind.wrap .i64 ((IntKind.wrap .i64 (x95.2.2.2.1 * 4)) * (IntKind.wrap .i64 (x117 + 1)))) + x95.2.2.1)) := ⟨_, rfl⟩; replace h := h x119 e120
                refine wl_set (t := 17) (v := .int .i64 x119) (congrArg (Value.int .i64) e120.symm) ?_
                refine wl_nil ?_
                refine wk_prune [(4, .pointer (some (⟨b5, 0, none⟩ : Addr))), (9, .pointer (some (⟨b24, 0, none⟩ : Addr))), (12, .pointer (some (⟨b85, 0, none⟩ : Addr))), (14, .pointer (some (⟨b100, 0, none⟩ : Addr))), (15, .int .i64 x114.1), (16, .int .i64 x114.2), (17, .int .i64 x119)] ⟨rfl, rfl, rfl, rfl, rfl, rfl, rfl, trivial⟩ (fun f1 => ?_)
                refine wk_then ?_
                refine wc_seq ?_
                refine wc_seq ?_
                refine wc_joinG (w0 := w97) (fun (H : Hp) => Bk H b100 50 (c50 x95.1 x95.2.1 x95.2.2.1 x95.2.2.2.1 x95.2.2.2.2) ∧ True) (fun (s122 : Bool) => [(4, .pointer (some (⟨b5, 0, none⟩ : Addr))), (9, .pointer (some (⟨b24, 0, none⟩ : Addr))), (12, .pointer (some (⟨b85, 0, none⟩ : Addr))), (14, .pointer (some (⟨b100, 0, none⟩ : Addr))), (17, .int .i64 x119), (171, .bool s122)]) (fun (s122 : Bool) => []) h ?_ ?_
                · rintro s122 w123 f1 h ⟨t_b100, _⟩ so; refine wk_then ?_
                  refine wc_cond rfl h (fun h => ?_) (fun h => ?_)
                  · refine wc_seq ?_
                    refine wc_region ?_
                    refine wl_st (v := .bool false) h rfl so (fun q1 q2 => ef_store (sz := sz4) rfl rfl rfl q1 q2) ?_; intro w124 h so
                    refine wl_nil ?_
                    refine wk_prune [(4, .pointer (some (⟨b5, 0, none⟩ : Addr)))] ⟨rfl, trivial⟩ (fun f1 => ?_)
                    refine wk_then ?_
                    refine wc_ret ?_
                    refine wk_thenR ?_
                    refine wk_blkR ?_
                    exact wk_rdR h so
                  · refine wc_skip ?_
                    refine wk_prune [(9, .pointer (some (⟨b24, 0, none⟩ : Addr))), (12, .pointer (some (⟨b85, 0, none⟩ : Addr))), (14, .pointer (some (⟨b100, 0, none⟩ : Addr))), (17, .int .i64 x119)] ⟨rfl, rfl, rfl, rfl, trivial⟩ (fun f1 => ?_)
                    refine wk_then ?_
                    refine wc_seq ?_
                    refine wc_region ?_
                    obtain ⟨x125, q126, h⟩ := h
                    refine wl_val (at_load Try.underlying55 rfl rfl q126) rfl ?_
                    refine wl_val (at_fieldAddr Try.underlying50 rfl rfl sz3 (by decide) rfl) rfl ?_
                    refine wl_val (at_load (v := .int .i64 x95.1) Try.underlying3 rfl rfl ((t_b100.cell 0).trans (by first | rfl | simp [List.getElem?_append, ints_len, bools_len]))) rfl ?_
                    obtain ⟨q127, q128, p129, q130, h⟩ := h
                    refine wl_val (at_ixAddrL Try.underlying55 sz56 (sl_some q130) rfl q127 q128) rfl ?_
                    obtain ⟨x131, q132, h⟩ := h
                    refine wl_val (at_load Try.underlying56 rfl rfl q132) rfl ?_
                    refine wl_val (at_move rfl) rfl ?_
                    obtain ⟨q133, q134, p135, q136, h⟩ := h
                    refine wl_val (at_ixAddrL Try.underlying56 sz3 (sl_some q136) rfl q133 q134) rfl ?_
                    refine wl_st (v := .int .i64 1) h rfl so (fun q1 q2 => ef_store (sz := sz3) rfl rfl rfl q1 q2) ?_; intro w137 h so
                    refine wl_nil ?_
                    refine wk_prune [(12, .pointer (some (⟨b85, 0, none⟩ : Addr)))] ⟨rfl, trivial⟩ (fun f1 => ?_)
                    refine wk_then ?_
                    refine wc_region ?_
                    obtain ⟨x138, q139, h⟩ := h
                    refine wl_val (at_load Try.underlying3 rfl rfl q139) rfl ?_
                    refine wl_val (at_add rfl rfl) rfl ?_
                    refine wl_st (v := .int .i64 (IntKind.wrap .i64 (x138 + 1))) h rfl so (fun q1 q2 => ef_store (sz := sz3) rfl rfl rfl q1 q2) ?_; intro w140 h so
                    refine wl_nil ?_
                    refine wk_blkN ?_
                    exact wk_rdN q92 h so
                · intro J121 h hJ121
                  refine wc_region ?_
                  refine wl_val (at_fieldAddr Try.underlying50 rfl rfl sz4 (by decide) rfl) rfl ?_
                  refine wl_val (at_load (v := .bool x95.2.2.2.2) Try.underlying4 rfl rfl ((t_b100.cell 4).trans (by first | rfl | simp [List.getElem?_append, ints_len, bools_len]))) rfl ?_
                  refine wl_val (at_fieldAddr Try.underlying50 rfl rfl sz3 (by decide) rfl) rfl ?_
                  refine wl_val (at_load (v := .int .i64 x95.2.2.1) Try.underlying3 rfl rfl ((t_b100.cell 2).trans (by first | rfl | simp [List.getElem?_append, ints_len, bools_len]))) rfl ?_
                  refine wl_val (at_move rfl) rfl ?_
                  refine wl_val (at_lss rfl rfl) rfl ?_
                  refine wl_val (at_move rfl) rfl ?_
                  refine bif_ h (fun hb h => ?_) (fun hb h => ?_)
                  · refine wl_set (t := 154) (v := .bool true) (congrArg Value.bool hb) ?_; clear hb
                    refine wl_on (t := 154) rfl (by decide) rfl ?_
                    refine wl_val (at_fieldAddr Try.underlying50 rfl rfl sz3 (by decide) rfl) rfl ?_
                    refine wl_on (t := 154) rfl (by decide) rfl ?_
                    refine wl_val (at_load (v := .int .i64 x95.2.2.2.1) Try.underlying3 rfl rfl ((t_b100.cell 3).trans (by first | rfl | simp [List.getElem?_append, ints_len, bools_len]))) rfl ?_
                    refine wl_on (t := 154) rfl (by decide) rfl ?_
                    refine wl_val (at_move rfl) rfl ?_
                    refine wl_on (t := 154) rfl (by decide) rfl ?_
                    refine wl_val (at_lss rfl rfl) rfl ?_
                    refine wl_val (at_pick_t rfl rfl) rfl ?_
                    refine wl_val (at_neqB Try.underlying4 rfl rfl) rfl ?_
                    refine wl_val (at_move rfl) rfl ?_
                    refine bif_ h (fun hb h => ?_) (fun hb h => ?_)
                    · refine wl_set (t := 161) (v := .bool true) (congrArg Value.bool hb) ?_; clear hb
                      refine wl_off (t := 161) rfl (by decide) rfl ?_
                      refine wl_off (t := 161) rfl (by decide) rfl ?_
                      refine wl_off (t := 161) rfl (by decide) rfl ?_
                      refine wl_off (t := 161) rfl (by decide) rfl ?_
                      refine wl_off (t := 161) rfl (by decide) rfl ?_
                      refine wl_off (t := 161) rfl (by decide) rfl ?_
                      refine wl_off (t := 161) rfl (by decide) rfl ?_
                      refine wl_off (t := 161) rfl (by decide) rfl ?_
                      refine wl_off (t := 161) rfl (by decide) rfl ?_
                      refine wl_val (at_pick_t rfl rfl) rfl ?_
                      refine wl_nil ?_
                      exact wk_prune [(4, .pointer (some (⟨b5, 0, none⟩ : Addr))), (9, .pointer (some (⟨b24, 0, none⟩ : Addr))), (12, .pointer (some (⟨b85, 0, none⟩ : Addr))), (14, .pointer (some (⟨b100, 0, none⟩ : Addr))), (17, .int .i64 x119), (171, .bool true)] ⟨rfl, rfl, rfl, rfl, rfl, rfl, trivial⟩ (fun f1 => hJ121 (true) _ f1 h ⟨t_b100, trivial⟩ so)
                    · refine wl_set (t := 161) (v := .bool false) (congrArg Value.bool hb) ?_; clear hb
                      refine wl_on (t := 161) rfl (by decide) rfl ?_
                      obtain ⟨x141, q142, h⟩ := h
                      refine wl_val (at_load Try.underlying55 rfl rfl q142) rfl ?_
                      refine wl_on (t := 161) rfl (by decide) rfl ?_
                      refine wl_val (at_fieldAddr Try.underlying50 rfl rfl sz3 (by decide) rfl) rfl ?_
                      refine wl_on (t := 161) rfl (by decide) rfl ?_
                      refine wl_val (at_load (v := .int .i64 x95.1) Try.underlying3 rfl rfl ((t_b100.cell 0).trans (by first | rfl | simp [List.getElem?_append, ints_len, bools_len]))) rfl ?_
                      refine wl_on (t := 161) rfl (by decide) rfl ?_
                      obtain ⟨q143, q144, p145, q146, h⟩ := h
                      refine wl_val (at_ixAddrL Try.underlying55 sz56 (sl_some q146) rfl q143 q144) rfl ?_
                      refine wl_on (t := 161) rfl (by decide) rfl ?_
                      obtain ⟨x147, q148, h⟩ := h
                      refine wl_val (at_load Try.underlying56 rfl rfl q148) rfl ?_
                      refine wl_on (t := 161) rfl (by decide) rfl ?_
                      refine wl_val (at_move rfl) rfl ?_
                      refine wl_on (t := 161) rfl (by decide) rfl ?_
                      obtain ⟨q149, q150, p151, q152, h⟩ := h
                      refine wl_val (at_ixAddrL Try.underlying56 sz3 (sl_some q152) rfl q149 q150) rfl ?_
                      refine wl_on (t := 161) rfl (by decide) rfl ?_
                      obtain ⟨x153, q154, h⟩ := h
                      refine wl_val (at_load Try.underlying3 rfl rfl q154) rfl ?_
                      refine wl_on (t := 161) rfl (by decide) rfl ?_
                      refine wl_val (at_neq rfl rfl) rfl ?_
                      refine wl_val (at_pick_f rfl rfl) rfl ?_
                      refine wl_nil ?_
                      exact wk_prune [(4, .pointer (some (⟨b5, 0, none⟩ : Addr))), (9, .pointer (some (⟨b24, 0, none⟩ : Addr))), (12, .pointer (some (⟨b85, 0, none⟩ : Addr))), (14, .pointer (some (⟨b100, 0, none⟩ : Addr))), (17, .int .i64 x119), (171, .bool (x153 != 0))] ⟨rfl, rfl, rfl, rfl, rfl, rfl, trivial⟩ (fun f1 => hJ121 ((x153 != 0)) _ f1 h ⟨t_b100, trivial⟩ so)
                  · refine wl_set (t := 154) (v := .bool false) (congrArg Value.bool hb) ?_; clear hb
                    refine wl_off (t := 154) rfl (by decide) rfl ?_
                    refine wl_off (t := 154) rfl (by decide) rfl ?_
                    refine wl_off (t := 154) rfl (by decide) rfl ?_
                    refine wl_off (t := 154) rfl (by decide) rfl ?_
                    refine wl_val (at_pick_f rfl rfl) rfl ?_
                    refine wl_val (at_neqB Try.underlying4 rfl rfl) rfl ?_
                    refine wl_val (at_move rfl) rfl ?_
                    refine bif_ h (fun hb h => ?_) (fun hb h => ?_)
                    · refine wl_set (t := 161) (v := .bool true) (congrArg Value.bool hb) ?_; clear hb
                      refine wl_off (t := 161) rfl (by decide) rfl ?_
                      refine wl_off (t := 161) rfl (by decide) rfl ?_
                      refine wl_off (t := 161) rfl (by decide) rfl ?_
                      refine wl_off (t := 161) rfl (by decide) rfl ?_
                      refine wl_off (t := 161) rfl (by decide) rfl ?_
                      refine wl_off (t := 161) rfl (by decide) rfl ?_
                      refine wl_off (t := 161) rfl (by decide) rfl ?_
                      refine wl_off (t := 161) rfl (by decide) rfl ?_
                      refine wl_off (t := 161) rfl (by decide) rfl ?_
                      refine wl_val (at_pick_t rfl rfl) rfl ?_
                      refine wl_nil ?_
                      exact wk_prune [(4, .pointer (some (⟨b5, 0, none⟩ : Addr))), (9, .pointer (some (⟨b24, 0, none⟩ : Addr))), (12, .pointer (some (⟨b85, 0, none⟩ : Addr))), (14, .pointer (some (⟨b100, 0, none⟩ : Addr))), (17, .int .i64 x119), (171, .bool true)] ⟨rfl, rfl, rfl, rfl, rfl, rfl, trivial⟩ (fun f1 => hJ121 (true) _ f1 h ⟨t_b100, trivial⟩ so)
                    · refine wl_set (t := 161) (v := .bool false) (congrArg Value.bool hb) ?_; clear hb
                      refine wl_on (t := 161) rfl (by decide) rfl ?_
                      obtain ⟨x155, q156, h⟩ := h
                      refine wl_val (at_load Try.underlying55 rfl rfl q156) rfl ?_
                      refine wl_on (t := 161) rfl (by decide) rfl ?_
                      refine wl_val (at_fieldAddr Try.underlying50 rfl rfl sz3 (by decide) rfl) rfl ?_
                      refine wl_on (t := 161) rfl (by decide) rfl ?_
                      refine wl_val (at_load (v := .int .i64 x95.1) Try.underlying3 rfl rfl ((t_b100.cell 0).trans (by first | rfl | simp [List.getElem?_append, ints_len, bools_len]))) rfl ?_
                      refine wl_on (t := 161) rfl (by decide) rfl ?_
                      obtain ⟨q157, q158, p159, q160, h⟩ := h
                      refine wl_val (at_ixAddrL Try.underlying55 sz56 (sl_some q160) rfl q157 q158) rfl ?_
                      refine wl_on (t := 161) rfl (by decide) rfl ?_
                      obtain ⟨x161, q162, h⟩ := h
                      refine wl_val (at_load Try.underlying56 rfl rfl q162) rfl ?_
                      refine wl_on (t := 161) rfl (by decide) rfl ?_
                      refine wl_val (at_move rfl) rfl ?_
                      refine wl_on (t := 161) rfl (by decide) rfl ?_
                      obtain ⟨q163, q164, p165, q166, h⟩ := h
                      refine wl_val (at_ixAddrL Try.underlying56 sz3 (sl_some q166) rfl q163 q164) rfl ?_
                      refine wl_on (t := 161) rfl (by decide) rfl ?_
                      obtain ⟨x167, q168, h⟩ := h
                      refine wl_val (at_load Try.underlying3 rfl rfl q168) rfl ?_
                      refine wl_on (t := 161) rfl (by decide) rfl ?_
                      refine wl_val (at_neq rfl rfl) rfl ?_
                      refine wl_val (at_pick_f rfl rfl) rfl ?_
                      refine wl_nil ?_
                      exact wk_prune [(4, .pointer (some (⟨b5, 0, none⟩ : Addr))), (9, .pointer (some (⟨b24, 0, none⟩ : Addr))), (12, .pointer (some (⟨b85, 0, none⟩ : Addr))), (14, .pointer (some (⟨b100, 0, none⟩ : Addr))), (17, .int .i64 x119), (171, .bool (x167 != 0))] ⟨rfl, rfl, rfl, rfl, rfl, rfl, trivial⟩ (fun f1 => hJ121 ((x167 != 0)) _ f1 h ⟨t_b100, trivial⟩ so)
            · intro J105 h hJ105
              refine wc_wo [0, 1, 3, 7, 15, 31, 15, 79, 255, 511, 1023, 2047, 4095, 2047, 2047, 18431, 59391, 124927, 255999, 524287, 1048575, 2097151, 4194303, 8388607, 16777215, 33554431, 67108863, 134217727, 268435455, 536870911, 1073741823, 2147483647, 4294967295, 8589934591, 4294967295, 21474836479, 55834574847, 137438953471, 274877906943, 549755813887, 1099511627775, 2199023255551, 1099511627775, 5497558138879, 14293651161087, 35184372088831, 70368744177663] mixed (by kernel_rfl) so ?_; intro w169 hw so; rw [← hw] at h t_b100; clear hw
              refine wo_pure (m' := 1) 0 rfl (by kernel_rfl) rfl rfl (fun H => at_fieldAddr Try.underlying50 rfl rfl sz3 (by decide) rfl) ?_
              have q170 : cellAt w169.heap (⟨b100, 0, none⟩ : Addr) = some (.int .i64 x95.1) := (t_b100.cell 0).trans (by first | rfl | simp [List.getElem?_append, ints_len, bools_len])
              refine wo_load (m' := 3) 1 (fun H => cellAt H (⟨b100, 0, none⟩ : Addr) = some (.int .i64 x95.1)) rfl (by kernel_rfl) rfl rfl (fun H q170 => at_load (v := .int .i64 x95.1) Try.underlying3 rfl rfl (q170)) q170 ?_
              refine wo_pure (m' := 7) 2 rfl (by kernel_rfl) rfl rfl (fun H => at_lss rfl rfl) ?_
              refine wo_pure (m' := 15) 3 rfl (by kernel_rfl) rfl rfl (fun H => at_move rfl) ?_
              refine bif_ h (fun hb h => ?_) (fun hb h => ?_)
              · refine wo_set (t := 88) (v := .bool true) (congrArg Value.bool hb) ?_; clear hb
                refine wo_off (m' := 31) 4 rfl (by kernel_rfl) rfl (t := 88) rfl (by decide) rfl ?_
                refine wo_off (m' := 63) 5 rfl (by kernel_rfl) rfl (t := 88) rfl (by decide) rfl ?_
                refine wo_off (m' := 127) 6 rfl (by kernel_rfl) rfl (t := 88) rfl (by decide) rfl ?_
                refine wo_off (m' := 255) 7 rfl (by kernel_rfl) rfl (t := 88) rfl (by decide) rfl ?_
                refine wo_off (m' := 511) 8 rfl (by kernel_rfl) rfl (t := 88) rfl (by decide) rfl ?_
                refine wo_pure (m' := 1023) 9 rfl (by kernel_rfl) rfl rfl (fun H => at_pick_t rfl rfl) ?_
                refine wo_pure (m' := 2047) 10 rfl (by kernel_rfl) rfl rfl (fun H => at_move rfl) ?_
                refine wo_off (m' := 4095) 11 rfl (by kernel_rfl) rfl (t := 95) rfl (by decide) rfl ?_
                refine wo_off (m' := 8191) 12 rfl (by kernel_rfl) rfl (t := 95) rfl (by decide) rfl ?_
                refine wo_off (m' := 16383) 13 rfl (by kernel_rfl) rfl (t := 95) rfl (by decide) rfl ?_
                refine wo_off (m' := 32767) 14 rfl (by kernel_rfl) rfl (t := 95) rfl (by decide) rfl ?_
                refine wo_off (m' := 65535) 15 rfl (by kernel_rfl) rfl (t := 95) rfl (by decide) rfl ?_
                refine wo_off (m' := 131071) 16 rfl (by kernel_rfl) rfl (t := 95) rfl (by decide) rfl ?_
                refine wo_off (m' := 262143) 17 rfl (by kernel_rfl) rfl (t := 95) rfl (by decide) rfl ?_
                refine wo_off (m' := 524287) 18 rfl (by kernel_rfl) rfl (t := 95) rfl (by decide) rfl ?_
                refine wo_off (m' := 1048575) 19 rfl (by kernel_rfl) rfl (t := 95) rfl (by decide) rfl ?_
                refine wo_pure (m' := 2097151) 20 rfl (by kernel_rfl) rfl rfl (fun H => at_pick_t rfl rfl) ?_
                refine wo_pure (m' := 4194303) 21 rfl (by kernel_rfl) rfl rfl (fun H => at_move rfl) ?_
                refine wo_off (m' := 8388607) 22 rfl (by kernel_rfl) rfl (t := 106) rfl (by decide) rfl ?_
                refine wo_off (m' := 16777215) 23 rfl (by kernel_rfl) rfl (t := 106) rfl (by decide) rfl ?_
                refine wo_off (m' := 33554431) 24 rfl (by kernel_rfl) rfl (t := 106) rfl (by decide) rfl ?_
                refine wo_pure (m' := 67108863) 25 rfl (by kernel_rfl) rfl rfl (fun H => at_pick_t rfl rfl) ?_
                refine wo_pure (m' := 134217727) 26 rfl (by kernel_rfl) rfl rfl (fun H => at_move rfl) ?_
                refine wo_off (m' := 268435455) 27 rfl (by kernel_rfl) rfl (t := 111) rfl (by decide) rfl ?_
                refine wo_off (m' := 536870911) 28 rfl (by kernel_rfl) rfl (t := 111) rfl (by decide) rfl ?_
                refine wo_off (m' := 1073741823) 29 rfl (by kernel_rfl) rfl (t := 111) rfl (by decide) rfl ?_
                refine wo_pure (m' := 2147483647) 30 rfl (by kernel_rfl) rfl rfl (fun H => at_pick_t rfl rfl) ?_
                refine wo_pure (m' := 4294967295) 31 rfl (by kernel_rfl) rfl rfl (fun H => at_move rfl) ?_
                refine wo_off (m' := 8589934591) 32 rfl (by kernel_rfl) rfl (t := 116) rfl (by decide) rfl ?_
                refine wo_off (m' := 17179869183) 33 rfl (by kernel_rfl) rfl (t := 116) rfl (by decide) rfl ?_
                refine wo_off (m' := 34359738367) 34 rfl (by kernel_rfl) rfl (t := 116) rfl (by decide) rfl ?_
                refine wo_off (m' := 68719476735) 35 rfl (by kernel_rfl) rfl (t := 116) rfl (by decide) rfl ?_
                refine wo_off (m' := 137438953471) 36 rfl (by kernel_rfl) rfl (t := 116) rfl (by decide) rfl ?_
                refine wo_off (m' := 274877906943) 37 rfl (by kernel_rfl) rfl (t := 116) rfl (by decide) rfl ?_
                refine wo_pure (m' := 549755813887) 38 rfl (by kernel_rfl) rfl rfl (fun H => at_pick_t rfl rfl) ?_
                refine wo_pure (m' := 1099511627775) 39 rfl (by kernel_rfl) rfl rfl (fun H => at_move rfl) ?_
                refine wo_off (m' := 2199023255551) 40 rfl (by kernel_rfl) rfl (t := 124) rfl (by decide) rfl ?_
                refine wo_off (m' := 4398046511103) 41 rfl (by kernel_rfl) rfl (t := 124) rfl (by decide) rfl ?_
                refine wo_off (m' := 8796093022207) 42 rfl (by kernel_rfl) rfl (t := 124) rfl (by decide) rfl ?_
                refine wo_off (m' := 17592186044415) 43 rfl (by kernel_rfl) rfl (t := 124) rfl (by decide) rfl ?_
                refine wo_off (m' := 35184372088831) 44 rfl (by kernel_rfl) rfl (t := 124) rfl (by decide) rfl ?_
                refine wo_off (m' := 70368744177663) 45 rfl (by kernel_rfl) rfl (t := 124) rfl (by decide) rfl ?_
                refine wo_pure (m' := 140737488355327) 46 rfl (by kernel_rfl) rfl rfl (fun H => at_pick_t rfl rfl) ?_
                refine wo_done (by kernel_rfl) ?_
                exact wk_prune [(2, .pointer (some (⟨b1, 0, none⟩ : Addr))), (4, .pointer (some (⟨b5, 0, none⟩ : Addr))), (6, .pointer (some (⟨b18, 0, none⟩ : Addr))), (9, .pointer (some (⟨b24, 0, none⟩ : Addr))), (12, .pointer (some (⟨b85, 0, none⟩ : Addr))), (14, .pointer (some (⟨b100, 0, none⟩ : Addr))), (131, .bool true)] ⟨rfl, rfl, rfl, rfl, rfl, rfl, rfl, trivial⟩ (fun f1 => hJ105 (true) _ f1 h ⟨t_b100, trivial⟩ so)
              · refine wo_set (t := 88) (v := .bool false) (congrArg Value.bool hb) ?_; clear hb
                refine wo_pureG (m' := 31) 4 rfl (by kernel_rfl) rfl (t := 88) rfl (by decide) rfl (fun H => at_fieldAddr Try.underlying50 rfl rfl sz3 (by decide) rfl) ?_
                have q171 : cellAt w169.heap (⟨b100, 0, none⟩ : Addr) = some (.int .i64 x95.1) := (t_b100.cell 0).trans (by first | rfl | simp [List.getElem?_append, ints_len, bools_len])
                refine wo_loadG (m' := 63) 5 (fun H => cellAt H (⟨b100, 0, none⟩ : Addr) = some (.int .i64 x95.1)) rfl (by kernel_rfl) rfl (t := 88) rfl (by decide) rfl (fun H q171 => at_load (v := .int .i64 x95.1) Try.underlying3 rfl rfl (q171)) q171 ?_
                obtain ⟨x172, q173, h⟩ := h
                refine wo_loadG (m' := 127) 6 (fun H => cellAt H (⟨b3, 0, none⟩ : Addr) = some (.slice x172.a x172.n x172.c)) rfl (by kernel_rfl) rfl (t := 88) rfl (by decide) rfl (fun H q173 => at_load Try.underlying32 rfl rfl q173) q173 ?_
                refine wo_pureG (m' := 255) 7 rfl (by kernel_rfl) rfl (t := 88) rfl (by decide) rfl (fun H => at_lenL Try.underlying32 rfl) ?_
                refine wo_pureG (m' := 511) 8 rfl (by kernel_rfl) rfl (t := 88) rfl (by decide) rfl (fun H => at_geq rfl rfl) ?_
                refine wo_pure (m' := 1023) 9 rfl (by kernel_rfl) rfl rfl (fun H => at_pick_f rfl rfl) ?_
                refine wo_pure (m' := 2047) 10 rfl (by kernel_rfl) rfl rfl (fun H => at_move rfl) ?_
                refine bif_ h (fun hb h => ?_) (fun hb h => ?_)
                · refine wo_set (t := 95) (v := .bool true) (congrArg Value.bool hb) ?_; clear hb
                  refine wo_off (m' := 4095) 11 rfl (by kernel_rfl) rfl (t := 95) rfl (by decide) rfl ?_
                  refine wo_off (m' := 8191) 12 rfl (by kernel_rfl) rfl (t := 95) rfl (by decide) rfl ?_
                  refine wo_off (m' := 16383) 13 rfl (by kernel_rfl) rfl (t := 95) rfl (by decide) rfl ?_
                  refine wo_off (m' := 32767) 14 rfl (by kernel_rfl) rfl (t := 95) rfl (by decide) rfl ?_
                  refine wo_off (m' := 65535) 15 rfl (by kernel_rfl) rfl (t := 95) rfl (by decide) rfl ?_
                  refine wo_off (m' := 131071) 16 rfl (by kernel_rfl) rfl (t := 95) rfl (by decide) rfl ?_
                  refine wo_off (m' := 262143) 17 rfl (by kernel_rfl) rfl (t := 95) rfl (by decide) rfl ?_
                  refine wo_off (m' := 524287) 18 rfl (by kernel_rfl) rfl (t := 95) rfl (by decide) rfl ?_
                  refine wo_off (m' := 1048575) 19 rfl (by kernel_rfl) rfl (t := 95) rfl (by decide) rfl ?_
                  refine wo_pure (m' := 2097151) 20 rfl (by kernel_rfl) rfl rfl (fun H => at_pick_t rfl rfl) ?_
                  refine wo_pure (m' := 4194303) 21 rfl (by kernel_rfl) rfl rfl (fun H => at_move rfl) ?_
                  refine wo_off (m' := 8388607) 22 rfl (by kernel_rfl) rfl (t := 106) rfl (by decide) rfl ?_
                  refine wo_off (m' := 16777215) 23 rfl (by kernel_rfl) rfl (t := 106) rfl (by decide) rfl ?_
                  refine wo_off (m' := 33554431) 24 rfl (by kernel_rfl) rfl (t := 106) rfl (by decide) rfl ?_
                  refine wo_pure (m' := 67108863) 25 rfl (by kernel_rfl) rfl rfl (fun H => at_pick_t rfl rfl) ?_
                  refine wo_pure (m' := 134217727) 26 rfl (by kernel_rfl) rfl rfl (fun H => at_move rfl) ?_
                  refine wo_off (m' := 268435455) 27 rfl (by kernel_rfl) rfl (t := 111) rfl (by decide) rfl ?_
                  refine wo_off (m' := 536870911) 28 rfl (by kernel_rfl) rfl (t := 111) rfl (by decide) rfl ?_
                  refine wo_off (m' := 1073741823) 29 rfl (by kernel_rfl) rfl (t := 111) rfl (by decide) rfl ?_
                  refine wo_pure (m' := 2147483647) 30 rfl (by kernel_rfl) rfl rfl (fun H => at_pick_t rfl rfl) ?_
                  refine wo_pure (m' := 4294967295) 31 rfl (by kernel_rfl) rfl rfl (fun H => at_move rfl) ?_
                  refine wo_off (m' := 8589934591) 32 rfl (by kernel_rfl) rfl (t := 116) rfl (by decide) rfl ?_
                  refine wo_off (m' := 17179869183) 33 rfl (by kernel_rfl) rfl (t := 116) rfl (by decide) rfl ?_
                  refine wo_off (m' := 34359738367) 34 rfl (by kernel_rfl) rfl (t := 116) rfl (by decide) rfl ?_
                  refine wo_off (m' := 68719476735) 35 rfl (by kernel_rfl) rfl (t := 116) rfl (by decide) rfl ?_
                  refine wo_off (m' := 137438953471) 36 rfl (by kernel_rfl) rfl (t := 116) rfl (by decide) rfl ?_
                  refine wo_off (m' := 274877906943) 37 rfl (by kernel_rfl) rfl (t := 116) rfl (by decide) rfl ?_
                  refine wo_pure (m' := 549755813887) 38 rfl (by kernel_rfl) rfl rfl (fun H => at_pick_t rfl rfl) ?_
                  refine wo_pure (m' := 1099511627775) 39 rfl (by kernel_rfl) rfl rfl (fun H => at_move rfl) ?_
                  refine wo_off (m' := 2199023255551) 40 rfl (by kernel_rfl) rfl (t := 124) rfl (by decide) rfl ?_
                  refine wo_off (m' := 4398046511103) 41 rfl (by kernel_rfl) rfl (t := 124) rfl (by decide) rfl ?_
                  refine wo_off (m' := 8796093022207) 42 rfl (by kernel_rfl) rfl (t := 124) rfl (by decide) rfl ?_
                  refine wo_off (m' := 17592186044415) 43 rfl (by kernel_rfl) rfl (t := 124) rfl (by decide) rfl ?_
                  refine wo_off (m' := 35184372088831) 44 rfl (by kernel_rfl) rfl (t := 124) rfl (by decide) rfl ?_
                  refine wo_off (m' := 70368744177663) 45 rfl (by kernel_rfl) rfl (t := 124) rfl (by decide) rfl ?_
                  refine wo_pure (m' := 140737488355327) 46 rfl (by kernel_rfl) rfl rfl (fun H => at_pick_t rfl rfl) ?_
                  refine wo_done (by kernel_rfl) ?_
                  exact wk_prune [(2, .pointer (some (⟨b1, 0, none⟩ : Addr))), (4, .pointer (some (⟨b5, 0, none⟩ : Addr))), (6, .pointer (some (⟨b18, 0, none⟩ : Addr))), (9, .pointer (some (⟨b24, 0, none⟩ : Addr))), (12, .pointer (some (⟨b85, 0, none⟩ : Addr))), (14, .pointer (some (⟨b100, 0, none⟩ : Addr))), (131, .bool true)] ⟨rfl, rfl, rfl, rfl, rfl, rfl, rfl, trivial⟩ (fun f1 => hJ105 (true) _ f1 h ⟨t_b100, trivial⟩ so)
                · refine wo_set (t := 95) (v := .bool false) (congrArg Value.bool hb) ?_; clear hb
                  refine wo_pureG (m' := 4095) 11 rfl (by kernel_rfl) rfl (t := 95) rfl (by decide) rfl (fun H => at_fieldAddr Try.underlying50 rfl rfl sz3 (by decide) rfl) ?_
                  refine wo_pureG (m' := 20479) 14 rfl (by kernel_rfl) rfl (t := 95) rfl (by decide) rfl (fun H => at_fieldAddr Try.underlying50 rfl rfl sz3 (by decide) rfl) ?_
                  have q174 : cellAt w169.heap (⟨b100, 1, none⟩ : Addr) = some (.int .i64 x95.2.1) := (t_b100.cell 1).trans (by first | rfl | simp [List.getElem?_append, ints_len, bools_len])
                  refine wo_loadG (m' := 24575) 12 (fun H => cellAt H (⟨b100, 1, none⟩ : Addr) = some (.int .i64 x95.2.1)) rfl (by kernel_rfl) rfl (t := 95) rfl (by decide) rfl (fun H q174 => at_load (v := .int .i64 x95.2.1) Try.underlying3 rfl rfl (q174)) q174 ?_
                  obtain ⟨x175, q176, h⟩ := h
                  refine wo_loadG (m' := 32767) 13 (fun H => cellAt H (⟨b3, 0, none⟩ : Addr) = some (.slice x175.a x175.n x175.c)) rfl (by kernel_rfl) rfl (t := 95) rfl (by decide) rfl (fun H q176 => at_load Try.underlying32 rfl rfl q176) q176 ?_
                  have q177 : cellAt w169.heap (⟨b100, 0, none⟩ : Addr) = some (.int .i64 x95.1) := (t_b100.cell 0).trans (by first | rfl | simp [List.getElem?_append, ints_len, bools_len])
                  refine wo_loadG (m' := 65535) 15 (fun H => cellAt H (⟨b100, 0, none⟩ : Addr) = some (.int .i64 x95.1)) rfl (by kernel_rfl) rfl (t := 95) rfl (by decide) rfl (fun H q177 => at_load (v := .int .i64 x95.1) Try.underlying3 rfl rfl (q177)) q177 ?_
                  obtain ⟨q178, q179, p180, q181, h⟩ := h
                  refine wo_pureG (m' := 131071) 16 rfl (by kernel_rfl) rfl (t := 95) rfl (by decide) rfl (fun H => at_ixAddrL Try.underlying32 sz52 (sl_some q181) rfl q178 q179) ?_
                  refine wo_pureG (m' := 262143) 17 rfl (by kernel_rfl) rfl (t := 95) rfl (by decide) rfl (fun H => at_fieldAddr Try.underlying52 rfl rfl sz3 (by decide) rfl) ?_
                  obtain ⟨x182, q183, h⟩ := h
                  refine wo_loadG (m' := 524287) 18 (fun H => cellAt H ((p180.add (Int.toNat x95.1 * 3)).add 0) = some (.int .i64 x182)) rfl (by kernel_rfl) rfl (t := 95) rfl (by decide) rfl (fun H q183 => at_load Try.underlying3 rfl rfl q183) q183 ?_
                  refine wo_pureG (m' := 1048575) 19 rfl (by kernel_rfl) rfl (t := 95) rfl (by decide) rfl (fun H => at_neq rfl rfl) ?_
                  refine wo_pure (m' := 2097151) 20 rfl (by kernel_rfl) rfl rfl (fun H => at_pick_f rfl rfl) ?_
                  refine wo_pure (m' := 4194303) 21 rfl (by kernel_rfl) rfl rfl (fun H => at_move rfl) ?_
                  refine bif_ h (fun hb h => ?_) (fun hb h => ?_)
                  · refine wo_set (t := 106) (v := .bool true) (congrArg Value.bool hb) ?_; clear hb
                    refine wo_off (m' := 8388607) 22 rfl (by kernel_rfl) rfl (t := 106) rfl (by decide) rfl ?_
                    refine wo_off (m' := 16777215) 23 rfl (by kernel_rfl) rfl (t := 106) rfl (by decide) rfl ?_
                    refine wo_off (m' := 33554431) 24 rfl (by kernel_rfl) rfl (t := 106) rfl (by decide) rfl ?_
                    refine wo_pure (m' := 67108863) 25 rfl (by kernel_rfl) rfl rfl (fun H => at_pick_t rfl rfl) ?_
                    refine wo_pure (m' := 134217727) 26 rfl (by kernel_rfl) rfl rfl (fun H => at_move rfl) ?_
                    refine wo_off (m' := 268435455) 27 rfl (by kernel_rfl) rfl (t := 111) rfl (by decide) rfl ?_
                    refine wo_off (m' := 536870911) 28 rfl (by kernel_rfl) rfl (t := 111) rfl (by decide) rfl ?_
                    refine wo_off (m' := 1073741823) 29 rfl (by kernel_rfl) rfl (t := 111) rfl (by decide) rfl ?_
                    refine wo_pure (m' := 2147483647) 30 rfl (by kernel_rfl) rfl rfl (fun H => at_pick_t rfl rfl) ?_
                    refine wo_pure (m' := 4294967295) 31 rfl (by kernel_rfl) rfl rfl (fun H => at_move rfl) ?_
                    refine wo_off (m' := 8589934591) 32 rfl (by kernel_rfl) rfl (t := 116) rfl (by decide) rfl ?_
                    refine wo_off (m' := 17179869183) 33 rfl (by kernel_rfl) rfl (t := 116) rfl (by decide) rfl ?_
                    refine wo_off (m' := 34359738367) 34 rfl (by kernel_rfl) rfl (t := 116) rfl (by decide) rfl ?_
                    refine wo_off (m' := 68719476735) 35 rfl (by kernel_rfl) rfl (t := 116) rfl (by decide) rfl ?_
                    refine wo_off (m' := 137438953471) 36 rfl (by kernel_rfl) rfl (t := 116) rfl (by decide) rfl ?_
                    refine wo_off (m' := 274877906943) 37 rfl (by kernel_rfl) rfl (t := 116) rfl (by decide) rfl ?_
                    refine wo_pure (m' := 549755813887) 38 rfl (by kernel_rfl) rfl rfl (fun H => at_pick_t rfl rfl) ?_
                    refine wo_pure (m' := 1099511627775) 39 rfl (by kernel_rfl) rfl rfl (fun H => at_move rfl) ?_
                    refine wo_off (m' := 2199023255551) 40 rfl (by kernel_rfl) rfl (t := 124) rfl (by decide) rfl ?_
                    refine wo_off (m' := 4398046511103) 41 rfl (by kernel_rfl) rfl (t := 124) rfl (by decide) rfl ?_
                    refine wo_off (m' := 8796093022207) 42 rfl (by kernel_rfl) rfl (t := 124) rfl (by decide) rfl ?_
                    refine wo_off (m' := 17592186044415) 43 rfl (by kernel_rfl) rfl (t := 124) rfl (by decide) rfl ?_
                    refine wo_off (m' := 35184372088831) 44 rfl (by kernel_rfl) rfl (t := 124) rfl (by decide) rfl ?_
                    refine wo_off (m' := 70368744177663) 45 rfl (by kernel_rfl) rfl (t := 124) rfl (by decide) rfl ?_
                    refine wo_pure (m' := 140737488355327) 46 rfl (by kernel_rfl) rfl rfl (fun H => at_pick_t rfl rfl) ?_
                    refine wo_done (by kernel_rfl) ?_
                    exact wk_prune [(2, .pointer (some (⟨b1, 0, none⟩ : Addr))), (4, .pointer (some (⟨b5, 0, none⟩ : Addr))), (6, .pointer (some (⟨b18, 0, none⟩ : Addr))), (9, .pointer (some (⟨b24, 0, none⟩ : Addr))), (12, .pointer (some (⟨b85, 0, none⟩ : Addr))), (14, .pointer (some (⟨b100, 0, none⟩ : Addr))), (131, .bool true)] ⟨rfl, rfl, rfl, rfl, rfl, rfl, rfl, trivial⟩ (fun f1 => hJ105 (true) _ f1 h ⟨t_b100, trivial⟩ so)
                  · refine wo_set (t := 106) (v := .bool false) (congrArg Value.bool hb) ?_; clear hb
                    refine wo_pureG (m' := 8388607) 22 rfl (by kernel_rfl) rfl (t := 106) rfl (by decide) rfl (fun H => at_fieldAddr Try.underlying50 rfl rfl sz3 (by decide) rfl) ?_
                    have q184 : cellAt w169.heap (⟨b100, 2, none⟩ : Addr) = some (.int .i64 x95.2.2.1) := (t_b100.cell 2).trans (by first | rfl | simp [List.getElem?_append, ints_len, bools_len])
                    refine wo_loadG (m' := 16777215) 23 (fun H => cellAt H (⟨b100, 2, none⟩ : Addr) = some (.int .i64 x95.2.2.1)) rfl (by kernel_rfl) rfl (t := 106) rfl (by decide) rfl (fun H q184 => at_load (v := .int .i64 x95.2.2.1) Try.underlying3 rfl rfl (q184)) q184 ?_
                    refine wo_pureG (m' := 33554431) 24 rfl (by kernel_rfl) rfl (t := 106) rfl (by decide) rfl (fun H => at_lss rfl rfl) ?_
                    refine wo_pure (m' := 67108863) 25 rfl (by kernel_rfl) rfl rfl (fun H => at_pick_f rfl rfl) ?_
                    refine wo_pure (m' := 134217727) 26 rfl (by kernel_rfl) rfl rfl (fun H => at_move rfl) ?_
                    refine bif_ h (fun hb h => ?_) (fun hb h => ?_)
                    · refine wo_set (t := 111) (v := .bool true) (congrArg Value.bool hb) ?_; clear hb
                      refine wo_off (m' := 268435455) 27 rfl (by kernel_rfl) rfl (t := 111) rfl (by decide) rfl ?_
                      refine wo_off (m' := 536870911) 28 rfl (by kernel_rfl) rfl (t := 111) rfl (by decide) rfl ?_
                      refine wo_off (m' := 1073741823) 29 rfl (by kernel_rfl) rfl (t := 111) rfl (by decide) rfl ?_
                      refine wo_pure (m' := 2147483647) 30 rfl (by kernel_rfl) rfl rfl (fun H => at_pick_t rfl rfl) ?_
                      refine wo_pure (m' := 4294967295) 31 rfl (by kernel_rfl) rfl rfl (fun H => at_move rfl) ?_
                      refine wo_off (m' := 8589934591) 32 rfl (by kernel_rfl) rfl (t := 116) rfl (by decide) rfl ?_
                      refine wo_off (m' := 17179869183) 33 rfl (by kernel_rfl) rfl (t := 116) rfl (by decide) rfl ?_
                      refine wo_off (m' := 34359738367) 34 rfl (by kernel_rfl) rfl (t := 116) rfl (by decide) rfl ?_
                      refine wo_off (m' := 68719476735) 35 rfl (by kernel_rfl) rfl (t := 116) rfl (by decide) rfl ?_
                      refine wo_off (m' := 137438953471) 36 rfl (by kernel_rfl) rfl (t := 116) rfl (by decide) rfl ?_
                      refine wo_off (m' := 274877906943) 37 rfl (by kernel_rfl) rfl (t := 116) rfl (by decide) rfl ?_
                      refine wo_pure (m' := 549755813887) 38 rfl (by kernel_rfl) rfl rfl (fun H => at_pick_t rfl rfl) ?_
                      refine wo_pure (m' := 1099511627775) 39 rfl (by kernel_rfl) rfl rfl (fun H => at_move rfl) ?_
                      refine wo_off (m' := 2199023255551) 40 rfl (by kernel_rfl) rfl (t := 124) rfl (by decide) rfl ?_
                      refine wo_off (m' := 4398046511103) 41 rfl (by kernel_rfl) rfl (t := 124) rfl (by decide) rfl ?_
                      refine wo_off (m' := 8796093022207) 42 rfl (by kernel_rfl) rfl (t := 124) rfl (by decide) rfl ?_
                      refine wo_off (m' := 17592186044415) 43 rfl (by kernel_rfl) rfl (t := 124) rfl (by decide) rfl ?_
                      refine wo_off (m' := 35184372088831) 44 rfl (by kernel_rfl) rfl (t := 124) rfl (by decide) rfl ?_
                      refine wo_off (m' := 70368744177663) 45 rfl (by kernel_rfl) rfl (t := 124) rfl (by decide) rfl ?_
                      refine wo_pure (m' := 140737488355327) 46 rfl (by kernel_rfl) rfl rfl (fun H => at_pick_t rfl rfl) ?_
                      refine wo_done (by kernel_rfl) ?_
                      exact wk_prune [(2, .pointer (some (⟨b1, 0, none⟩ : Addr))), (4, .pointer (some (⟨b5, 0, none⟩ : Addr))), (6, .pointer (some (⟨b18, 0, none⟩ : Addr))), (9, .pointer (some (⟨b24, 0, none⟩ : Addr))), (12, .pointer (some (⟨b85, 0, none⟩ : Addr))), (14, .pointer (some (⟨b100, 0, none⟩ : Addr))), (131, .bool true)] ⟨rfl, rfl, rfl, rfl, rfl, rfl, rfl, trivial⟩ (fun f1 => hJ105 (true) _ f1 h ⟨t_b100, trivial⟩ so)
                    · refine wo_set (t := 111) (v := .bool false) (congrArg Value.bool hb) ?_; clear hb
                      refine wo_pureG (m' := 268435455) 27 rfl (by kernel_rfl) rfl (t := 111) rfl (by decide) rfl (fun H => at_fieldAddr Try.underlying50 rfl rfl sz3 (by decide) rfl) ?_
                      have q185 : cellAt w169.heap (⟨b100, 3, none⟩ : Addr) = some (.int .i64 x95.2.2.2.1) := (t_b100.cell 3).trans (by first | rfl | simp [List.getElem?_append, ints_len, bools_len])
                      refine wo_loadG (m' := 536870911) 28 (fun H => cellAt H (⟨b100, 3, none⟩ : Addr) = some (.int .i64 x95.2.2.2.1)) rfl (by kernel_rfl) rfl (t := 111) rfl (by decide) rfl (fun H q185 => at_load (v := .int .i64 x95.2.2.2.1) Try.underlying3 rfl rfl (q185)) q185 ?_
                      refine wo_pureG (m' := 1073741823) 29 rfl (by kernel_rfl) rfl (t := 111) rfl (by decide) rfl (fun H => at_lss rfl rfl) ?_
                      refine wo_pure (m' := 2147483647) 30 rfl (by kernel_rfl) rfl rfl (fun H => at_pick_f rfl rfl) ?_
                      refine wo_pure (m' := 4294967295) 31 rfl (by kernel_rfl) rfl rfl (fun H => at_move rfl) ?_
                      refine bif_ h (fun hb h => ?_) (fun hb h => ?_)
                      · refine wo_set (t := 116) (v := .bool true) (congrArg Value.bool hb) ?_; clear hb
                        refine wo_off (m' := 8589934591) 32 rfl (by kernel_rfl) rfl (t := 116) rfl (by decide) rfl ?_
                        refine wo_off (m' := 17179869183) 33 rfl (by kernel_rfl) rfl (t := 116) rfl (by decide) rfl ?_
                        refine wo_off (m' := 34359738367) 34 rfl (by kernel_rfl) rfl (t := 116) rfl (by decide) rfl ?_
                        refine wo_off (m' := 68719476735) 35 rfl (by kernel_rfl) rfl (t := 116) rfl (by decide) rfl ?_
                        refine wo_off (m' := 137438953471) 36 rfl (by kernel_rfl) rfl (t := 116) rfl (by decide) rfl ?_
                        refine wo_off (m' := 274877906943) 37 rfl (by kernel_rfl) rfl (t := 116) rfl (by decide) rfl ?_
                        refine wo_pure (m' := 549755813887) 38 rfl (by kernel_rfl) rfl rfl (fun H => at_pick_t rfl rfl) ?_
                        refine wo_pure (m' := 1099511627775) 39 rfl (by kernel_rfl) rfl rfl (fun H => at_move rfl) ?_
                        refine wo_off (m' := 2199023255551) 40 rfl (by kernel_rfl) rfl (t := 124) rfl (by decide) rfl ?_
                        refine wo_off (m' := 4398046511103) 41 rfl (by kernel_rfl) rfl (t := 124) rfl (by decide) rfl ?_
                        refine wo_off (m' := 8796093022207) 42 rfl (by kernel_rfl) rfl (t := 124) rfl (by decide) rfl ?_
                        refine wo_off (m' := 17592186044415) 43 rfl (by kernel_rfl) rfl (t := 124) rfl (by decide) rfl ?_
                        refine wo_off (m' := 35184372088831) 44 rfl (by kernel_rfl) rfl (t := 124) rfl (by decide) rfl ?_
                        refine wo_off (m' := 70368744177663) 45 rfl (by kernel_rfl) rfl (t := 124) rfl (by decide) rfl ?_
                        refine wo_pure (m' := 140737488355327) 46 rfl (by kernel_rfl) rfl rfl (fun H => at_pick_t rfl rfl) ?_
                        refine wo_done (by kernel_rfl) ?_
                        exact wk_prune [(2, .pointer (some (⟨b1, 0, none⟩ : Addr))), (4, .pointer (some (⟨b5, 0, none⟩ : Addr))), (6, .pointer (some (⟨b18, 0, none⟩ : Addr))), (9, .pointer (some (⟨b24, 0, none⟩ : Addr))), (12, .pointer (some (⟨b85, 0, none⟩ : Addr))), (14, .pointer (some (⟨b100, 0, none⟩ : Addr))), (131, .bool true)] ⟨rfl, rfl, rfl, rfl, rfl, rfl, rfl, trivial⟩ (fun f1 => hJ105 (true) _ f1 h ⟨t_b100, trivial⟩ so)
                      · refine wo_set (t := 116) (v := .bool false) (congrArg Value.bool hb) ?_; clear hb
                        refine wo_pureG (m' := 8589934591) 32 rfl (by kernel_rfl) rfl (t := 116) rfl (by decide) rfl (fun H => at_fieldAddr Try.underlying50 rfl rfl sz3 (by decide) rfl) ?_
                        have q186 : cellAt w169.heap (⟨b100, 2, none⟩ : Addr) = some (.int .i64 x95.2.2.1) := (t_b100.cell 2).trans (by first | rfl | simp [List.getElem?_append, ints_len, bools_len])
                        refine wo_loadG (m' := 17179869183) 33 (fun H => cellAt H (⟨b100, 2, none⟩ : Addr) = some (.int .i64 x95.2.2.1)) rfl (by kernel_rfl) rfl (t := 116) rfl (by decide) rfl (fun H q186 => at_load (v := .int .i64 x95.2.2.1) Try.underlying3 rfl rfl (q186)) q186 ?_
                        obtain ⟨x187, q188, h⟩ := h
                        refine wo_loadG (m' := 34359738367) 34 (fun H => cellAt H (⟨b18, 0, none⟩ : Addr) = some (.int .i64 x187)) rfl (by kernel_rfl) rfl (t := 116) rfl (by decide) rfl (fun H q188 => at_load Try.underlying3 rfl rfl q188) q188 ?_
                        refine wo_pureG (m' := 68719476735) 35 rfl (by kernel_rfl) rfl (t := 116) rfl (by decide) rfl (fun H => at_add rfl rfl) ?_
                        refine wo_pureG (m' := 137438953471) 36 rfl (by kernel_rfl) rfl (t := 116) rfl (by decide) rfl (fun H => at_mul rfl rfl) ?_
                        refine wo_pureG (m' := 274877906943) 37 rfl (by kernel_rfl) rfl (t := 116) rfl (by decide) rfl (fun H => at_geq rfl rfl) ?_
                        refine wo_pure (m' := 549755813887) 38 rfl (by kernel_rfl) rfl rfl (fun H => at_pick_f rfl rfl) ?_
                        refine wo_pure (m' := 1099511627775) 39 rfl (by kernel_rfl) rfl rfl (fun H => at_move rfl) ?_
                        refine bif_ h (fun hb h => ?_) (fun hb h => ?_)
                        · refine wo_set (t := 124) (v := .bool true) (congrArg Value.bool hb) ?_; clear hb
                          refine wo_off (m' := 2199023255551) 40 rfl (by kernel_rfl) rfl (t := 124) rfl (by decide) rfl ?_
                          refine wo_off (m' := 4398046511103) 41 rfl (by kernel_rfl) rfl (t := 124) rfl (by decide) rfl ?_
                          refine wo_off (m' := 8796093022207) 42 rfl (by kernel_rfl) rfl (t := 124) rfl (by decide) rfl ?_
                          refine wo_off (m' := 17592186044415) 43 rfl (by kernel_rfl) rfl (t := 124) rfl (by decide) rfl ?_
                          refine wo_off (m' := 35184372088831) 44 rfl (by kernel_rfl) rfl (t := 124) rfl (by decide) rfl ?_
                          refine wo_off (m' := 70368744177663) 45 rfl (by kernel_rfl) rfl (t := 124) rfl (by decide) rfl ?_
                          refine wo_pure (m' := 140737488355327) 46 rfl (by kernel_rfl) rfl rfl (fun H => at_pick_t rfl rfl) ?_
                          refine wo_done (by kernel_rfl) ?_
                          exact wk_prune [(2, .pointer (some (⟨b1, 0, none⟩ : Addr))), (4, .pointer (some (⟨b5, 0, none⟩ : Addr))), (6, .pointer (some (⟨b18, 0, none⟩ : Addr))), (9, .pointer (some (⟨b24, 0, none⟩ : Addr))), (12, .pointer (some (⟨b85, 0, none⟩ : Addr))), (14, .pointer (some (⟨b100, 0, none⟩ : Addr))), (131, .bool true)] ⟨rfl, rfl, rfl, rfl, rfl, rfl, rfl, trivial⟩ (fun f1 => hJ105 (true) _ f1 h ⟨t_b100, trivial⟩ so)
                        · refine wo_set (t := 124) (v := .bool false) (congrArg Value.bool hb) ?_; clear hb
                          refine wo_pureG (m' := 2199023255551) 40 rfl (by kernel_rfl) rfl (t := 124) rfl (by decide) rfl (fun H => at_fieldAddr Try.underlying50 rfl rfl sz3 (by decide) rfl) ?_
                          have q189 : cellAt w169.heap (⟨b100, 3, none⟩ : Addr) = some (.int .i64 x95.2.2.2.1) := (t_b100.cell 3).trans (by first | rfl | simp [List.getElem?_append, ints_len, bools_len])
                          refine wo_loadG (m' := 4398046511103) 41 (fun H => cellAt H (⟨b100, 3, none⟩ : Addr) = some (.int .i64 x95.2.2.2.1)) rfl (by kernel_rfl) rfl (t := 124) rfl (by decide) rfl (fun H q189 => at_load (v := .int .i64 x95.2.2.2.1) Try.underlying3 rfl rfl (q189)) q189 ?_
                          obtain ⟨x190, q191, h⟩ := h
                          refine wo_loadG (m' := 8796093022207) 42 (fun H => cellAt H (⟨b20, 0, none⟩ : Addr) = some (.int .i64 x190)) rfl (by kernel_rfl) rfl (t := 124) rfl (by decide) rfl (fun H q191 => at_load Try.underlying3 rfl rfl q191) q191 ?_
                          refine wo_pureG (m' := 17592186044415) 43 rfl (by kernel_rfl) rfl (t := 124) rfl (by decide) rfl (fun H => at_add rfl rfl) ?_
                          refine wo_pureG (m' := 35184372088831) 44 rfl (by kernel_rfl) rfl (t := 124) rfl (by decide) rfl (fun H => at_mul rfl rfl) ?_
                          refine wo_pureG (m' := 70368744177663) 45 rfl (by kernel_rfl) rfl (t := 124) rfl (by decide) rfl (fun H => at_geq rfl rfl) ?_
                          refine wo_pure (m' := 140737488355327) 46 rfl (by kernel_rfl) rfl rfl (fun H => at_pick_f rfl rfl) ?_
                          refine wo_done (by kernel_rfl) ?_
                          exact wk_prune [(2, .pointer (some (⟨b1, 0, none⟩ : Addr))), (4, .pointer (some (⟨b5, 0, none⟩ : Addr))), (6, .pointer (some (⟨b18, 0, none⟩ : Addr))), (9, .pointer (some (⟨b24, 0, none⟩ : Addr))), (12, .pointer (some (⟨b85, 0, none⟩ : Addr))), (14, .pointer (some (⟨b100, 0, none⟩ : Addr))), (131, .bool (decide ((IntKind.wrap .i64 ((4 : Int) * (IntKind.wrap .i64 (x190 + 1)))) ≤ x95.2.2.2.1)))] ⟨rfl, rfl, rfl, rfl, rfl, rfl, rfl, trivial⟩ (fun f1 => hJ105 ((decide ((IntKind.wrap .i64 ((4 : Int) * (IntKind.wrap .i64 (x190 + 1)))) ≤ x95.2.2.2.1))) _ f1 h ⟨t_b100, trivial⟩ so)
          · rintro _ w98 ⟨_, rfl, h, q192⟩; replace so := so.trans q192
            rcases h with h | h
            · refine rp_none q92 h so ?_; intro w193 h so
              refine wk_blkN ?_
              refine wk_prune [(2, .pointer (some (⟨b1, 0, none⟩ : Addr))), (3, .pointer (some (⟨b3, 0, none⟩ : Addr))), (4, .pointer (some (⟨b5, 0, none⟩ : Addr))), (5, .bool x7), (6, .pointer (some (⟨b18, 0, none⟩ : Addr))), (7, .pointer (some (⟨b20, 0, none⟩ : Addr))), (8, .int .i64 s83), (9, .pointer (some (⟨b24, 0, none⟩ : Addr))), (12, .pointer (some (⟨b85, 0, none⟩ : Addr)))] ⟨rfl, rfl, rfl, rfl, rfl, rfl, rfl, rfl, rfl, trivial⟩ (fun f1 => ?_)
              refine wk_then ?_
              refine wc_seq ?_
              refine wc_seq ?_
              refine wc_join (w0 := w0) (fun (s195 : Bool) => [(2, .pointer (some (⟨b1, 0, none⟩ : Addr))), (3, .pointer (some (⟨b3, 0, none⟩ : Addr))), (4, .pointer (some (⟨b5, 0, none⟩ : Addr))), (6, .pointer (some (⟨b18, 0, none⟩ : Addr))), (7, .pointer (some (⟨b20, 0, none⟩ : Addr))), (9, .pointer (some (⟨b24, 0, none⟩ : Addr))), (191, .bool s195)]) h ?_ ?_
              · rintro s195 w196 f1 h so; refine wk_then ?_
                refine wc_cond rfl h (fun h => ?_) (fun h => ?_)
                · refine wc_seq ?_
                  refine wc_region ?_
                  refine wl_st (v := .bool false) h rfl so (fun q1 q2 => ef_store (sz := sz4) rfl rfl rfl q1 q2) ?_; intro w197 h so
                  refine wl_nil ?_
                  refine wk_prune [(4, .pointer (some (⟨b5, 0, none⟩ : Addr)))] ⟨rfl, trivial⟩ (fun f1 => ?_)
                  refine wk_then ?_
                  refine wc_ret ?_
                  refine wk_thenR ?_
                  refine wk_tk h so ?_; intro w198 h so
                  obtain ⟨x200, q199, h⟩ := h
                  exact wk_retR1 (x := x200) rfl ⟨by decide, _, rfl, loadVar_one Try.underlying4 rfl q199⟩ rfl so h
                · refine wc_skip ?_
                  refine wk_prune [(2, .pointer (some (⟨b1, 0, none⟩ : Addr))), (3, .pointer (some (⟨b3, 0, none⟩ : Addr))), (4, .pointer (some (⟨b5, 0, none⟩ : Addr))), (6, .pointer (some (⟨b18, 0, none⟩ : Addr))), (7, .pointer (some (⟨b20, 0, none⟩ : Addr))), (9, .pointer (some (⟨b24, 0, none⟩ : Addr)))] ⟨rfl, rfl, rfl, rfl, rfl, rfl, trivial⟩ (fun f1 => ?_)
                  refine wk_then ?_
                  refine wc_seq ?_
                  refine wc_seq ?_
                  refine wc_region ?_
                  refine wl_val (at_assign rfl) rfl ?_
                  refine wl_nil ?_
                  refine wk_prune [(2, .pointer (some (⟨b1, 0, none⟩ : Addr))), (3, .pointer (some (⟨b3, 0, none⟩ : Addr))), (4, .pointer (some (⟨b5, 0, none⟩ : Addr))), (6, .pointer (some (⟨b18, 0, none⟩ : Addr))), (7, .pointer (some (⟨b20, 0, none⟩ : Addr))), (9, .pointer (some (⟨b24, 0, none⟩ : Addr))), (18, .int .i64 0)] ⟨rfl, rfl, rfl, rfl, rfl, rfl, rfl, trivial⟩ (fun f1 => ?_)
                  refine wk_then ?_
                  refine wc_block ?_
                  obtain ⟨k201, h⟩ := h
                  refine wc_loop (fun k a w => ∃ (s203 : Int) (f1 : Nat → Value), a = ac 247 (en f1 [(2, .pointer (some (⟨b1, 0, none⟩ : Addr))), (3, .pointer (some (⟨b3, 0, none⟩ : Addr))), (4, .pointer (some (⟨b5, 0, none⟩ : Addr))), (6, .pointer (some (⟨b18, 0, none⟩ : Addr))), (7, .pointer (some (⟨b20, 0, none⟩ : Addr))), (9, .pointer (some (⟨b24, 0, none⟩ : Addr))), (18, .int .i64 s203)]) (mks (D99 :: [])) ∧ Sm w0 w ∧ Fix _ k s203 w.heap) k201 ⟨(0), _, ac_again ⟨rfl, rfl, rfl, rfl, rfl, rfl, rfl, trivial⟩, so, h⟩ ?_
                  rintro k202 a205 w204 ⟨s203, f1, rfl, so, h⟩
                  rcases k202 with _ | k202
                  · exact h.elim
                  replace h := Fix.un h; refine wc_in ?_
                  refine wc_seq ?_
                  refine wc_seq ?_
                  refine wc_region ?_
                  refine wl_val (at_move rfl) rfl ?_
                  obtain ⟨x207, q208, h⟩ := h
                  refine wl_val (at_load Try.underlying32 rfl rfl q208) rfl ?_
                  refine wl_val (at_lenL Try.underlying32 rfl) rfl ?_
                  refine wl_val (at_lss rfl rfl) rfl ?_
                  refine wl_nil ?_
                  refine wk_prune [(2, .pointer (some (⟨b1, 0, none⟩ : Addr))), (3, .pointer (some (⟨b3, 0, none⟩ : Addr))), (4, .pointer (some (⟨b5, 0, none⟩ : Addr))), (6, .pointer (some (⟨b18, 0, none⟩ : Addr))), (7, .pointer (some (⟨b20, 0, none⟩ : Addr))), (9, .pointer (some (⟨b24, 0, none⟩ : Addr))), (18, .int .i64 s203), (195, .bool (decide (s203 < (x207.n : Int))))] ⟨rfl, rfl, rfl, rfl, rfl, rfl, rfl, rfl, trivial⟩ (fun f1 => ?_)
                  refine wk_then ?_
                  refine wc_cond rfl h (fun h => ?_) (fun h => ?_)
                  · refine wc_skip ?_
                    refine wk_prune [(2, .pointer (some (⟨b1, 0, none⟩ : Addr))), (3, .pointer (some (⟨b3, 0, none⟩ : Addr))), (4, .pointer (some (⟨b5, 0, none⟩ : Addr))), (6, .pointer (some (⟨b18, 0, none⟩ : Addr))), (7, .pointer (some (⟨b20, 0, none⟩ : Addr))), (9, .pointer (some (⟨b24, 0, none⟩ : Addr))), (18, .int .i64 s203)] ⟨rfl, rfl, rfl, rfl, rfl, rfl, rfl, trivial⟩ (fun f1 => ?_)
                    refine wk_then ?_
                    refine wc_seq ?_
                    refine wc_block ?_
                    refine wc_seq ?_
                    refine wc_wo [0, 0, 0, 6, 14, 30, 63, 127, 255, 255, 511, 2047] mixed (by kernel_rfl) so ?_; intro w209 hw so; rw [← hw] at h; clear hw
                    refine wo_pure (m' := 4) 2 rfl (by kernel_rfl) rfl rfl (fun H => at_move rfl) ?_
                    obtain ⟨x210, x211, x212, x213, q214, h⟩ := h
                    refine wo_load (m' := 5) 0 (fun H => ldA H (⟨b1, 0, none⟩ : Addr) (c26 x210 x211 x212 x213)) rfl (by kernel_rfl) rfl rfl (fun H q214 => at_loadA (cs := (c26 x210 x211 x212 x213)) Try.underlying26 rfl (by rw [len26]; exact sz26) rfl q214) q214 ?_
                    obtain ⟨x215, q216, h⟩ := h
                    refine wo_load (m' := 7) 1 (fun H => cellAt H (⟨b3, 0, none⟩ : Addr) = some (.slice x215.a x215.n x215.c)) rfl (by kernel_rfl) rfl rfl (fun H q216 => at_load Try.underlying32 rfl rfl q216) q216 ?_
                    obtain ⟨q217, q218, p219, q220, h⟩ := h
                    refine wo_pure (m' := 15) 3 rfl (by kernel_rfl) rfl rfl (fun H => at_ixAddrL Try.underlying32 sz52 (sl_some q220) rfl q217 q218) ?_
                    refine wo_pure (m' := 31) 4 rfl (by kernel_rfl) rfl rfl (fun H => at_fieldAddr Try.underlying52 rfl rfl sz3 (by decide) rfl) ?_
                    obtain ⟨x221, q222, h⟩ := h
                    refine wo_load (m' := 63) 5 (fun H => cellAt H ((p219.add (Int.toNat s203 * 3)).add 0) = some (.int .i64 x221)) rfl (by kernel_rfl) rfl rfl (fun H q222 => at_load Try.underlying3 rfl rfl q222) q222 ?_
                    refine wo_take (m' := 127) 6 [true, true, true] rfl (by kernel_rfl) rfl (by kernel_rfl) ?_
                    refine wl_callF (geom_Blocks.calls _ _ _ _ _ _ _ h) enter9 rfl trivial so ?_; intro x223 w224 h so
                    refine wl_nil ?_
                    refine wk_tq trivial ?_
                    refine wo_pure (m' := 255) 7 rfl (by kernel_rfl) rfl rfl (fun H => at_move rfl) ?_
                    refine wo_pure (m' := 511) 8 rfl (by kernel_rfl) rfl rfl (fun H => at_extract rfl rfl) ?_
                    refine wo_pure (m' := 1023) 9 rfl (by kernel_rfl) rfl rfl (fun H => at_extract rfl rfl) ?_
                    refine wo_pure (m' := 2047) 10 rfl (by kernel_rfl) rfl rfl (fun H => at_assign rfl) ?_
                    refine wo_pure (m' := 4095) 11 rfl (by kernel_rfl) rfl rfl (fun H => at_assign rfl) ?_
                    refine wo_done (by kernel_rfl) ?_
                    refine wk_prune [(2, .pointer (some (⟨b1, 0, none⟩ : Addr))), (3, .pointer (some (⟨b3, 0, none⟩ : Addr))), (4, .pointer (some (⟨b5, 0, none⟩ : Addr))), (6, .pointer (some (⟨b18, 0, none⟩ : Addr))), (7, .pointer (some (⟨b20, 0, none⟩ : Addr))), (9, .pointer (some (⟨b24, 0, none⟩ : Addr))), (18, .int .i64 s203), (19, .int .i64 x223.1), (20, .int .i64 x223.2)] ⟨rfl, rfl, rfl, rfl, rfl, rfl, rfl, rfl, rfl, trivial⟩ (fun f1 => ?_)
                    refine wk_then ?_
                    refine wc_seq ?_
                    refine wc_region ?_
                    refine wl_val (at_assign rfl) rfl ?_
                    refine wl_nil ?_
                    refine wk_prune [(2, .pointer (some (⟨b1, 0, none⟩ : Addr))), (3, .pointer (some (⟨b3, 0, none⟩ : Addr))), (4, .pointer (some (⟨b5, 0, none⟩ : Addr))), (6, .pointer (some (⟨b18, 0, none⟩ : Addr))), (7, .pointer (some (⟨b20, 0, none⟩ : Addr))), (9, .pointer (some (⟨b24, 0, none⟩ : Addr))), (18, .int .i64 s203), (19, .int .i64 x223.1), (20, .int .i64 x223.2), (21, .int .i64 0)] ⟨rfl, rfl, rfl, rfl, rfl, rfl, rfl, rfl, rfl, rfl, trivial⟩ (fun f1 => ?_)
                    refine wk_then ?_
                    refine wc_block ?_
                    obtain ⟨k225, h⟩ := h
                    refine wc_loop (fun k a w => ∃ (s227 : Int) (f1 : Nat → Value), a = ac 247 (en f1 [(2, .pointer (some (⟨b1, 0, none⟩ : Addr))), (3, .pointer (some (⟨b3, 0, none⟩ : Addr))), (4, .pointer (some (⟨b5, 0, none⟩ : Addr))), (6, .pointer (some (⟨b18, 0, none⟩ : Addr))), (7, .pointer (some (⟨b20, 0, none⟩ : Addr))), (9, .pointer (some (⟨b24, 0, none⟩ : Addr))), (18, .int .i64 s203), (19, .int .i64 x223.1), (20, .int .i64 x223.2), (21, .int .i64 s227)]) (mks (D99 :: [])) ∧ Sm w0 w ∧ Fix _ k s227 w.heap) k225 ⟨(0), _, ac_again ⟨rfl, rfl, rfl, rfl, rfl, rfl, rfl, rfl, rfl, rfl, trivial⟩, so, h⟩ ?_
                    rintro k226 a229 w228 ⟨s227, f1, rfl, so, h⟩
                    rcases k226 with _ | k226
                    · exact h.elim
                    replace h := Fix.un h; refine wc_in ?_
                    refine wc_seq ?_
                    refine wc_seq ?_
                    refine wc_region ?_
                    refine wl_val (at_move rfl) rfl ?_
                    refine wl_val (at_move rfl) rfl ?_
                    refine wl_val (at_move rfl) rfl ?_
                    refine wl_val (at_mul rfl rfl) rfl ?_
                    refine wl_val (at_lss rfl rfl) rfl ?_
                    refine wl_nil ?_
                    refine wk_prune [(2, .pointer (some (⟨b1, 0, none⟩ : Addr))), (3, .pointer (some (⟨b3, 0, none⟩ : Addr))), (4, .pointer (some (⟨b5, 0, none⟩ : Addr))), (6, .pointer (some (⟨b18, 0, none⟩ : Addr))), (7, .pointer (some (⟨b20, 0, none⟩ : Addr))), (9, .pointer (some (⟨b24, 0, none⟩ : Addr))), (18, .int .i64 s203), (19, .int .i64 x223.1), (20, .int .i64 x223.2), (21, .int .i64 s227), (212, .bool (decide (s227 < (IntKind.wrap .i64 (x223.1 * x223.2)))))] ⟨rfl, rfl, rfl, rfl, rfl, rfl, rfl, rfl, rfl, rfl, rfl, trivial⟩ (fun f1 => ?_)
                    refine wk_then ?_
                    refine wc_cond rfl h (fun h => ?_) (fun h => ?_)
                    · refine wc_skip ?_
                      refine wk_prune [(2, .pointer (some (⟨b1, 0, none⟩ : Addr))), (3, .pointer (some (⟨b3, 0, none⟩ : Addr))), (4, .pointer (some (⟨b5, 0, none⟩ : Addr))), (6, .pointer (some (⟨b18, 0, none⟩ : Addr))), (7, .pointer (some (⟨b20, 0, none⟩ : Addr))), (9, .pointer (some (⟨b24, 0, none⟩ : Addr))), (18, .int .i64 s203), (19, .int .i64 x223.1), (20, .int .i64 x223.2), (21, .int .i64 s227)] ⟨rfl, rfl, rfl, rfl, rfl, rfl, rfl, rfl, rfl, rfl, trivial⟩ (fun f1 => ?_)
                      refine wk_then ?_
                      refine wc_seq ?_
                      refine wc_block ?_
                      refine wc_seq ?_
                      refine wc_join (w0 := w0) (fun (s232 : Bool) => [(2, .pointer (some (⟨b1, 0, none⟩ : Addr))), (3, .pointer (some (⟨b3, 0, none⟩ : Addr))), (4, .pointer (some (⟨b5, 0, none⟩ : Addr))), (6, .pointer (some (⟨b18, 0, none⟩ : Addr))), (7, .pointer (some (⟨b20, 0, none⟩ : Addr))), (9, .pointer (some (⟨b24, 0, none⟩ : Addr))), (18, .int .i64 s203), (19, .int .i64 x223.1), (20, .int .i64 x223.2), (21, .int .i64 s227), (246, .bool s232)]) h ?_ ?_
                      · rintro s232 w233 f1 h so; refine wk_then ?_
                        refine wc_cond rfl h (fun h => ?_) (fun h => ?_)
                        · refine wc_seq ?_
                          refine wc_region ?_
                          refine wl_st (v := .bool false) h rfl so (fun q1 q2 => ef_store (sz := sz4) rfl rfl rfl q1 q2) ?_; intro w234 h so
                          refine wl_nil ?_
                          refine wk_prune [(4, .pointer (some (⟨b5, 0, none⟩ : Addr)))] ⟨rfl, trivial⟩ (fun f1 => ?_)
                          refine wk_then ?_
                          refine wc_ret ?_
                          refine wk_blkR ?_
                          refine wk_thenR ?_
                          refine wk_thenR ?_
                          refine wk_blkR ?_
                          refine wk_blkR ?_
                          refine wk_thenR ?_
                          refine wk_thenR ?_
                          refine wk_blkR ?_
                          refine wk_thenR ?_
                          refine wk_tk h so ?_; intro w235 h so
                          obtain ⟨x237, q236, h⟩ := h
                          exact wk_retR1 (x := x237) rfl ⟨by decide, _, rfl, loadVar_one Try.underlying4 rfl q236⟩ rfl so h
                        · refine wc_skip ?_
                          refine wk_blkN ?_
                          refine wk_prune [(2, .pointer (some (⟨b1, 0, none⟩ : Addr))), (3, .pointer (some (⟨b3, 0, none⟩ : Addr))), (4, .pointer (some (⟨b5, 0, none⟩ : Addr))), (6, .pointer (some (⟨b18, 0, none⟩ : Addr))), (7, .pointer (some (⟨b20, 0, none⟩ : Addr))), (9, .pointer (some (⟨b24, 0, none⟩ : Addr))), (18, .int .i64 s203), (19, .int .i64 x223.1), (20, .int .i64 x223.2), (21, .int .i64 s227)] ⟨rfl, rfl, rfl, rfl, rfl, rfl, rfl, rfl, rfl, rfl, trivial⟩ (fun f1 => ?_)
                          refine wk_then ?_
                          refine wc_region ?_
                          refine wl_val (at_move rfl) rfl ?_
                          refine wl_val (at_add rfl rfl) rfl ?_
                          refine wl_val (at_assign rfl) rfl ?_
                          refine wl_nil ?_
                          exact wk_again ⟨((IntKind.wrap .i64 (s227 + 1))), _, ac_again ⟨rfl, rfl, rfl, rfl, rfl, rfl, rfl, rfl, rfl, rfl, trivial⟩, so, h⟩
                      · intro J231 h hJ231
                        refine wc_wo [0, 0, 2, 6, 15, 31, 63, 63, 191, 447, 1023, 2047, 4095, 8191, 8191, 32767, 65535, 8191, 8191, 401407, 925695, 8191, 2105343, 8265727, 8191, 8191, 50339839, 134094847, 268435455, 536870911, 1073741823, 2147483647] mixed (by kernel_rfl) so ?_; intro w238 hw so; rw [← hw] at h; clear hw
                        refine wo_pure (m' := 1) 0 rfl (by kernel_rfl) rfl rfl (fun H => at_move rfl) ?_
                        obtain ⟨x239, q240, h⟩ := h
                        refine wo_load (m' := 3) 1 (fun H => cellAt H (⟨b18, 0, none⟩ : Addr) = some (.int .i64 x239)) rfl (by kernel_rfl) rfl rfl (fun H q240 => at_load Try.underlying3 rfl rfl q240) q240 ?_
                        refine wo_pure (m' := 7) 2 rfl (by kernel_rfl) rfl rfl (fun H => at_add rfl rfl) ?_
                        refine wo_pure (m' := 15) 3 rfl (by kernel_rfl) rfl rfl (fun H => at_mul rfl rfl) ?_
                        refine wo_pure (m' := 31) 4 rfl (by kernel_rfl) rfl rfl (fun H => at_gtr rfl rfl) ?_
                        refine wo_pure (m' := 63) 5 rfl (by kernel_rfl) rfl rfl (fun H => at_move rfl) ?_
                        refine bif_ h (fun hb h => ?_) (fun hb h => ?_)
                        · refine wo_set (t := 220) (v := .bool true) (congrArg Value.bool hb) ?_; clear hb
                          refine wo_off (m' := 127) 6 rfl (by kernel_rfl) rfl (t := 220) rfl (by decide) rfl ?_
                          refine wo_off (m' := 255) 7 rfl (by kernel_rfl) rfl (t := 220) rfl (by decide) rfl ?_
                          refine wo_off (m' := 511) 8 rfl (by kernel_rfl) rfl (t := 220) rfl (by decide) rfl ?_
                          refine wo_off (m' := 1023) 9 rfl (by kernel_rfl) rfl (t := 220) rfl (by decide) rfl ?_
                          refine wo_off (m' := 2047) 10 rfl (by kernel_rfl) rfl (t := 220) rfl (by decide) rfl ?_
                          refine wo_pure (m' := 4095) 11 rfl (by kernel_rfl) rfl rfl (fun H => at_pick_t rfl rfl) ?_
                          refine wo_pure (m' := 8191) 12 rfl (by kernel_rfl) rfl rfl (fun H => at_move rfl) ?_
                          refine wo_off (m' := 16383) 13 rfl (by kernel_rfl) rfl (t := 227) rfl (by decide) rfl ?_
                          refine wo_off (m' := 32767) 14 rfl (by kernel_rfl) rfl (t := 227) rfl (by decide) rfl ?_
                          refine wo_off (m' := 65535) 15 rfl (by kernel_rfl) rfl (t := 227) rfl (by decide) rfl ?_
                          refine wo_off (m' := 131071) 16 rfl (by kernel_rfl) rfl (t := 227) rfl (by decide) rfl ?_
                          refine wo_off (m' := 262143) 17 rfl (by kernel_rfl) rfl (t := 227) rfl (by decide) rfl ?_
                          refine wo_off (m' := 524287) 18 rfl (by kernel_rfl) rfl (t := 227) rfl (by decide) rfl ?_
                          refine wo_off (m' := 1048575) 19 rfl (by kernel_rfl) rfl (t := 227) rfl (by decide) rfl ?_
                          refine wo_off (m' := 2097151) 20 rfl (by kernel_rfl) rfl (t := 227) rfl (by decide) rfl ?_
                          refine wo_off (m' := 4194303) 21 rfl (by kernel_rfl) rfl (t := 227) rfl (by decide) rfl ?_
                          refine wo_off (m' := 8388607) 22 rfl (by kernel_rfl) rfl (t := 227) rfl (by decide) rfl ?_
                          refine wo_off (m' := 16777215) 23 rfl (by kernel_rfl) rfl (t := 227) rfl (by decide) rfl ?_
                          refine wo_off (m' := 33554431) 24 rfl (by kernel_rfl) rfl (t := 227) rfl (by decide) rfl ?_
                          refine wo_off (m' := 67108863) 25 rfl (by kernel_rfl) rfl (t := 227) rfl (by decide) rfl ?_
                          refine wo_off (m' := 134217727) 26 rfl (by kernel_rfl) rfl (t := 227) rfl (by decide) rfl ?_
                          refine wo_off (m' := 268435455) 27 rfl (by kernel_rfl) rfl (t := 227) rfl (by decide) rfl ?_
                          refine wo_off (m' := 536870911) 28 rfl (by kernel_rfl) rfl (t := 227) rfl (by decide) rfl ?_
                          refine wo_off (m' := 1073741823) 29 rfl (by kernel_rfl) rfl (t := 227) rfl (by decide) rfl ?_
                          refine wo_off (m' := 2147483647) 30 rfl (by kernel_rfl) rfl (t := 227) rfl (by decide) rfl ?_
                          refine wo_pure (m' := 4294967295) 31 rfl (by kernel_rfl) rfl rfl (fun H => at_pick_t rfl rfl) ?_
                          refine wo_done (by kernel_rfl) ?_
                          exact wk_prune [(2, .pointer (some (⟨b1, 0, none⟩ : Addr))), (3, .pointer (some (⟨b3, 0, none⟩ : Addr))), (4, .pointer (some (⟨b5, 0, none⟩ : Addr))), (6, .pointer (some (⟨b18, 0, none⟩ : Addr))), (7, .pointer (some (⟨b20, 0, none⟩ : Addr))), (9, .pointer (some (⟨b24, 0, none⟩ : Addr))), (18, .int .i64 s203), (19, .int .i64 x223.1), (20, .int .i64 x223.2), (21, .int .i64 s227), (246, .bool true)] ⟨rfl, rfl, rfl, rfl, rfl, rfl, rfl, rfl, rfl, rfl, rfl, trivial⟩ (fun f1 => hJ231 (true) _ f1 h so)
                        · refine wo_set (t := 220) (v := .bool false) (congrArg Value.bool hb) ?_; clear hb
                          refine wo_pureG (m' := 127) 6 rfl (by kernel_rfl) rfl (t := 220) rfl (by decide) rfl (fun H => at_move rfl) ?_
                          obtain ⟨x241, q242, h⟩ := h
                          refine wo_loadG (m' := 255) 7 (fun H => cellAt H (⟨b20, 0, none⟩ : Addr) = some (.int .i64 x241)) rfl (by kernel_rfl) rfl (t := 220) rfl (by decide) rfl (fun H q242 => at_load Try.underlying3 rfl rfl q242) q242 ?_
                          refine wo_pureG (m' := 511) 8 rfl (by kernel_rfl) rfl (t := 220) rfl (by decide) rfl (fun H => at_add rfl rfl) ?_
                          refine wo_pureG (m' := 1023) 9 rfl (by kernel_rfl) rfl (t := 220) rfl (by decide) rfl (fun H => at_mul rfl rfl) ?_
                          refine wo_pureG (m' := 2047) 10 rfl (by kernel_rfl) rfl (t := 220) rfl (by decide) rfl (fun H => at_gtr rfl rfl) ?_
                          refine wo_pure (m' := 4095) 11 rfl (by kernel_rfl) rfl rfl (fun H => at_pick_f rfl rfl) ?_
                          refine wo_pure (m' := 8191) 12 rfl (by kernel_rfl) rfl rfl (fun H => at_move rfl) ?_
                          refine bif_ h (fun hb h => ?_) (fun hb h => ?_)
                          · refine wo_set (t := 227) (v := .bool true) (congrArg Value.bool hb) ?_; clear hb
                            refine wo_off (m' := 16383) 13 rfl (by kernel_rfl) rfl (t := 227) rfl (by decide) rfl ?_
                            refine wo_off (m' := 32767) 14 rfl (by kernel_rfl) rfl (t := 227) rfl (by decide) rfl ?_
                            refine wo_off (m' := 65535) 15 rfl (by kernel_rfl) rfl (t := 227) rfl (by decide) rfl ?_
                            refine wo_off (m' := 131071) 16 rfl (by kernel_rfl) rfl (t := 227) rfl (by decide) rfl ?_
                            refine wo_off (m' := 262143) 17 rfl (by kernel_rfl) rfl (t := 227) rfl (by decide) rfl ?_
                            refine wo_off (m' := 524287) 18 rfl (by kernel_rfl) rfl (t := 227) rfl (by decide) rfl ?_
                            refine wo_off (m' := 1048575) 19 rfl (by kernel_rfl) rfl (t := 227) rfl (by decide) rfl ?_
                            refine wo_off (m' := 2097151) 20 rfl (by kernel_rfl) rfl (t := 227) rfl (by decide) rfl ?_
                            refine wo_off (m' := 4194303) 21 rfl (by kernel_rfl) rfl (t := 227) rfl (by decide) rfl ?_
                            refine wo_off (m' := 8388607) 22 rfl (by kernel_rfl) rfl (t := 227) rfl (by decide) rfl ?_
                            refine wo_off (m' := 16777215) 23 rfl (by kernel_rfl) rfl (t := 227) rfl (by decide) rfl ?_
                            refine wo_off (m' := 33554431) 24 rfl (by kernel_rfl) rfl (t := 227) rfl (by decide) rfl ?_
                            refine wo_off (m' := 67108863) 25 rfl (by kernel_rfl) rfl (t := 227) rfl (by decide) rfl ?_
                            refine wo_off (m' := 134217727) 26 rfl (by kernel_rfl) rfl (t := 227) rfl (by decide) rfl ?_
                            refine wo_off (m' := 268435455) 27 rfl (by kernel_rfl) rfl (t := 227) rfl (by decide) rfl ?_
                            refine wo_off (m' := 536870911) 28 rfl (by kernel_rfl) rfl (t := 227) rfl (by decide) rfl ?_
                            refine wo_off (m' := 1073741823) 29 rfl (by kernel_rfl) rfl (t := 227) rfl (by decide) rfl ?_
                            refine wo_off (m' := 2147483647) 30 rfl (by kernel_rfl) rfl (t := 227) rfl (by decide) rfl ?_
                            refine wo_pure (m' := 4294967295) 31 rfl (by kernel_rfl) rfl rfl (fun H => at_pick_t rfl rfl) ?_
                            refine wo_done (by kernel_rfl) ?_
                            exact wk_prune [(2, .pointer (some (⟨b1, 0, none⟩ : Addr))), (3, .pointer (some (⟨b3, 0, none⟩ : Addr))), (4, .pointer (some (⟨b5, 0, none⟩ : Addr))), (6, .pointer (some (⟨b18, 0, none⟩ : Addr))), (7, .pointer (some (⟨b20, 0, none⟩ : Addr))), (9, .pointer (some (⟨b24, 0, none⟩ : Addr))), (18, .int .i64 s203), (19, .int .i64 x223.1), (20, .int .i64 x223.2), (21, .int .i64 s227), (246, .bool true)] ⟨rfl, rfl, rfl, rfl, rfl, rfl, rfl, rfl, rfl, rfl, rfl, trivial⟩ (fun f1 => hJ231 (true) _ f1 h so)
                          · refine wo_set (t := 227) (v := .bool false) (congrArg Value.bool hb) ?_; clear hb
                            refine wo_pureG (m' := 24575) 14 rfl (by kernel_rfl) rfl (t := 227) rfl (by decide) rfl (fun H => at_move rfl) ?_
                            refine wo_pureG (m' := 155647) 17 rfl (by kernel_rfl) rfl (t := 227) rfl (by decide) rfl (fun H => at_move rfl) ?_
                            refine wo_pureG (m' := 417791) 18 rfl (by kernel_rfl) rfl (t := 227) rfl (by decide) rfl (fun H => at_move rfl) ?_
                            obtain ⟨q243, h⟩ := h
                            refine wo_pureG (m' := 942079) 19 rfl (by kernel_rfl) rfl (t := 227) rfl (by decide) rfl (fun H => at_quo rfl rfl q243) ?_
                            refine wo_pureG (m' := 1990655) 20 rfl (by kernel_rfl) rfl (t := 227) rfl (by decide) rfl (fun H => at_mul rfl rfl) ?_
                            refine wo_pureG (m' := 18767871) 24 rfl (by kernel_rfl) rfl (t := 227) rfl (by decide) rfl (fun H => at_move rfl) ?_
                            refine wo_pureG (m' := 52322303) 25 rfl (by kernel_rfl) rfl (t := 227) rfl (by decide) rfl (fun H => at_move rfl) ?_
                            obtain ⟨q244, h⟩ := h
                            refine wo_pureG (m' := 119431167) 26 rfl (by kernel_rfl) rfl (t := 227) rfl (by decide) rfl (fun H => at_rem rfl rfl q244) ?_
                            obtain ⟨x245, q246, h⟩ := h
                            refine wo_loadG (m' := 119439359) 13 (fun H => cellAt H (⟨b24, 0, none⟩ : Addr) = some (.slice x245.a x245.n x245.c)) rfl (by kernel_rfl) rfl (t := 227) rfl (by decide) rfl (fun H q246 => at_load Try.underlying55 rfl rfl q246) q246 ?_
                            obtain ⟨q247, q248, p249, q250, h⟩ := h
                            refine wo_pureG (m' := 119472127) 15 rfl (by kernel_rfl) rfl (t := 227) rfl (by decide) rfl (fun H => at_ixAddrL Try.underlying55 sz56 (sl_some q250) rfl q247 q248) ?_
                            obtain ⟨x251, q252, h⟩ := h
                            refine wo_loadG (m' := 119537663) 16 (fun H => cellAt H (p249.add (Int.toNat s203 * 1)) = some (.slice x251.a x251.n x251.c)) rfl (by kernel_rfl) rfl (t := 227) rfl (by decide) rfl (fun H q252 => at_load Try.underlying56 rfl rfl q252) q252 ?_
                            obtain ⟨x253, q254, h⟩ := h
                            refine wo_loadG (m' := 121634815) 21 (fun H => cellAt H (⟨b18, 0, none⟩ : Addr) = some (.int .i64 x253)) rfl (by kernel_rfl) rfl (t := 227) rfl (by decide) rfl (fun H q254 => at_load Try.underlying3 rfl rfl q254) q254 ?_
                            refine wo_pureG (m' := 125829119) 22 rfl (by kernel_rfl) rfl (t := 227) rfl (by decide) rfl (fun H => at_add rfl rfl) ?_
                            refine wo_pureG (m' := 134217727) 23 rfl (by kernel_rfl) rfl (t := 227) rfl (by decide) rfl (fun H => at_mul rfl rfl) ?_
                            refine wo_pureG (m' := 268435455) 27 rfl (by kernel_rfl) rfl (t := 227) rfl (by decide) rfl (fun H => at_add rfl rfl) ?_
                            obtain ⟨q255, q256, p257, q258, h⟩ := h
                            refine wo_pureG (m' := 536870911) 28 rfl (by kernel_rfl) rfl (t := 227) rfl (by decide) rfl (fun H => at_ixAddrL Try.underlying56 sz3 (sl_some q258) rfl q255 q256) ?_
                            obtain ⟨x259, q260, h⟩ := h
                            refine wo_loadG (m' := 1073741823) 29 (fun H => cellAt H (p257.add (Int.toNat (IntKind.wrap .i64 ((IntKind.wrap .i64 ((IntKind.wrap .i64 ((IntKind.wrap .i64 (Int.tdiv s227 x223.1)) * 4)) * (IntKind.wrap .i64 (x253 + 1)))) + (Int.tmod s227 x223.1))) * 1)) = some (.int .i64 x259)) rfl (by kernel_rfl) rfl (t := 227) rfl (by decide) rfl (fun H q260 => at_load Try.underlying3 rfl rfl q260) q260 ?_
                            refine wo_pureG (m' := 2147483647) 30 rfl (by kernel_rfl) rfl (t := 227) rfl (by decide) rfl (fun H => at_eql rfl rfl) ?_
                            refine wo_pure (m' := 4294967295) 31 rfl (by kernel_rfl) rfl rfl (fun H => at_pick_f rfl rfl) ?_
                            refine wo_done (by kernel_rfl) ?_
                            exact wk_prune [(2, .pointer (some (⟨b1, 0, none⟩ : Addr))), (3, .pointer (some (⟨b3, 0, none⟩ : Addr))), (4, .pointer (some (⟨b5, 0, none⟩ : Addr))), (6, .pointer (some (⟨b18, 0, none⟩ : Addr))), (7, .pointer (some (⟨b20, 0, none⟩ : Addr))), (9, .pointer (some (⟨b24, 0, none⟩ : Addr))), (18, .int .i64 s203), (19, .int .i64 x223.1), (20, .int .i64 x223.2), (21, .int .i64 s227), (246, .bool (x259 == 0))] ⟨rfl, rfl, rfl, rfl, rfl, rfl, rfl, rfl, rfl, rfl, rfl, trivial⟩ (fun f1 => hJ231 ((x259 == 0)) _ f1 h so)
                    · refine wc_exit ?_
                      refine wk_thenE ?_
                      refine wk_thenE ?_
                      refine wk_blkE ?_
                      refine wk_blkN ?_
                      refine wk_prune [(2, .pointer (some (⟨b1, 0, none⟩ : Addr))), (3, .pointer (some (⟨b3, 0, none⟩ : Addr))), (4, .pointer (some (⟨b5, 0, none⟩ : Addr))), (6, .pointer (some (⟨b18, 0, none⟩ : Addr))), (7, .pointer (some (⟨b20, 0, none⟩ : Addr))), (9, .pointer (some (⟨b24, 0, none⟩ : Addr))), (18, .int .i64 s203)] ⟨rfl, rfl, rfl, rfl, rfl, rfl, rfl, trivial⟩ (fun f1 => ?_)
                      refine wk_then ?_
                      refine wc_region ?_
                      refine wl_val (at_move rfl) rfl ?_
                      refine wl_val (at_add rfl rfl) rfl ?_
                      refine wl_val (at_assign rfl) rfl ?_
                      refine wl_nil ?_
                      exact wk_again ⟨((IntKind.wrap .i64 (s203 + 1))), _, ac_again ⟨rfl, rfl, rfl, rfl, rfl, rfl, rfl, trivial⟩, so, h⟩
                  · refine wc_exit ?_
                    refine wk_thenE ?_
                    refine wk_thenE ?_
                    refine wk_blkE ?_
                    refine wk_prune [(4, .pointer (some (⟨b5, 0, none⟩ : Addr)))] ⟨rfl, trivial⟩ (fun f1 => ?_)
                    refine wk_then ?_
                    refine wc_seq ?_
                    refine wc_region ?_
                    refine wl_st (v := .bool true) h rfl so (fun q1 q2 => ef_store (sz := sz4) rfl rfl rfl q1 q2) ?_; intro w261 h so
                    refine wl_nil ?_
                    refine wk_prune [(4, .pointer (some (⟨b5, 0, none⟩ : Addr)))] ⟨rfl, trivial⟩ (fun f1 => ?_)
                    refine wk_then ?_
                    refine wc_ret ?_
                    refine wk_tk h so ?_; intro w262 h so
                    obtain ⟨x264, q263, h⟩ := h
                    exact wk_retR1 (x := x264) rfl ⟨by decide, _, rfl, loadVar_one Try.underlying4 rfl q263⟩ rfl so h
              · intro J194 h hJ194
                refine wc_region ?_
                refine wl_val (at_move rfl) rfl ?_
                refine wl_val (at_not rfl) rfl ?_
                refine wl_val (at_move rfl) rfl ?_
                refine bif_ h (fun hb h => ?_) (fun hb h => ?_)
                · refine wl_set (t := 183) (v := .bool true) (congrArg Value.bool hb) ?_; clear hb
                  refine wl_off (t := 183) rfl (by decide) rfl ?_
                  refine wl_off (t := 183) rfl (by decide) rfl ?_
                  refine wl_off (t := 183) rfl (by decide) rfl ?_
                  refine wl_off (t := 183) rfl (by decide) rfl ?_
                  refine wl_off (t := 183) rfl (by decide) rfl ?_
                  refine wl_off (t := 183) rfl (by decide) rfl ?_
                  refine wl_off (t := 183) rfl (by decide) rfl ?_
                  refine wl_val (at_pick_t rfl rfl) rfl ?_
                  refine wl_nil ?_
                  exact wk_prune [(2, .pointer (some (⟨b1, 0, none⟩ : Addr))), (3, .pointer (some (⟨b3, 0, none⟩ : Addr))), (4, .pointer (some (⟨b5, 0, none⟩ : Addr))), (6, .pointer (some (⟨b18, 0, none⟩ : Addr))), (7, .pointer (some (⟨b20, 0, none⟩ : Addr))), (9, .pointer (some (⟨b24, 0, none⟩ : Addr))), (191, .bool true)] ⟨rfl, rfl, rfl, rfl, rfl, rfl, rfl, trivial⟩ (fun f1 => hJ194 (true) _ f1 h so)
                · refine wl_set (t := 183) (v := .bool false) (congrArg Value.bool hb) ?_; clear hb
                  refine wl_on (t := 183) rfl (by decide) rfl ?_
                  obtain ⟨x265, q266, h⟩ := h
                  refine wl_val (at_load Try.underlying3 rfl rfl q266) rfl ?_
                  refine wl_on (t := 183) rfl (by decide) rfl ?_
                  refine wl_val (at_move rfl) rfl ?_
                  refine wl_on (t := 183) rfl (by decide) rfl ?_
                  obtain ⟨x267, q268, h⟩ := h
                  refine wl_val (at_load Try.underlying3 rfl rfl q268) rfl ?_
                  refine wl_on (t := 183) rfl (by decide) rfl ?_
                  refine wl_val (at_mul rfl rfl) rfl ?_
                  refine wl_on (t := 183) rfl (by decide) rfl ?_
                  obtain ⟨x269, q270, h⟩ := h
                  refine wl_val (at_load Try.underlying3 rfl rfl q270) rfl ?_
                  refine wl_on (t := 183) rfl (by decide) rfl ?_
                  refine wl_val (at_mul rfl rfl) rfl ?_
                  refine wl_on (t := 183) rfl (by decide) rfl ?_
                  refine wl_val (at_neq rfl rfl) rfl ?_
                  refine wl_val (at_pick_f rfl rfl) rfl ?_
                  refine wl_nil ?_
                  exact wk_prune [(2, .pointer (some (⟨b1, 0, none⟩ : Addr))), (3, .pointer (some (⟨b3, 0, none⟩ : Addr))), (4, .pointer (some (⟨b5, 0, none⟩ : Addr))), (6, .pointer (some (⟨b18, 0, none⟩ : Addr))), (7, .pointer (some (⟨b20, 0, none⟩ : Addr))), (9, .pointer (some (⟨b24, 0, none⟩ : Addr))), (191, .bool (x265 != (IntKind.wrap .i64 ((IntKind.wrap .i64 (s83 * x267)) * x269))))] ⟨rfl, rfl, rfl, rfl, rfl, rfl, rfl, trivial⟩ (fun f1 => hJ194 ((x265 != (IntKind.wrap .i64 ((IntKind.wrap .i64 (s83 * x267)) * x269)))) _ f1 h so)
            · refine rp_jump h so ?_; intro w271 h so; refine wc_ret ?_
              refine wk_blkR ?_
              refine wk_thenR ?_
              refine wk_tk h so ?_; intro w272 h so
              obtain ⟨x274, q273, h⟩ := h
              exact wk_retR1 (x := x274) rfl ⟨by decide, _, rfl, loadVar_one Try.underlying4 rfl q273⟩ rfl so h
        · intro J82 h hJ82
          refine wc_seq ?_
          refine wc_region ?_
          refine wl_val (at_load (v := .slice a1.a a1.n a1.c) Try.underlying32 rfl rfl ((t_b3.cell 0).trans (by first | rfl | simp [List.getElem?_append, ints_len, bools_len]))) rfl ?_
          refine wl_val (at_lenL Try.underlying32 rfl) rfl ?_
          refine wl_val (at_eql rfl rfl) rfl ?_
          refine wl_nil ?_
          refine wk_prune [(2, .pointer (some (⟨b1, 0, none⟩ : Addr))), (3, .pointer (some (⟨b3, 0, none⟩ : Addr))), (4, .pointer (some (⟨b5, 0, none⟩ : Addr))), (5, .bool x7), (6, .pointer (some (⟨b18, 0, none⟩ : Addr))), (7, .pointer (some (⟨b20, 0, none⟩ : Addr))), (8, .int .i64 s28.1), (9, .pointer (some (⟨b24, 0, none⟩ : Addr))), (74, .bool ((a1.n : Int) == 1))] ⟨rfl, rfl, rfl, rfl, rfl, rfl, rfl, rfl, rfl, trivial⟩ (fun f1 => ?_)
          refine wk_then ?_
          refine wc_cond rfl h (fun h => ?_) (fun h => ?_)
          · refine wc_region ?_
            refine wl_val (at_assign rfl) rfl ?_
            refine wl_nil ?_
            exact wk_prune [(2, .pointer (some (⟨b1, 0, none⟩ : Addr))), (3, .pointer (some (⟨b3, 0, none⟩ : Addr))), (4, .pointer (some (⟨b5, 0, none⟩ : Addr))), (5, .bool x7), (6, .pointer (some (⟨b18, 0, none⟩ : Addr))), (7, .pointer (some (⟨b20, 0, none⟩ : Addr))), (8, .int .i64 1), (9, .pointer (some (⟨b24, 0, none⟩ : Addr)))] ⟨rfl, rfl, rfl, rfl, rfl, rfl, rfl, rfl, trivial⟩ (fun f1 => hJ82 (1) _ f1 h ⟨t_b1, t_b3, t_b5, t_b18, t_b20, trivial⟩ so)
          · refine wc_skip ?_
            exact wk_prune [(2, .pointer (some (⟨b1, 0, none⟩ : Addr))), (3, .pointer (some (⟨b3, 0, none⟩ : Addr))), (4, .pointer (some (⟨b5, 0, none⟩ : Addr))), (5, .bool x7), (6, .pointer (some (⟨b18, 0, none⟩ : Addr))), (7, .pointer (some (⟨b20, 0, none⟩ : Addr))), (8, .int .i64 s28.1), (9, .pointer (some (⟨b24, 0, none⟩ : Addr)))] ⟨rfl, rfl, rfl, rfl, rfl, rfl, rfl, rfl, trivial⟩ (fun f1 => hJ82 (s28.1) _ f1 h ⟨t_b1, t_b3, t_b5, t_b18, t_b20, trivial⟩ so)
  · intro J10 h hJ10
    refine wc_region ?_
    refine wl_val (at_loadA (cs := (c26 a0_0 a0_1 a0_2 a0_3)) Try.underlying26 rfl (by rw [len26]; exact sz26) rfl (ldA_full t_b1)) rfl ?_
    refine wl_val (at_load (v := .slice a1.a a1.n a1.c) Try.underlying32 rfl rfl ((t_b3.cell 0).trans (by first | rfl | simp [List.getElem?_append, ints_len, bools_len]))) rfl ?_
    refine wl_callF (geom_Parts.calls _ _ _ _ _ _ _ h) enter13 rfl trivial so ?_; intro x275 w276 h so
    obtain ⟨q277, h⟩ := h
    replace t_b1 := pv_bk q277 t_b1 (by simp)
    replace t_b3 := pv_bk q277 t_b3 (by simp)
    replace t_b5 := pv_bk q277 t_b5 (by simp)
    refine wl_val (at_neq rfl rfl) rfl ?_
    refine wl_val (at_move rfl) rfl ?_
    refine bif_ h (fun hb h => ?_) (fun hb h => ?_)
    · refine wl_set (t := 27) (v := .bool true) (congrArg Value.bool hb) ?_; clear hb
      refine wl_off (t := 27) rfl (by decide) rfl ?_
      refine wl_off (t := 27) rfl (by decide) rfl ?_
      refine wl_val (at_pick_t rfl rfl) rfl ?_
      refine wl_nil ?_
      exact wk_prune [(2, .pointer (some (⟨b1, 0, none⟩ : Addr))), (3, .pointer (some (⟨b3, 0, none⟩ : Addr))), (4, .pointer (some (⟨b5, 0, none⟩ : Addr))), (5, .bool x7), (30, .bool true)] ⟨rfl, rfl, rfl, rfl, rfl, trivial⟩ (fun f1 => hJ10 (true) _ f1 h ⟨t_b1, t_b3, t_b5, trivial⟩ so)
    · refine wl_set (t := 27) (v := .bool false) (congrArg Value.bool hb) ?_; clear hb
      refine wl_on (t := 27) rfl (by decide) rfl ?_
      refine wl_val (at_loadA (cs := (c26 a0_0 a0_1 a0_2 a0_3)) Try.underlying26 rfl (by rw [len26]; exact sz26) rfl (ldA_full t_b1)) rfl ?_
      refine wl_on (t := 27) rfl (by decide) rfl ?_
      refine wl_callF (mosaiclaw14_many.calls _ _ _ _ _ _ h) enter29 rfl trivial so ?_; intro x278 w279 h so
      obtain ⟨q280, h⟩ := h
      replace t_b1 := pv_bk q280 t_b1 (by simp)
      replace t_b3 := pv_bk q280 t_b3 (by simp)
      replace t_b5 := pv_bk q280 t_b5 (by simp)
      refine wl_val (at_pick_f rfl rfl) rfl ?_
      refine wl_nil ?_
      exact wk_prune [(2, .pointer (some (⟨b1, 0, none⟩ : Addr))), (3, .pointer (some (⟨b3, 0, none⟩ : Addr))), (4, .pointer (some (⟨b5, 0, none⟩ : Addr))), (5, .bool x7), (30, .bool x278)] ⟨rfl, rfl, rfl, rfl, rfl, trivial⟩ (fun f1 => hJ10 (x278) _ f1 h ⟨t_b1, t_b3, t_b5, trivial⟩ so)
end Go.Proofs.Ytlonijlcddlhjaa.G
