import Derived.Test.YtlonijlcddlhjaaGF
import Derived.Test.YtlonijlcddlhjaaKgeom
import Derived.Test.YtlonijlcddlhjaaKmosaiclaw14
import Derived.Test.YtlonijlcddlhjaaKmosaicref14
namespace Go.Proofs.Ytlonijlcddlhjaa.G
open Go.RowKit
set_option linter.unusedVariables false
set_option linter.unusedSimpArgs false
/-- mosaic/mosaiclaw14.GeomWalk -/
def mosaiclaw14_GeomWalk.enc : Bool → Value := fun r => .bool r
def mosaiclaw14_GeomWalk.s (a0_0 : Int) (a0_1 : Int) (a0_2 : Int) (a0_3 : Sl) (a0_4 : Sl) (a0_5 : Int) (a0_6 : Int) (a0_7 : Int) (H0 : Hp) (Q : Bool → Hp → Prop) : Prop :=
  Gn [] H0 (fun (b1 : Nat) (H2 : Hp) => Gn [] H2 (fun (b3 : Nat) (H4 : Hp) => mosaiclaw14_large.s a0_0 a0_1 a0_2 a0_3 a0_4 H4 (fun x5 H6 => Pv [b1, b3] H4 H6 ∧ (if x5 = true then (Gr [b3] H6 (fun (H8 : Hp) => Q true H8)) else (mosaicref14_Walk.s a0_0 a0_1 a0_2 a0_3 a0_4 a0_5 a0_6 H6 (fun x10 H11 => Pv [b1, b3] H6 H11 ∧ (Gn [] H11 (fun (b13 : Nat) (H15 : Hp) => mosaiclaw14_lent.s a0_0 a0_1 a0_2 a0_3 a0_4 H15 (fun x16 H17 => Pv [b1, b3, b13] H15 H17 ∧ (Gn [] H17 (fun (b19 : Nat) (H21 : Hp) => 0 ≤ (a0_4.n : Int) ∧ (a0_4.n : Int) ≤ (x16.2.2.2.2.2.c : Int) ∧ (geom_Walk.s x16.1 x16.2.1 x16.2.2.1 x16.2.2.2.1 (slS x16.2.2.2.2.2 3 0 (a0_4.n : Int)) a0_5 a0_6 H21 (fun x29 H30 => Pv [b1, b3, b13, b19] H21 H30 ∧ (Gn [] H30 (fun (b32 : Nat) (H34 : Hp) => Bk H34 b1 42 (c42 a0_0 a0_1 a0_2 a0_3 a0_4 a0_5 a0_6 a0_7) → (Bk H34 b3 4 [.bool false] → (Bk H34 b13 44 [.slice x10.a x10.n x10.c] → (Bk H34 b32 3 [.int .i64 0] → (Join (fun (s36 : (List Nat)) (H37 : Hp) => ∃ x38 : Int, ∃ x39 : Int, ∃ x40 : Int, ∃ x41 : Sl, ldA H37 (⟨b1, 0, none⟩ : Addr) (c26 x38 x39 x40 x41) ∧ (ldL H37 (⟨b1, 4, none⟩ : Addr) (fun x43 => mosaiclaw14_stays.s x16.2.2.2.2.1 x16.2.2.2.2.2 x38 x39 x40 x41 x43 H37 (fun x45 H46 => ∃ k47, Fix (fun (rec52 : Int → Hp → Prop) (s49 : Int) (H50 : Hp) => if decide (s49 < (x16.2.2.2.2.1.n : Int)) = true then (0 ≤ s49 ∧ s49 < (x16.2.2.2.2.1.n : Int) ∧ someA x16.2.2.2.2.1.a (fun p55 => stA H50 (p55.add (Int.toNat s49 * 4)) (c23 (IntKind.wrap .u8 s49) 1 1 0) (fun H57 => rec52 ((IntKind.wrap .i64 (s49 + 1))) H57))) else (∃ k58, Fix (fun (rec63 : Int → Hp → Prop) (s60 : Int) (H61 : Hp) => if decide (s60 < (x16.2.2.2.2.2.n : Int)) = true then (0 ≤ s60 ∧ s60 < (x16.2.2.2.2.2.n : Int) ∧ someA x16.2.2.2.2.2.a (fun p66 => stA H61 (p66.add (Int.toNat s60 * 3)) (c52 0 0 0) (fun H68 => rec63 ((IntKind.wrap .i64 (s60 + 1))) H68))) else (st H61 (⟨b32, 0, none⟩ : Addr) (.int .i64 0) (fun H69 => Rg H69 (fun r70 D78 H73 => geom_Walk_1.s (.func (.yield (D78 + 1)) #[] #[]) (fun (x74 : Int × Int × Int × Int × Bool) (H76 : Hp) (K75 : Bool → Hp → Prop) => Lp H76 (D78 + 1) r70 ∧ (Gn [] H76 (fun (b79 : Nat) (H81 : Hp) => Lp H81 (D78 + 1) r70 ∧ Up (putL H81 (D78 + 1) (bsy r70)) (fun H82 => Pv [b79] H81 H82 ∧ (Join (fun (s85 : Bool) (H86 : Hp) => if s85 = true then (st H86 (⟨b3, 0, none⟩ : Addr) (.bool false) (fun H87 => Lp H87 (D78 + 1) (bsy r70) ∧ K75 false (putL H87 (D78 + 1) (dn r70 .ret)))) else (ldI .i64 H86 (⟨b32, 0, none⟩ : Addr) (fun x88 => st H86 (⟨b32, 0, none⟩ : Addr) (.int .i64 (IntKind.wrap .i64 (x88 + 1))) (fun H90 => Lp H90 (D78 + 1) (bsy r70) ∧ K75 true (putL H90 (D78 + 1) r70))))) (fun (J84 : Bool → Hp → Prop) => ldI .i64 H82 (⟨b32, 0, none⟩ : Addr) (fun x92 => ldL H82 (⟨b13, 0, none⟩ : Addr) (fun x94 => if decide ((x94.n : Int) ≤ x92) = true then (J84 (true) H82) else (ldL H82 (⟨b13, 0, none⟩ : Addr) (fun x97 => ldI .i64 H82 (⟨b32, 0, none⟩ : Addr) (fun x99 => 0 ≤ x99 ∧ x99 < (x97.n : Int) ∧ someA x97.a (fun p103 => ∃ x105 : Int, ∃ x106 : Int, ∃ x107 : Int, ∃ x108 : Int, ∃ x109 : Bool, ldA H82 (p103.add (Int.toNat x99 * 5)) (c50 x105 x106 x107 x108 x109) ∧ (J84 ((!((x74.1 == x105) && ((x74.2.1 == x106) && ((x74.2.2.1 == x107) && ((x74.2.2.2.1 == x108) && (x74.2.2.2.2 == x109))))))) H82))))))))))))) x29.1 x29.2.1 x29.2.2.1 x29.2.2.2.1 x29.2.2.2.2 H73 (fun _ H77 => (Lp H77 (D78 + 1) r70 ∧ Up (putL H77 (D78 + 1) (exh r70)) (fun H112 => if x45 = true then (ldI .i64 H112 (⟨b32, 0, none⟩ : Addr) (fun x113 => ldL H112 (⟨b13, 0, none⟩ : Addr) (fun x115 => st H112 (⟨b3, 0, none⟩ : Addr) (.bool (x113 == (x115.n : Int))) (fun H117 => tkD (D78 :: s36) H117 (fun H118 => ldB H118 (⟨b3, 0, none⟩ : Addr) (fun x120 => Q x120 H118)))))) else (st H112 (⟨b3, 0, none⟩ : Addr) (.bool false) (fun H121 => tkD (D78 :: s36) H121 (fun H122 => ldB H122 (⟨b3, 0, none⟩ : Addr) (fun x124 => Q x124 H122)))))) ∨ (Lp H77 (D78 + 1) (dn r70 .ret) ∧ Up (putL H77 (D78 + 1) (exh (dn r70 .ret))) (fun H125 => tkD (D78 :: s36) H125 (fun H126 => ldB H126 (⟨b3, 0, none⟩ : Addr) (fun x128 => Q x128 H126))))))))) k58 (0) H50)) k47 (0) H46)))) (fun (J35 : (List Nat) → Hp → Prop) => ldI .i64 H34 (⟨b1, 7, none⟩ : Addr) (fun x129 => if decide ((0 : Int) < x129) = true then (Join (fun (s132 : (List Nat)) (H133 : Hp) => ldI .i64 H133 (⟨b32, 0, none⟩ : Addr) (fun x134 => ldI .i64 H133 (⟨b1, 7, none⟩ : Addr) (fun x136 => ldL H133 (⟨b13, 0, none⟩ : Addr) (fun x138 => if (x134 != (if (x138.n : Int) < x136 then (x138.n : Int) else x136)) = true then (st H133 (⟨b3, 0, none⟩ : Addr) (.bool false) (fun H140 => tkD s132 H140 (fun H141 => ldB H141 (⟨b3, 0, none⟩ : Addr) (fun x143 => Q x143 H141)))) else (J35 (s132) H133))))) (fun (J131 : (List Nat) → Hp → Prop) => Rg H34 (fun r144 D152 H147 => geom_Walk_1.s (.func (.yield (D152 + 1)) #[] #[]) (fun (x148 : Int × Int × Int × Int × Bool) (H150 : Hp) (K149 : Bool → Hp → Prop) => Lp H150 (D152 + 1) r144 ∧ (Gn [] H150 (fun (b153 : Nat) (H155 : Hp) => Lp H155 (D152 + 1) r144 ∧ Up (putL H155 (D152 + 1) (bsy r144)) (fun H156 => Pv [b153] H155 H156 ∧ (Join (fun (s159 : Bool) (H160 : Hp) => if s159 = true then (st H160 (⟨b3, 0, none⟩ : Addr) (.bool false) (fun H161 => Lp H161 (D152 + 1) (bsy r144) ∧ K149 false (putL H161 (D152 + 1) (dn r144 .ret)))) else (ldI .i64 H160 (⟨b32, 0, none⟩ : Addr) (fun x162 => st H160 (⟨b32, 0, none⟩ : Addr) (.int .i64 (IntKind.wrap .i64 (x162 + 1))) (fun H164 => ldI .i64 H164 (⟨b32, 0, none⟩ : Addr) (fun x165 => ldI .i64 H164 (⟨b1, 7, none⟩ : Addr) (fun x167 => if (x165 == x167) = true then (Lp H164 (D152 + 1) (bsy r144) ∧ K149 false (putL H164 (D152 + 1) (dn r144 (.exit 0)))) else (Lp H164 (D152 + 1) (bsy r144) ∧ K149 true (putL H164 (D152 + 1) r144)))))))) (fun (J158 : Bool → Hp → Prop) => ldI .i64 H156 (⟨b32, 0, none⟩ : Addr) (fun x170 => ldL H156 (⟨b13, 0, none⟩ : Addr) (fun x172 => if decide ((x172.n : Int) ≤ x170) = true then (J158 (true) H156) else (ldL H156 (⟨b13, 0, none⟩ : Addr) (fun x175 => ldI .i64 H156 (⟨b32, 0, none⟩ : Addr) (fun x177 => 0 ≤ x177 ∧ x177 < (x175.n : Int) ∧ someA x175.a (fun p181 => ∃ x183 : Int, ∃ x184 : Int, ∃ x185 : Int, ∃ x186 : Int, ∃ x187 : Bool, ldA H156 (p181.add (Int.toNat x177 * 5)) (c50 x183 x184 x185 x186 x187) ∧ (J158 ((!((x148.1 == x183) && ((x148.2.1 == x184) && ((x148.2.2.1 == x185) && ((x148.2.2.2.1 == x186) && (x148.2.2.2.2 == x187))))))) H156))))))))))))) x29.1 x29.2.1 x29.2.2.1 x29.2.2.2.1 x29.2.2.2.2 H147 (fun _ H151 => (Lp H151 (D152 + 1) r144 ∧ Up (putL H151 (D152 + 1) (exh r144)) (fun H190 => J131 ((D152 :: [])) H190)) ∨ (Lp H151 (D152 + 1) (dn r144 .ret) ∧ Up (putL H151 (D152 + 1) (exh (dn r144 .ret))) (fun H191 => tkD (D152 :: []) H191 (fun H192 => ldB H192 (⟨b3, 0, none⟩ : Addr) (fun x194 => Q x194 H192)))) ∨ (Lp H151 (D152 + 1) (dn r144 (.exit 0)) ∧ Up (putL H151 (D152 + 1) (exh (dn r144 (.exit 0)))) (fun H195 => J131 ((D152 :: [])) H195)))))) else (J35 ([]) H34))))))))))))))))))))))
set_option maxRecDepth 20000 in
set_option maxHeartbeats 4000000 in
theorem mosaiclaw14_GeomWalk.calls (a0_0 : Int) (a0_1 : Int) (a0_2 : Int) (a0_3 : Sl) (a0_4 : Sl) (a0_5 : Int) (a0_6 : Int) (a0_7 : Int) (w0 : World) (Q : Bool → Hp → Prop) (h : mosaiclaw14_GeomWalk.s a0_0 a0_1 a0_2 a0_3 a0_4 a0_5 a0_6 a0_7 w0.heap Q) :
    Ca Try.prog 5 #[.agg (c42 a0_0 a0_1 a0_2 a0_3 a0_4 a0_5 a0_6 a0_7).toArray] w0 (Rt mosaiclaw14_GeomWalk.enc Q w0) := by
  refine ca_startM (c := _) Try.func5 rfl Try.ntmps5 rfl ?_
  have so : Sm w0 w0 := Sm.refl w0
  unfold mosaiclaw14_GeomWalk.s at h
  refine wc_prune [(0, .agg (c42 a0_0 a0_1 a0_2 a0_3 a0_4 a0_5 a0_6 a0_7).toArray)] ⟨rfl, trivial⟩ (fun f1 => ?_)
  refine wc_seq ?_
  refine wc_region ?_
  refine wl_newT (T := 42) (cs := (c42 a0_0 a0_1 a0_2 a0_3 a0_4 a0_5 a0_6 a0_7)) (ef_box rfl rfl) rfl so ?_; intro b1 w2 hb_b1 t_b1 k_b1 so
  have g_b1 := Nat.le_of_eq hb_b1.symm
  have hc := k_b1.ch (F := [])
  replace h := h b1 _ hc g_b1 t_b1.lt; clear hc
  refine wl_newT (T := 4) (cs := [.bool false]) (ef_alloc zero4 rfl) rfl so ?_; intro b3 w4 hb_b3 t_b3 k_b3 so
  have g_b3 := Nat.le_of_eq hb_b3.symm
  have hc := k_b3.ch (F := [])
  have n_b1_b3 : b1 ≠ b3 := fun e => by have := t_b1.lt; omega
  replace t_b1 := t_b1.keep k_b3
  refine wl_nil ?_
  refine wk_prune [(1, .pointer (some (⟨b1, 0, none⟩ : Addr))), (2, .pointer (some (⟨b3, 0, none⟩ : Addr)))] ⟨rfl, rfl, trivial⟩ (fun f1 => ?_)
  refine wk_then ?_
  refine wc_seq ?_
  refine wc_seq ?_
  refine wc_region ?_
  refine wl_val (at_fieldAddr Try.underlying42 rfl rfl sz26 (by decide) rfl) rfl ?_
  refine wl_val (at_loadA (cs := (c26 a0_0 a0_1 a0_2 a0_3)) Try.underlying26 rfl (by rw [len26]; exact sz26) rfl (ldA_sub (pre := []) (sub := (c26 a0_0 a0_1 a0_2 a0_3)) (post := ([.slice a0_4.a a0_4.n a0_4.c, .int .i64 a0_5, .int .i64 a0_6, .int .i64 a0_7])) (by first | exact t_b1 | (have q := t_b1; simp only [List.append_assoc, List.cons_append, List.nil_append, List.append_nil] at q ⊢; exact q)) (by first | rfl | simp [ints_len, bools_len]))) rfl ?_
  refine wl_val (at_fieldAddr Try.underlying42 rfl rfl sz32 (by decide) rfl) rfl ?_
  refine wl_val (at_load (v := .slice a0_4.a a0_4.n a0_4.c) Try.underlying32 rfl rfl ((t_b1.cell 4).trans (by first | rfl | simp [List.getElem?_append, ints_len, bools_len]))) rfl ?_
  replace h := h b3 _ hc g_b3 t_b3.lt; clear hc
  refine wl_callF (mosaiclaw14_large.calls _ _ _ _ _ _ _ h) enter25 rfl trivial so ?_; intro x5 w6 h so
  obtain ⟨q7, h⟩ := h
  replace t_b1 := pv_bk q7 t_b1 (by simp)
  replace t_b3 := pv_bk q7 t_b3 (by simp)
  refine wl_nil ?_
  refine wk_prune [(1, .pointer (some (⟨b1, 0, none⟩ : Addr))), (2, .pointer (some (⟨b3, 0, none⟩ : Addr))), (18, .bool x5)] ⟨rfl, rfl, rfl, trivial⟩ (fun f1 => ?_)
  refine wk_then ?_
  refine wc_cond rfl h (fun h => ?_) (fun h => ?_)
  · refine wc_seq ?_
    refine wc_region ?_
    refine wl_stT (v := .bool true) (cs' := [.bool true]) t_b3 (by first | decide | simp [ints_len, bools_len]) (by first | rfl | simp [List.set_append, ints_len, bools_len]) rfl so (fun q1 q2 => ef_store (sz := sz4) rfl rfl rfl q1 q2) ?_; intro w8 t_b3 s_w8 so
    replace t_b1 := t_b1.same s_w8 (n_b1_b3)
    have hc := s_w8.ch
    refine wl_nil ?_
    refine wk_prune [(2, .pointer (some (⟨b3, 0, none⟩ : Addr)))] ⟨rfl, trivial⟩ (fun f1 => ?_)
    refine wk_then ?_
    refine wc_ret ?_
    refine wk_thenR ?_
    replace h := h _ hc; clear hc
    refine wk_tk (K := fun H => H = w8.heap) (Ds := []) rfl so ?_; intro w9 hw so; rw [← hw] at h t_b3; clear hw
    exact wk_retR1 (x := true) rfl ⟨by decide, _, rfl, loadVar_one Try.underlying4 rfl ((t_b3.cell 0).trans (by first | rfl | simp [List.getElem?_append, ints_len, bools_len]))⟩ rfl so h
  · refine wc_skip ?_
    refine wk_prune [(1, .pointer (some (⟨b1, 0, none⟩ : Addr))), (2, .pointer (some (⟨b3, 0, none⟩ : Addr)))] ⟨rfl, rfl, trivial⟩ (fun f1 => ?_)
    refine wk_then ?_
    refine wc_seq ?_
    refine wc_region ?_
    refine wl_val (at_fieldAddr Try.underlying42 rfl rfl sz26 (by decide) rfl) rfl ?_
    refine wl_val (at_loadA (cs := (c26 a0_0 a0_1 a0_2 a0_3)) Try.underlying26 rfl (by rw [len26]; exact sz26) rfl (ldA_sub (pre := []) (sub := (c26 a0_0 a0_1 a0_2 a0_3)) (post := ([.slice a0_4.a a0_4.n a0_4.c, .int .i64 a0_5, .int .i64 a0_6, .int .i64 a0_7])) (by first | exact t_b1 | (have q := t_b1; simp only [List.append_assoc, List.cons_append, List.nil_append, List.append_nil] at q ⊢; exact q)) (by first | rfl | simp [ints_len, bools_len]))) rfl ?_
    refine wl_val (at_fieldAddr Try.underlying42 rfl rfl sz32 (by decide) rfl) rfl ?_
    refine wl_val (at_load (v := .slice a0_4.a a0_4.n a0_4.c) Try.underlying32 rfl rfl ((t_b1.cell 4).trans (by first | rfl | simp [List.getElem?_append, ints_len, bools_len]))) rfl ?_
    refine wl_val (at_fieldAddr Try.underlying42 rfl rfl sz3 (by decide) rfl) rfl ?_
    refine wl_val (at_load (v := .int .i64 a0_5) Try.underlying3 rfl rfl ((t_b1.cell 5).trans (by first | rfl | simp [List.getElem?_append, ints_len, bools_len]))) rfl ?_
    refine wl_val (at_fieldAddr Try.underlying42 rfl rfl sz3 (by decide) rfl) rfl ?_
    refine wl_val (at_load (v := .int .i64 a0_6) Try.underlying3 rfl rfl ((t_b1.cell 6).trans (by first | rfl | simp [List.getElem?_append, ints_len, bools_len]))) rfl ?_
    refine wl_callF (mosaicref14_Walk.calls _ _ _ _ _ _ _ _ _ h) enter26 rfl trivial so ?_; intro x10 w11 h so
    obtain ⟨q12, h⟩ := h
    replace t_b1 := pv_bk q12 t_b1 (by simp)
    replace t_b3 := pv_bk q12 t_b3 (by simp)
    refine wl_newT (T := 44) (cs := [.slice none 0 0]) (ef_alloc zero44 rfl) rfl so ?_; intro b13 w14 hb_b13 t_b13 k_b13 so
    have g_b13 := Nat.le_of_eq hb_b13.symm
    have hc := k_b13.ch (F := [])
    have n_b1_b13 : b1 ≠ b13 := fun e => by have := t_b1.lt; omega
    replace t_b1 := t_b1.keep k_b13
    have n_b3_b13 : b3 ≠ b13 := fun e => by have := t_b3.lt; omega
    replace t_b3 := t_b3.keep k_b13
    refine wl_stT (v := .slice x10.a x10.n x10.c) (cs' := [.slice x10.a x10.n x10.c]) t_b13 (by first | decide | simp [ints_len, bools_len]) (by first | rfl | simp [List.set_append, ints_len, bools_len]) rfl so (fun q1 q2 => ef_store (sz := sz44) rfl rfl rfl q1 q2) ?_; intro w15 t_b13 s_w15 so
    replace t_b1 := t_b1.same s_w15 (n_b1_b13)
    replace t_b3 := t_b3.same s_w15 (n_b3_b13)
    replace hc := ch_same hc s_w15 (.inr g_b13)
    refine wl_nil ?_
    refine wk_prune [(1, .pointer (some (⟨b1, 0, none⟩ : Addr))), (2, .pointer (some (⟨b3, 0, none⟩ : Addr))), (3, .pointer (some (⟨b13, 0, none⟩ : Addr)))] ⟨rfl, rfl, rfl, trivial⟩ (fun f1 => ?_)
    refine wk_then ?_
    refine wc_seq ?_
    refine wc_region ?_
    refine wl_val (at_fieldAddr Try.underlying42 rfl rfl sz26 (by decide) rfl) rfl ?_
    refine wl_val (at_loadA (cs := (c26 a0_0 a0_1 a0_2 a0_3)) Try.underlying26 rfl (by rw [len26]; exact sz26) rfl (ldA_sub (pre := []) (sub := (c26 a0_0 a0_1 a0_2 a0_3)) (post := ([.slice a0_4.a a0_4.n a0_4.c, .int .i64 a0_5, .int .i64 a0_6, .int .i64 a0_7])) (by first | exact t_b1 | (have q := t_b1; simp only [List.append_assoc, List.cons_append, List.nil_append, List.append_nil] at q ⊢; exact q)) (by first | rfl | simp [ints_len, bools_len]))) rfl ?_
    refine wl_val (at_fieldAddr Try.underlying42 rfl rfl sz32 (by decide) rfl) rfl ?_
    refine wl_val (at_load (v := .slice a0_4.a a0_4.n a0_4.c) Try.underlying32 rfl rfl ((t_b1.cell 4).trans (by first | rfl | simp [List.getElem?_append, ints_len, bools_len]))) rfl ?_
    replace h := h b13 _ hc g_b13 t_b13.lt; clear hc
    refine wl_callF (mosaiclaw14_lent.calls _ _ _ _ _ _ _ h) enter11 rfl trivial so ?_; intro x16 w17 h so
    obtain ⟨q18, h⟩ := h
    replace t_b1 := pv_bk q18 t_b1 (by simp)
    replace t_b3 := pv_bk q18 t_b3 (by simp)
    replace t_b13 := pv_bk q18 t_b13 (by simp)
    refine wl_val (at_move rfl) rfl ?_
    refine wl_val (at_extract rfl rfl) rfl ?_
    refine wl_val (at_extract rfl rfl) rfl ?_
    refine wl_val (at_extract rfl rfl) rfl ?_
    refine wl_newT (T := 26) (cs := (c26 0 0 0 ⟨none, 0, 0⟩)) (ef_alloc zero26 rfl) rfl so ?_; intro b19 w20 hb_b19 t_b19 k_b19 so
    have g_b19 := Nat.le_of_eq hb_b19.symm
    have hc := k_b19.ch (F := [])
    have n_b1_b19 : b1 ≠ b19 := fun e => by have := t_b1.lt; omega
    replace t_b1 := t_b1.keep k_b19
    have n_b3_b19 : b3 ≠ b19 := fun e => by have := t_b3.lt; omega
    replace t_b3 := t_b3.keep k_b19
    have n_b13_b19 : b13 ≠ b19 := fun e => by have := t_b13.lt; omega
    replace t_b13 := t_b13.keep k_b19
    refine wl_stWT (vs := (c26 x16.1 x16.2.1 x16.2.2.1 x16.2.2.2.1)) t_b19 (by first | (rw [len26, len26]) | (rw [len26]) | rfl) rfl so (fun q => ef_storeA (p := (⟨b19, 0, none⟩ : Addr)) (cs := (c26 x16.1 x16.2.1 x16.2.2.1 x16.2.2.2.1)) (by rw [len26]; exact sz26) rfl rfl (one26 _ _ _ _) q) ?_; intro w21 t_b19 s_w21 so
    replace t_b1 := t_b1.same s_w21 (n_b1_b19)
    replace t_b3 := t_b3.same s_w21 (n_b3_b19)
    replace t_b13 := t_b13.same s_w21 (n_b13_b19)
    replace hc := ch_same hc s_w21 (.inr g_b19)
    refine wl_val (at_assign rfl) rfl ?_
    refine wl_val (at_assign rfl) rfl ?_
    refine wl_nil ?_
    refine wk_prune [(1, .pointer (some (⟨b1, 0, none⟩ : Addr))), (2, .pointer (some (⟨b3, 0, none⟩ : Addr))), (3, .pointer (some (⟨b13, 0, none⟩ : Addr))), (4, .pointer (some (⟨b19, 0, none⟩ : Addr))), (5, .slice x16.2.2.2.2.1.a x16.2.2.2.2.1.n x16.2.2.2.2.1.c), (6, .slice x16.2.2.2.2.2.a x16.2.2.2.2.2.n x16.2.2.2.2.2.c)] ⟨rfl, rfl, rfl, rfl, rfl, rfl, trivial⟩ (fun f1 => ?_)
    refine wk_then ?_
    refine wc_seq ?_
    replace h := h b19 _ hc g_b19 t_b19.lt; clear hc
    refine wc_wo [0, 0, 0, 4, 12, 30, 0, 64, 0, 256, 1023, 2047] mixed (by kernel_rfl) so ?_; intro w22 hw so; rw [← hw] at h t_b1 t_b3 t_b13 t_b19; clear hw
    refine wo_pure (m' := 2) 1 rfl (by kernel_rfl) rfl rfl (fun H => at_move rfl) ?_
    refine wo_pure (m' := 6) 2 rfl (by kernel_rfl) rfl rfl (fun H => at_fieldAddr Try.underlying42 rfl rfl sz32 (by decide) rfl) ?_
    refine wo_pure (m' := 70) 6 rfl (by kernel_rfl) rfl rfl (fun H => at_fieldAddr Try.underlying42 rfl rfl sz3 (by decide) rfl) ?_
    refine wo_pure (m' := 326) 8 rfl (by kernel_rfl) rfl rfl (fun H => at_fieldAddr Try.underlying42 rfl rfl sz3 (by decide) rfl) ?_
    have q23 : ldA w22.heap (⟨b19, 0, none⟩ : Addr) (c26 x16.1 x16.2.1 x16.2.2.1 x16.2.2.2.1) := ldA_full t_b19
    refine wo_load (m' := 327) 0 (fun H => ldA H (⟨b19, 0, none⟩ : Addr) (c26 x16.1 x16.2.1 x16.2.2.1 x16.2.2.2.1)) rfl (by kernel_rfl) rfl rfl (fun H q23 => at_loadA (cs := (c26 x16.1 x16.2.1 x16.2.2.1 x16.2.2.2.1)) Try.underlying26 rfl (by rw [len26]; exact sz26) rfl (q23)) q23 ?_
    have q24 : cellAt w22.heap (⟨b1, 4, none⟩ : Addr) = some (.slice a0_4.a a0_4.n a0_4.c) := (t_b1.cell 4).trans (by first | rfl | simp [List.getElem?_append, ints_len, bools_len])
    refine wo_load (m' := 335) 3 (fun H => cellAt H (⟨b1, 4, none⟩ : Addr) = some (.slice a0_4.a a0_4.n a0_4.c)) rfl (by kernel_rfl) rfl rfl (fun H q24 => at_load (v := .slice a0_4.a a0_4.n a0_4.c) Try.underlying32 rfl rfl (q24)) q24 ?_
    refine wo_pure (m' := 351) 4 rfl (by kernel_rfl) rfl rfl (fun H => at_lenL Try.underlying32 rfl) ?_
    obtain ⟨q25, q26, h⟩ := h
    refine wo_pure (m' := 383) 5 rfl (by kernel_rfl) rfl rfl (fun H => at_subLh (s := x16.2.2.2.2.2) Try.underlying32 sz52 rfl rfl q25 q26) ?_
    have q27 : cellAt w22.heap (⟨b1, 5, none⟩ : Addr) = some (.int .i64 a0_5) := (t_b1.cell 5).trans (by first | rfl | simp [List.getElem?_append, ints_len, bools_len])
    refine wo_load (m' := 511) 7 (fun H => cellAt H (⟨b1, 5, none⟩ : Addr) = some (.int .i64 a0_5)) rfl (by kernel_rfl) rfl rfl (fun H q27 => at_load (v := .int .i64 a0_5) Try.underlying3 rfl rfl (q27)) q27 ?_
    have q28 : cellAt w22.heap (⟨b1, 6, none⟩ : Addr) = some (.int .i64 a0_6) := (t_b1.cell 6).trans (by first | rfl | simp [List.getElem?_append, ints_len, bools_len])
    refine wo_load (m' := 1023) 9 (fun H => cellAt H (⟨b1, 6, none⟩ : Addr) = some (.int .i64 a0_6)) rfl (by kernel_rfl) rfl rfl (fun H q28 => at_load (v := .int .i64 a0_6) Try.underlying3 rfl rfl (q28)) q28 ?_
    refine wo_take (m' := 2047) 10 [true, true, true, true] rfl (by kernel_rfl) rfl (by kernel_rfl) ?_
    refine wl_callF (geom_Walk.calls _ _ _ _ _ _ _ _ _ h) enter27 rfl trivial so ?_; intro x29 w30 h so
    obtain ⟨q31, h⟩ := h
    replace t_b1 := pv_bk q31 t_b1 (by simp)
    replace t_b3 := pv_bk q31 t_b3 (by simp)
    replace t_b13 := pv_bk q31 t_b13 (by simp)
    replace t_b19 := pv_bk q31 t_b19 (by simp)
    refine wl_nil ?_
    refine wk_tq trivial ?_
    refine wo_pure (m' := 4095) 11 rfl (by kernel_rfl) rfl rfl (fun H => at_assign rfl) ?_
    refine wo_done (by kernel_rfl) ?_
    refine wk_prune [(1, .pointer (some (⟨b1, 0, none⟩ : Addr))), (2, .pointer (some (⟨b3, 0, none⟩ : Addr))), (3, .pointer (some (⟨b13, 0, none⟩ : Addr))), (5, .slice x16.2.2.2.2.1.a x16.2.2.2.2.1.n x16.2.2.2.2.1.c), (6, .slice x16.2.2.2.2.2.a x16.2.2.2.2.2.n x16.2.2.2.2.2.c), (7, .func (.func 36) #[] #[.pointer (some x29.1), .pointer (some x29.2.1), .pointer (some x29.2.2.1), .pointer (some x29.2.2.2.1), .pointer (some x29.2.2.2.2)])] ⟨rfl, rfl, rfl, rfl, rfl, rfl, trivial⟩ (fun f1 => ?_)
    refine wk_then ?_
    refine wc_seq ?_
    refine wc_seq ?_
    refine wc_region ?_
    refine wl_val (at_move rfl) rfl ?_
    refine wl_val (at_eqlNF (v := .func (.func 36) #[] #[.pointer (some x29.1), .pointer (some x29.2.1), .pointer (some x29.2.2.1), .pointer (some x29.2.2.2.1), .pointer (some x29.2.2.2.2)]) Try.underlying47 rfl rfl rfl) rfl ?_
    refine wl_nil ?_
    refine wk_prune [(1, .pointer (some (⟨b1, 0, none⟩ : Addr))), (2, .pointer (some (⟨b3, 0, none⟩ : Addr))), (3, .pointer (some (⟨b13, 0, none⟩ : Addr))), (5, .slice x16.2.2.2.2.1.a x16.2.2.2.2.1.n x16.2.2.2.2.1.c), (6, .slice x16.2.2.2.2.2.a x16.2.2.2.2.2.n x16.2.2.2.2.2.c), (7, .func (.func 36) #[] #[.pointer (some x29.1), .pointer (some x29.2.1), .pointer (some x29.2.2.1), .pointer (some x29.2.2.2.1), .pointer (some x29.2.2.2.2)]), (49, .bool false)] ⟨rfl, rfl, rfl, rfl, rfl, rfl, rfl, trivial⟩ (fun f1 => ?_)
    refine wk_then ?_
    refine wc_cond_f rfl ?_
    refine wc_skip ?_
    refine wk_prune [(1, .pointer (some (⟨b1, 0, none⟩ : Addr))), (2, .pointer (some (⟨b3, 0, none⟩ : Addr))), (3, .pointer (some (⟨b13, 0, none⟩ : Addr))), (5, .slice x16.2.2.2.2.1.a x16.2.2.2.2.1.n x16.2.2.2.2.1.c), (6, .slice x16.2.2.2.2.2.a x16.2.2.2.2.2.n x16.2.2.2.2.2.c), (7, .func (.func 36) #[] #[.pointer (some x29.1), .pointer (some x29.2.1), .pointer (some x29.2.2.1), .pointer (some x29.2.2.2.1), .pointer (some x29.2.2.2.2)])] ⟨rfl, rfl, rfl, rfl, rfl, rfl, trivial⟩ (fun f1 => ?_)
    refine wk_then ?_
    refine wc_seq ?_
    refine wc_region ?_
    refine wl_newT (T := 3) (cs := [.int .i64 0]) (ef_alloc zero3 rfl) rfl so ?_; intro b32 w33 hb_b32 t_b32 k_b32 so
    have g_b32 := Nat.le_of_eq hb_b32.symm
    have hc := k_b32.ch (F := [])
    have n_b1_b32 : b1 ≠ b32 := fun e => by have := t_b1.lt; omega
    replace t_b1 := t_b1.keep k_b32
    have n_b3_b32 : b3 ≠ b32 := fun e => by have := t_b3.lt; omega
    replace t_b3 := t_b3.keep k_b32
    have n_b13_b32 : b13 ≠ b32 := fun e => by have := t_b13.lt; omega
    replace t_b13 := t_b13.keep k_b32
    refine wl_stT (v := .int .i64 0) (cs' := [.int .i64 0]) t_b32 (by first | decide | simp [ints_len, bools_len]) (by first | rfl | simp [List.set_append, ints_len, bools_len]) rfl so (fun q1 q2 => ef_store (sz := sz3) rfl rfl rfl q1 q2) ?_; intro w34 t_b32 s_w34 so
    replace t_b1 := t_b1.same s_w34 (n_b1_b32)
    replace t_b3 := t_b3.same s_w34 (n_b3_b32)
    replace t_b13 := t_b13.same s_w34 (n_b13_b32)
    replace hc := ch_same hc s_w34 (.inr g_b32)
    refine wl_nil ?_
    refine wk_prune [(1, .pointer (some (⟨b1, 0, none⟩ : Addr))), (2, .pointer (some (⟨b3, 0, none⟩ : Addr))), (3, .pointer (some (⟨b13, 0, none⟩ : Addr))), (5, .slice x16.2.2.2.2.1.a x16.2.2.2.2.1.n x16.2.2.2.2.1.c), (6, .slice x16.2.2.2.2.2.a x16.2.2.2.2.2.n x16.2.2.2.2.2.c), (7, .func (.func 36) #[] #[.pointer (some x29.1), .pointer (some x29.2.1), .pointer (some x29.2.2.1), .pointer (some x29.2.2.2.1), .pointer (some x29.2.2.2.2)]), (8, .pointer (some (⟨b32, 0, none⟩ : Addr)))] ⟨rfl, rfl, rfl, rfl, rfl, rfl, rfl, trivial⟩ (fun f1 => ?_)
    refine wk_then ?_
    replace h := h b32 _ hc g_b32 t_b32.lt; clear hc
    replace h := h t_b1
    replace h := h t_b3
    replace h := h t_b13
    replace h := h t_b32
    refine wc_seq ?_
    refine wc_joinM (w0 := w0) (fun (s36 : (List Nat)) => [(1, .pointer (some (⟨b1, 0, none⟩ : Addr))), (2, .pointer (some (⟨b3, 0, none⟩ : Addr))), (3, .pointer (some (⟨b13, 0, none⟩ : Addr))), (5, .slice x16.2.2.2.2.1.a x16.2.2.2.2.1.n x16.2.2.2.2.1.c), (6, .slice x16.2.2.2.2.2.a x16.2.2.2.2.2.n x16.2.2.2.2.2.c), (7, .func (.func 36) #[] #[.pointer (some x29.1), .pointer (some x29.2.1), .pointer (some x29.2.2.1), .pointer (some x29.2.2.2.1), .pointer (some x29.2.2.2.2)]), (8, .pointer (some (⟨b32, 0, none⟩ : Addr)))]) (fun (s36 : (List Nat)) => (mks s36)) h ?_ ?_
    · rintro s36 w37 f1 h so; refine wk_then ?_
      refine wc_seq ?_
      refine wc_region ?_
      refine wl_val (at_move rfl) rfl ?_
      refine wl_val (at_move rfl) rfl ?_
      refine wl_val (at_fieldAddr Try.underlying42 rfl rfl sz26 (by decide) rfl) rfl ?_
      obtain ⟨x38, x39, x40, x41, q42, h⟩ := h
      refine wl_val (at_loadA (cs := (c26 x38 x39 x40 x41)) Try.underlying26 rfl (by rw [len26]; exact sz26) rfl q42) rfl ?_
      refine wl_val (at_fieldAddr Try.underlying42 rfl rfl sz32 (by decide) rfl) rfl ?_
      obtain ⟨x43, q44, h⟩ := h
      refine wl_val (at_load Try.underlying32 rfl rfl q44) rfl ?_
      refine wl_callF (mosaiclaw14_stays.calls _ _ _ _ _ _ _ _ _ h) enter24 rfl trivial so ?_; intro x45 w46 h so
      refine wl_val (at_assign rfl) rfl ?_
      refine wl_nil ?_
      refine wk_prune [(2, .pointer (some (⟨b3, 0, none⟩ : Addr))), (3, .pointer (some (⟨b13, 0, none⟩ : Addr))), (5, .slice x16.2.2.2.2.1.a x16.2.2.2.2.1.n x16.2.2.2.2.1.c), (6, .slice x16.2.2.2.2.2.a x16.2.2.2.2.2.n x16.2.2.2.2.2.c), (7, .func (.func 36) #[] #[.pointer (some x29.1), .pointer (some x29.2.1), .pointer (some x29.2.2.1), .pointer (some x29.2.2.2.1), .pointer (some x29.2.2.2.2)]), (8, .pointer (some (⟨b32, 0, none⟩ : Addr))), (10, .bool x45)] ⟨rfl, rfl, rfl, rfl, rfl, rfl, rfl, trivial⟩ (fun f1 => ?_)
      refine wk_then ?_
      refine wc_seq ?_
      refine wc_seq ?_
      refine wc_region ?_
      refine wl_val (at_assign rfl) rfl ?_
      refine wl_nil ?_
      refine wk_prune [(2, .pointer (some (⟨b3, 0, none⟩ : Addr))), (3, .pointer (some (⟨b13, 0, none⟩ : Addr))), (5, .slice x16.2.2.2.2.1.a x16.2.2.2.2.1.n x16.2.2.2.2.1.c), (6, .slice x16.2.2.2.2.2.a x16.2.2.2.2.2.n x16.2.2.2.2.2.c), (7, .func (.func 36) #[] #[.pointer (some x29.1), .pointer (some x29.2.1), .pointer (some x29.2.2.1), .pointer (some x29.2.2.2.1), .pointer (some x29.2.2.2.2)]), (8, .pointer (some (⟨b32, 0, none⟩ : Addr))), (10, .bool x45), (11, .int .i64 0)] ⟨rfl, rfl, rfl, rfl, rfl, rfl, rfl, rfl, trivial⟩ (fun f1 => ?_)
      refine wk_then ?_
      refine wc_block ?_
      obtain ⟨k47, h⟩ := h
      refine wc_loop (fun k a w => ∃ (s49 : Int) (f1 : Nat → Value), a = ac 132 (en f1 [(2, .pointer (some (⟨b3, 0, none⟩ : Addr))), (3, .pointer (some (⟨b13, 0, none⟩ : Addr))), (5, .slice x16.2.2.2.2.1.a x16.2.2.2.2.1.n x16.2.2.2.2.1.c), (6, .slice x16.2.2.2.2.2.a x16.2.2.2.2.2.n x16.2.2.2.2.2.c), (7, .func (.func 36) #[] #[.pointer (some x29.1), .pointer (some x29.2.1), .pointer (some x29.2.2.1), .pointer (some x29.2.2.2.1), .pointer (some x29.2.2.2.2)]), (8, .pointer (some (⟨b32, 0, none⟩ : Addr))), (10, .bool x45), (11, .int .i64 s49)]) (mks s36) ∧ Sm w0 w ∧ Fix _ k s49 w.heap) k47 ⟨(0), _, ac_again ⟨rfl, rfl, rfl, rfl, rfl, rfl, rfl, rfl, trivial⟩, so, h⟩ ?_
      rintro k48 a51 w50 ⟨s49, f1, rfl, so, h⟩
      rcases k48 with _ | k48
      · exact h.elim
      replace h := Fix.un h; refine wc_in ?_
      refine wc_seq ?_
      refine wc_seq ?_
      refine wc_region ?_
      refine wl_val (at_move rfl) rfl ?_
      refine wl_val (at_move rfl) rfl ?_
      refine wl_val (at_lenL Try.underlying24 rfl) rfl ?_
      refine wl_val (at_lss rfl rfl) rfl ?_
      refine wl_nil ?_
      refine wk_prune [(2, .pointer (some (⟨b3, 0, none⟩ : Addr))), (3, .pointer (some (⟨b13, 0, none⟩ : Addr))), (5, .slice x16.2.2.2.2.1.a x16.2.2.2.2.1.n x16.2.2.2.2.1.c), (6, .slice x16.2.2.2.2.2.a x16.2.2.2.2.2.n x16.2.2.2.2.2.c), (7, .func (.func 36) #[] #[.pointer (some x29.1), .pointer (some x29.2.1), .pointer (some x29.2.2.1), .pointer (some x29.2.2.2.1), .pointer (some x29.2.2.2.2)]), (8, .pointer (some (⟨b32, 0, none⟩ : Addr))), (10, .bool x45), (11, .int .i64 s49), (90, .bool (decide (s49 < (x16.2.2.2.2.1.n : Int))))] ⟨rfl, rfl, rfl, rfl, rfl, rfl, rfl, rfl, rfl, trivial⟩ (fun f1 => ?_)
      refine wk_then ?_
      refine wc_cond rfl h (fun h => ?_) (fun h => ?_)
      · refine wc_skip ?_
        refine wk_prune [(2, .pointer (some (⟨b3, 0, none⟩ : Addr))), (3, .pointer (some (⟨b13, 0, none⟩ : Addr))), (5, .slice x16.2.2.2.2.1.a x16.2.2.2.2.1.n x16.2.2.2.2.1.c), (6, .slice x16.2.2.2.2.2.a x16.2.2.2.2.2.n x16.2.2.2.2.2.c), (7, .func (.func 36) #[] #[.pointer (some x29.1), .pointer (some x29.2.1), .pointer (some x29.2.2.1), .pointer (some x29.2.2.2.1), .pointer (some x29.2.2.2.2)]), (8, .pointer (some (⟨b32, 0, none⟩ : Addr))), (10, .bool x45), (11, .int .i64 s49)] ⟨rfl, rfl, rfl, rfl, rfl, rfl, rfl, rfl, trivial⟩ (fun f1 => ?_)
        refine wk_then ?_
        refine wc_seq ?_
        refine wc_block ?_
        refine wc_region ?_
        refine wl_val (at_move rfl) rfl ?_
        refine wl_val (at_move rfl) rfl ?_
        refine wl_val (at_move rfl) rfl ?_
        refine wl_val (at_conv Try.underlying3 Try.underlying5 rfl) rfl ?_
        refine wl_val (at_build (cs := (c23 (IntKind.wrap .u8 s49) 1 1 0)) (ps := [(0, .int .u8 (IntKind.wrap .u8 s49)), (1, .int .u8 1), (2, .int .u8 1)]) rfl (fun w => by simp [Instr.build, Instr.fill, go_sem, Try.underlying23, z23])) rfl ?_
        obtain ⟨q53, q54, p55, q56, h⟩ := h
        refine wl_val (at_ixAddrL Try.underlying24 sz23 (sl_some q56) rfl q53 q54) rfl ?_
        refine wl_stA h rfl so (fun q => ef_storeA (by rw [len23]; exact sz23) rfl rfl (one23 _ _ _ _) q) ?_; intro w57 h so
        refine wl_nil ?_
        refine wk_blkN ?_
        refine wk_prune [(2, .pointer (some (⟨b3, 0, none⟩ : Addr))), (3, .pointer (some (⟨b13, 0, none⟩ : Addr))), (5, .slice x16.2.2.2.2.1.a x16.2.2.2.2.1.n x16.2.2.2.2.1.c), (6, .slice x16.2.2.2.2.2.a x16.2.2.2.2.2.n x16.2.2.2.2.2.c), (7, .func (.func 36) #[] #[.pointer (some x29.1), .pointer (some x29.2.1), .pointer (some x29.2.2.1), .pointer (some x29.2.2.2.1), .pointer (some x29.2.2.2.2)]), (8, .pointer (some (⟨b32, 0, none⟩ : Addr))), (10, .bool x45), (11, .int .i64 s49)] ⟨rfl, rfl, rfl, rfl, rfl, rfl, rfl, rfl, trivial⟩ (fun f1 => ?_)
        refine wk_then ?_
        refine wc_region ?_
        refine wl_val (at_move rfl) rfl ?_
        refine wl_val (at_add rfl rfl) rfl ?_
        refine wl_val (at_assign rfl) rfl ?_
        refine wl_nil ?_
        exact wk_again ⟨((IntKind.wrap .i64 (s49 + 1))), _, ac_again ⟨rfl, rfl, rfl, rfl, rfl, rfl, rfl, rfl, trivial⟩, so, h⟩
      · refine wc_exit ?_
        refine wk_thenE ?_
        refine wk_thenE ?_
        refine wk_blkE ?_
        refine wk_prune [(2, .pointer (some (⟨b3, 0, none⟩ : Addr))), (3, .pointer (some (⟨b13, 0, none⟩ : Addr))), (6, .slice x16.2.2.2.2.2.a x16.2.2.2.2.2.n x16.2.2.2.2.2.c), (7, .func (.func 36) #[] #[.pointer (some x29.1), .pointer (some x29.2.1), .pointer (some x29.2.2.1), .pointer (some x29.2.2.2.1), .pointer (some x29.2.2.2.2)]), (8, .pointer (some (⟨b32, 0, none⟩ : Addr))), (10, .bool x45)] ⟨rfl, rfl, rfl, rfl, rfl, rfl, trivial⟩ (fun f1 => ?_)
        refine wk_then ?_
        refine wc_seq ?_
        refine wc_seq ?_
        refine wc_region ?_
        refine wl_val (at_assign rfl) rfl ?_
        refine wl_nil ?_
        refine wk_prune [(2, .pointer (some (⟨b3, 0, none⟩ : Addr))), (3, .pointer (some (⟨b13, 0, none⟩ : Addr))), (6, .slice x16.2.2.2.2.2.a x16.2.2.2.2.2.n x16.2.2.2.2.2.c), (7, .func (.func 36) #[] #[.pointer (some x29.1), .pointer (some x29.2.1), .pointer (some x29.2.2.1), .pointer (some x29.2.2.2.1), .pointer (some x29.2.2.2.2)]), (8, .pointer (some (⟨b32, 0, none⟩ : Addr))), (10, .bool x45), (12, .int .i64 0)] ⟨rfl, rfl, rfl, rfl, rfl, rfl, rfl, trivial⟩ (fun f1 => ?_)
        refine wk_then ?_
        refine wc_block ?_
        obtain ⟨k58, h⟩ := h
        refine wc_loop (fun k a w => ∃ (s60 : Int) (f1 : Nat → Value), a = ac 132 (en f1 [(2, .pointer (some (⟨b3, 0, none⟩ : Addr))), (3, .pointer (some (⟨b13, 0, none⟩ : Addr))), (6, .slice x16.2.2.2.2.2.a x16.2.2.2.2.2.n x16.2.2.2.2.2.c), (7, .func (.func 36) #[] #[.pointer (some x29.1), .pointer (some x29.2.1), .pointer (some x29.2.2.1), .pointer (some x29.2.2.2.1), .pointer (some x29.2.2.2.2)]), (8, .pointer (some (⟨b32, 0, none⟩ : Addr))), (10, .bool x45), (12, .int .i64 s60)]) (mks s36) ∧ Sm w0 w ∧ Fix _ k s60 w.heap) k58 ⟨(0), _, ac_again ⟨rfl, rfl, rfl, rfl, rfl, rfl, rfl, trivial⟩, so, h⟩ ?_
        rintro k59 a62 w61 ⟨s60, f1, rfl, so, h⟩
        rcases k59 with _ | k59
        · exact h.elim
        replace h := Fix.un h; refine wc_in ?_
        refine wc_seq ?_
        refine wc_seq ?_
        refine wc_region ?_
        refine wl_val (at_move rfl) rfl ?_
        refine wl_val (at_move rfl) rfl ?_
        refine wl_val (at_lenL Try.underlying32 rfl) rfl ?_
        refine wl_val (at_lss rfl rfl) rfl ?_
        refine wl_nil ?_
        refine wk_prune [(2, .pointer (some (⟨b3, 0, none⟩ : Addr))), (3, .pointer (some (⟨b13, 0, none⟩ : Addr))), (6, .slice x16.2.2.2.2.2.a x16.2.2.2.2.2.n x16.2.2.2.2.2.c), (7, .func (.func 36) #[] #[.pointer (some x29.1), .pointer (some x29.2.1), .pointer (some x29.2.2.1), .pointer (some x29.2.2.2.1), .pointer (some x29.2.2.2.2)]), (8, .pointer (some (⟨b32, 0, none⟩ : Addr))), (10, .bool x45), (12, .int .i64 s60), (102, .bool (decide (s60 < (x16.2.2.2.2.2.n : Int))))] ⟨rfl, rfl, rfl, rfl, rfl, rfl, rfl, rfl, trivial⟩ (fun f1 => ?_)
        refine wk_then ?_
        refine wc_cond rfl h (fun h => ?_) (fun h => ?_)
        · refine wc_skip ?_
          refine wk_prune [(2, .pointer (some (⟨b3, 0, none⟩ : Addr))), (3, .pointer (some (⟨b13, 0, none⟩ : Addr))), (6, .slice x16.2.2.2.2.2.a x16.2.2.2.2.2.n x16.2.2.2.2.2.c), (7, .func (.func 36) #[] #[.pointer (some x29.1), .pointer (some x29.2.1), .pointer (some x29.2.2.1), .pointer (some x29.2.2.2.1), .pointer (some x29.2.2.2.2)]), (8, .pointer (some (⟨b32, 0, none⟩ : Addr))), (10, .bool x45), (12, .int .i64 s60)] ⟨rfl, rfl, rfl, rfl, rfl, rfl, rfl, trivial⟩ (fun f1 => ?_)
          refine wk_then ?_
          refine wc_seq ?_
          refine wc_block ?_
          refine wc_region ?_
          refine wl_val (at_move rfl) rfl ?_
          refine wl_val (at_move rfl) rfl ?_
          refine wl_val (at_build (cs := (c52 0 0 0)) (ps := []) rfl (fun w => by simp [Instr.build, Instr.fill, go_sem, Try.underlying52, z52])) rfl ?_
          obtain ⟨q64, q65, p66, q67, h⟩ := h
          refine wl_val (at_ixAddrL Try.underlying32 sz52 (sl_some q67) rfl q64 q65) rfl ?_
          refine wl_stA h rfl so (fun q => ef_storeA (by rw [len52]; exact sz52) rfl rfl (one52 _ _ _) q) ?_; intro w68 h so
          refine wl_nil ?_
          refine wk_blkN ?_
          refine wk_prune [(2, .pointer (some (⟨b3, 0, none⟩ : Addr))), (3, .pointer (some (⟨b13, 0, none⟩ : Addr))), (6, .slice x16.2.2.2.2.2.a x16.2.2.2.2.2.n x16.2.2.2.2.2.c), (7, .func (.func 36) #[] #[.pointer (some x29.1), .pointer (some x29.2.1), .pointer (some x29.2.2.1), .pointer (some x29.2.2.2.1), .pointer (some x29.2.2.2.2)]), (8, .pointer (some (⟨b32, 0, none⟩ : Addr))), (10, .bool x45), (12, .int .i64 s60)] ⟨rfl, rfl, rfl, rfl, rfl, rfl, rfl, trivial⟩ (fun f1 => ?_)
          refine wk_then ?_
          refine wc_region ?_
          refine wl_val (at_move rfl) rfl ?_
          refine wl_val (at_add rfl rfl) rfl ?_
          refine wl_val (at_assign rfl) rfl ?_
          refine wl_nil ?_
          exact wk_again ⟨((IntKind.wrap .i64 (s60 + 1))), _, ac_again ⟨rfl, rfl, rfl, rfl, rfl, rfl, rfl, trivial⟩, so, h⟩
        · refine wc_exit ?_
          refine wk_thenE ?_
          refine wk_thenE ?_
          refine wk_blkE ?_
          refine wk_prune [(2, .pointer (some (⟨b3, 0, none⟩ : Addr))), (3, .pointer (some (⟨b13, 0, none⟩ : Addr))), (7, .func (.func 36) #[] #[.pointer (some x29.1), .pointer (some x29.2.1), .pointer (some x29.2.2.1), .pointer (some x29.2.2.2.1), .pointer (some x29.2.2.2.2)]), (8, .pointer (some (⟨b32, 0, none⟩ : Addr))), (10, .bool x45)] ⟨rfl, rfl, rfl, rfl, rfl, trivial⟩ (fun f1 => ?_)
          refine wk_then ?_
          refine wc_seq ?_
          refine wc_region ?_
          refine wl_st (v := .int .i64 0) h rfl so (fun q1 q2 => ef_store (sz := sz3) rfl rfl rfl q1 q2) ?_; intro w69 h so
          refine wl_nil ?_
          refine wk_prune [(2, .pointer (some (⟨b3, 0, none⟩ : Addr))), (3, .pointer (some (⟨b13, 0, none⟩ : Addr))), (7, .func (.func 36) #[] #[.pointer (some x29.1), .pointer (some x29.2.1), .pointer (some x29.2.2.1), .pointer (some x29.2.2.2.1), .pointer (some x29.2.2.2.2)]), (8, .pointer (some (⟨b32, 0, none⟩ : Addr))), (10, .bool x45)] ⟨rfl, rfl, rfl, rfl, rfl, trivial⟩ (fun f1 => ?_)
          refine wk_then ?_
          refine wc_seq ?_
          refine wc_seq ?_
          refine wc_region ?_
          refine wl_val (at_move rfl) rfl ?_
          refine wl_nil ?_
          refine wk_prune [(2, .pointer (some (⟨b3, 0, none⟩ : Addr))), (3, .pointer (some (⟨b13, 0, none⟩ : Addr))), (8, .pointer (some (⟨b32, 0, none⟩ : Addr))), (10, .bool x45), (109, .func (.func 36) #[] #[.pointer (some x29.1), .pointer (some x29.2.1), .pointer (some x29.2.2.1), .pointer (some x29.2.2.2.1), .pointer (some x29.2.2.2.2)])] ⟨rfl, rfl, rfl, rfl, rfl, trivial⟩ (fun f1 => ?_)
          refine wk_then ?_
          refine wc_block ?_
          refine wc_prune [(2, .pointer (some (⟨b3, 0, none⟩ : Addr))), (3, .pointer (some (⟨b13, 0, none⟩ : Addr))), (8, .pointer (some (⟨b32, 0, none⟩ : Addr))), (10, .bool x45), (109, .func (.func 36) #[] #[.pointer (some x29.1), .pointer (some x29.2.1), .pointer (some x29.2.2.1), .pointer (some x29.2.2.2.1), .pointer (some x29.2.2.2.2)])] ⟨rfl, rfl, rfl, rfl, rfl, trivial⟩ (fun f1 => ?_)
          refine wc_rng (caps := [.pointer (some x29.1), .pointer (some x29.2.1), .pointer (some x29.2.2.1), .pointer (some x29.2.2.2.1), .pointer (some x29.2.2.2.2)]) rfl enter36 so h ?_; intro r70 D78 w73 q71 q72 h so
          refine Ca.mono (geom_Walk_1.calls _ _ (yok (ps := [110]) q72 (fun _ => rfl) fun x74 w76 K75 h => ?_) _ _ _ _ _ w73 _ h) ?_
          · refine ⟨h.1, ?_⟩; replace h := h.2; have so := Sm.refl w76; refine wc_prune [(2, .pointer (some (⟨b3, 0, none⟩ : Addr))), (3, .pointer (some (⟨b13, 0, none⟩ : Addr))), (8, .pointer (some (⟨b32, 0, none⟩ : Addr))), (110, .agg (c50 x74.1 x74.2.1 x74.2.2.1 x74.2.2.2.1 x74.2.2.2.2).toArray)] ⟨rfl, rfl, rfl, rfl, trivial⟩ (fun f1 => ?_)
            refine wc_region ?_
            refine wl_newT (T := 50) (cs := (c50 0 0 0 0 false)) (ef_alloc zero50 rfl) rfl so ?_; intro b79 w80 hb_b79 t_b79 k_b79 so
            have g_b79 := Nat.le_of_eq hb_b79.symm
            have hc := k_b79.ch (F := [])
            refine wl_stWT (vs := (c50 x74.1 x74.2.1 x74.2.2.1 x74.2.2.2.1 x74.2.2.2.2)) t_b79 (by first | (rw [len50, len50]) | (rw [len50]) | rfl) rfl so (fun q => ef_storeA (p := (⟨b79, 0, none⟩ : Addr)) (cs := (c50 x74.1 x74.2.1 x74.2.2.1 x74.2.2.2.1 x74.2.2.2.2)) (by rw [len50]; exact sz50) rfl rfl (one50 _ _ _ _ _) q) ?_; intro w81 t_b79 s_w81 so
            replace hc := ch_same hc s_w81 (.inr g_b79)
            refine wl_nil ?_
            replace h := h b79 _ hc g_b79 t_b79.lt; clear hc
            refine wk_prune [(2, .pointer (some (⟨b3, 0, none⟩ : Addr))), (3, .pointer (some (⟨b13, 0, none⟩ : Addr))), (8, .pointer (some (⟨b32, 0, none⟩ : Addr))), (13, .pointer (some (⟨b79, 0, none⟩ : Addr)))] ⟨rfl, rfl, rfl, rfl, trivial⟩ (fun f1 => ?_)
            refine wk_asg q71 h so ?_; intro w82 h so
            obtain ⟨q83, h⟩ := h
            replace t_b79 := pv_bk q83 t_b79 (by simp)
            refine wc_block ?_
            refine wc_seq ?_
            refine wc_seq ?_
            refine wc_join (w0 := w76) (fun (s85 : Bool) => [(2, .pointer (some (⟨b3, 0, none⟩ : Addr))), (8, .pointer (some (⟨b32, 0, none⟩ : Addr))), (122, .bool s85)]) h ?_ ?_
            · rintro s85 w86 f1 h so; refine wk_then ?_
              refine wc_cond rfl h (fun h => ?_) (fun h => ?_)
              · refine wc_seq ?_
                refine wc_region ?_
                refine wl_st (v := .bool false) h rfl so (fun q1 q2 => ef_store (sz := sz4) rfl rfl rfl q1 q2) ?_; intro w87 h so
                refine wl_nil ?_
                refine wk_prune [(2, .pointer (some (⟨b3, 0, none⟩ : Addr)))] ⟨rfl, trivial⟩ (fun f1 => ?_)
                refine wk_then ?_
                refine wc_ret ?_
                refine wk_thenR ?_
                refine wk_blkR ?_
                exact wk_rdR h so
              · refine wc_skip ?_
                refine wk_prune [(8, .pointer (some (⟨b32, 0, none⟩ : Addr)))] ⟨rfl, trivial⟩ (fun f1 => ?_)
                refine wk_then ?_
                refine wc_region ?_
                obtain ⟨x88, q89, h⟩ := h
                refine wl_val (at_load Try.underlying3 rfl rfl q89) rfl ?_
                refine wl_val (at_add rfl rfl) rfl ?_
                refine wl_st (v := .int .i64 (IntKind.wrap .i64 (x88 + 1))) h rfl so (fun q1 q2 => ef_store (sz := sz3) rfl rfl rfl q1 q2) ?_; intro w90 h so
                refine wl_nil ?_
                refine wk_blkN ?_
                exact wk_rdN q71 h so
            · intro J84 h hJ84
              refine wc_wo [0, 0, 2, 7, 15, 31, 31, 31, 223, 479, 1023, 2047] mixed (by kernel_rfl) so ?_; intro w91 hw so; rw [← hw] at h t_b79; clear hw
              obtain ⟨x92, q93, h⟩ := h
              refine wo_load (m' := 1) 0 (fun H => cellAt H (⟨b32, 0, none⟩ : Addr) = some (.int .i64 x92)) rfl (by kernel_rfl) rfl rfl (fun H q93 => at_load Try.underlying3 rfl rfl q93) q93 ?_
              obtain ⟨x94, q95, h⟩ := h
              refine wo_load (m' := 3) 1 (fun H => cellAt H (⟨b13, 0, none⟩ : Addr) = some (.slice x94.a x94.n x94.c)) rfl (by kernel_rfl) rfl rfl (fun H q95 => at_load Try.underlying44 rfl rfl q95) q95 ?_
              refine wo_pure (m' := 7) 2 rfl (by kernel_rfl) rfl rfl (fun H => at_lenL Try.underlying44 rfl) ?_
              refine wo_pure (m' := 15) 3 rfl (by kernel_rfl) rfl rfl (fun H => at_geq rfl rfl) ?_
              refine wo_pure (m' := 31) 4 rfl (by kernel_rfl) rfl rfl (fun H => at_move rfl) ?_
              refine bif_ h (fun hb h => ?_) (fun hb h => ?_)
              · refine wo_set (t := 115) (v := .bool true) (congrArg Value.bool hb) ?_; clear hb
                refine wo_off (m' := 63) 5 rfl (by kernel_rfl) rfl (t := 115) rfl (by decide) rfl ?_
                refine wo_off (m' := 127) 6 rfl (by kernel_rfl) rfl (t := 115) rfl (by decide) rfl ?_
                refine wo_off (m' := 255) 7 rfl (by kernel_rfl) rfl (t := 115) rfl (by decide) rfl ?_
                refine wo_off (m' := 511) 8 rfl (by kernel_rfl) rfl (t := 115) rfl (by decide) rfl ?_
                refine wo_off (m' := 1023) 9 rfl (by kernel_rfl) rfl (t := 115) rfl (by decide) rfl ?_
                refine wo_off (m' := 2047) 10 rfl (by kernel_rfl) rfl (t := 115) rfl (by decide) rfl ?_
                refine wo_pure (m' := 4095) 11 rfl (by kernel_rfl) rfl rfl (fun H => at_pick_t rfl rfl) ?_
                refine wo_done (by kernel_rfl) ?_
                exact wk_prune [(2, .pointer (some (⟨b3, 0, none⟩ : Addr))), (8, .pointer (some (⟨b32, 0, none⟩ : Addr))), (122, .bool true)] ⟨rfl, rfl, rfl, trivial⟩ (fun f1 => hJ84 (true) _ f1 h so)
              · refine wo_set (t := 115) (v := .bool false) (congrArg Value.bool hb) ?_; clear hb
                have q96 : ldA w91.heap (⟨b79, 0, none⟩ : Addr) (c50 x74.1 x74.2.1 x74.2.2.1 x74.2.2.2.1 x74.2.2.2.2) := ldA_full t_b79
                refine wo_loadG (m' := 63) 5 (fun H => ldA H (⟨b79, 0, none⟩ : Addr) (c50 x74.1 x74.2.1 x74.2.2.1 x74.2.2.2.1 x74.2.2.2.2)) rfl (by kernel_rfl) rfl (t := 115) rfl (by decide) rfl (fun H q96 => at_loadA (cs := (c50 x74.1 x74.2.1 x74.2.2.1 x74.2.2.2.1 x74.2.2.2.2)) Try.underlying50 rfl (by rw [len50]; exact sz50) rfl (q96)) q96 ?_
                obtain ⟨x97, q98, h⟩ := h
                refine wo_loadG (m' := 127) 6 (fun H => cellAt H (⟨b13, 0, none⟩ : Addr) = some (.slice x97.a x97.n x97.c)) rfl (by kernel_rfl) rfl (t := 115) rfl (by decide) rfl (fun H q98 => at_load Try.underlying44 rfl rfl q98) q98 ?_
                obtain ⟨x99, q100, h⟩ := h
                refine wo_loadG (m' := 255) 7 (fun H => cellAt H (⟨b32, 0, none⟩ : Addr) = some (.int .i64 x99)) rfl (by kernel_rfl) rfl (t := 115) rfl (by decide) rfl (fun H q100 => at_load Try.underlying3 rfl rfl q100) q100 ?_
                obtain ⟨q101, q102, p103, q104, h⟩ := h
                refine wo_pureG (m' := 511) 8 rfl (by kernel_rfl) rfl (t := 115) rfl (by decide) rfl (fun H => at_ixAddrL Try.underlying44 sz50 (sl_some q104) rfl q101 q102) ?_
                obtain ⟨x105, x106, x107, x108, x109, q110, h⟩ := h
                refine wo_loadG (m' := 1023) 9 (fun H => ldA H (p103.add (Int.toNat x99 * 5)) (c50 x105 x106 x107 x108 x109)) rfl (by kernel_rfl) rfl (t := 115) rfl (by decide) rfl (fun H q110 => at_loadA (cs := (c50 x105 x106 x107 x108 x109)) Try.underlying50 rfl (by rw [len50]; exact sz50) rfl q110) q110 ?_
                refine wo_pureG (m' := 2047) 10 rfl (by kernel_rfl) rfl (t := 115) rfl (by decide) rfl (fun H => at_neqA (xs := (c50 x74.1 x74.2.1 x74.2.2.1 x74.2.2.2.1 x74.2.2.2.2)) (ys := (c50 x105 x106 x107 x108 x109)) rfl rfl (by kernel_rfl) (eqv_struct Try.underlying50 (by kernel_rfl) (eqf_cons rfl (pt_one (v := .int .i64 x74.1) Try.underlying3 rfl rfl) (pt_one (v := .int .i64 x105) Try.underlying3 rfl rfl) (eqv_int Try.underlying3) (eqf_cons rfl (pt_one (v := .int .i64 x74.2.1) Try.underlying3 rfl rfl) (pt_one (v := .int .i64 x106) Try.underlying3 rfl rfl) (eqv_int Try.underlying3) (eqf_cons rfl (pt_one (v := .int .i64 x74.2.2.1) Try.underlying3 rfl rfl) (pt_one (v := .int .i64 x107) Try.underlying3 rfl rfl) (eqv_int Try.underlying3) (eqf_cons rfl (pt_one (v := .int .i64 x74.2.2.2.1) Try.underlying3 rfl rfl) (pt_one (v := .int .i64 x108) Try.underlying3 rfl rfl) (eqv_int Try.underlying3) (eqf_last rfl (pt_one (v := .bool x74.2.2.2.2) Try.underlying4 rfl rfl) (pt_one (v := .bool x109) Try.underlying4 rfl rfl) (eqv_bool Try.underlying4)))))))) ?_
                refine wo_pure (m' := 4095) 11 rfl (by kernel_rfl) rfl rfl (fun H => at_pick_f rfl rfl) ?_
                refine wo_done (by kernel_rfl) ?_
                exact wk_prune [(2, .pointer (some (⟨b3, 0, none⟩ : Addr))), (8, .pointer (some (⟨b32, 0, none⟩ : Addr))), (122, .bool (!((x74.1 == x105) && ((x74.2.1 == x106) && ((x74.2.2.1 == x107) && ((x74.2.2.2.1 == x108) && (x74.2.2.2.2 == x109)))))))] ⟨rfl, rfl, rfl, trivial⟩ (fun f1 => hJ84 ((!((x74.1 == x105) && ((x74.2.1 == x106) && ((x74.2.2.1 == x107) && ((x74.2.2.2.1 == x108) && (x74.2.2.2.2 == x109))))))) _ f1 h so)
          · rintro _ w77 ⟨_, rfl, h, q111⟩; replace so := so.trans q111
            rcases h with h | h
            · refine rp_none q71 h so ?_; intro w112 h so
              refine wk_blkN ?_
              refine wk_prune [(2, .pointer (some (⟨b3, 0, none⟩ : Addr))), (3, .pointer (some (⟨b13, 0, none⟩ : Addr))), (8, .pointer (some (⟨b32, 0, none⟩ : Addr))), (10, .bool x45)] ⟨rfl, rfl, rfl, rfl, trivial⟩ (fun f1 => ?_)
              refine wk_then ?_
              refine wc_seq ?_
              refine wc_region ?_
              refine wl_val (at_move rfl) rfl ?_
              refine wl_val (at_move rfl) rfl ?_
              refine bif_ h (fun hb h => ?_) (fun hb h => ?_)
              · refine wl_set (t := 126) (v := .bool true) (congrArg Value.bool hb) ?_; clear hb
                refine wl_on (t := 126) rfl (by decide) rfl ?_
                obtain ⟨x113, q114, h⟩ := h
                refine wl_val (at_load Try.underlying3 rfl rfl q114) rfl ?_
                refine wl_on (t := 126) rfl (by decide) rfl ?_
                obtain ⟨x115, q116, h⟩ := h
                refine wl_val (at_load Try.underlying44 rfl rfl q116) rfl ?_
                refine wl_on (t := 126) rfl (by decide) rfl ?_
                refine wl_val (at_lenL Try.underlying44 rfl) rfl ?_
                refine wl_on (t := 126) rfl (by decide) rfl ?_
                refine wl_val (at_eql rfl rfl) rfl ?_
                refine wl_val (at_pick_t rfl rfl) rfl ?_
                refine wl_st (v := .bool (x113 == (x115.n : Int))) h rfl so (fun q1 q2 => ef_store (sz := sz4) rfl rfl rfl q1 q2) ?_; intro w117 h so
                refine wl_nil ?_
                refine wk_prune [(2, .pointer (some (⟨b3, 0, none⟩ : Addr)))] ⟨rfl, trivial⟩ (fun f1 => ?_)
                refine wk_then ?_
                refine wc_ret ?_
                refine wk_tk h so ?_; intro w118 h so
                obtain ⟨x120, q119, h⟩ := h
                exact wk_retR1 (x := x120) rfl ⟨by decide, _, rfl, loadVar_one Try.underlying4 rfl q119⟩ rfl so h
              · refine wl_set (t := 126) (v := .bool false) (congrArg Value.bool hb) ?_; clear hb
                refine wl_off (t := 126) rfl (by decide) rfl ?_
                refine wl_off (t := 126) rfl (by decide) rfl ?_
                refine wl_off (t := 126) rfl (by decide) rfl ?_
                refine wl_off (t := 126) rfl (by decide) rfl ?_
                refine wl_val (at_pick_f rfl rfl) rfl ?_
                refine wl_st (v := .bool false) h rfl so (fun q1 q2 => ef_store (sz := sz4) rfl rfl rfl q1 q2) ?_; intro w121 h so
                refine wl_nil ?_
                refine wk_prune [(2, .pointer (some (⟨b3, 0, none⟩ : Addr)))] ⟨rfl, trivial⟩ (fun f1 => ?_)
                refine wk_then ?_
                refine wc_ret ?_
                refine wk_tk h so ?_; intro w122 h so
                obtain ⟨x124, q123, h⟩ := h
                exact wk_retR1 (x := x124) rfl ⟨by decide, _, rfl, loadVar_one Try.underlying4 rfl q123⟩ rfl so h
            · refine rp_jump h so ?_; intro w125 h so; refine wc_ret ?_
              refine wk_blkR ?_
              refine wk_thenR ?_
              refine wk_tk h so ?_; intro w126 h so
              obtain ⟨x128, q127, h⟩ := h
              exact wk_retR1 (x := x128) rfl ⟨by decide, _, rfl, loadVar_one Try.underlying4 rfl q127⟩ rfl so h
    · intro J35 h hJ35
      refine wc_seq ?_
      refine wc_region ?_
      refine wl_val (at_fieldAddr Try.underlying42 rfl rfl sz3 (by decide) rfl) rfl ?_
      obtain ⟨x129, q130, h⟩ := h
      refine wl_val (at_load Try.underlying3 rfl rfl q130) rfl ?_
      refine wl_val (at_gtr rfl rfl) rfl ?_
      refine wl_nil ?_
      refine wk_prune [(1, .pointer (some (⟨b1, 0, none⟩ : Addr))), (2, .pointer (some (⟨b3, 0, none⟩ : Addr))), (3, .pointer (some (⟨b13, 0, none⟩ : Addr))), (5, .slice x16.2.2.2.2.1.a x16.2.2.2.2.1.n x16.2.2.2.2.1.c), (6, .slice x16.2.2.2.2.2.a x16.2.2.2.2.2.n x16.2.2.2.2.2.c), (7, .func (.func 36) #[] #[.pointer (some x29.1), .pointer (some x29.2.1), .pointer (some x29.2.2.1), .pointer (some x29.2.2.2.1), .pointer (some x29.2.2.2.2)]), (8, .pointer (some (⟨b32, 0, none⟩ : Addr))), (52, .bool (decide ((0 : Int) < x129)))] ⟨rfl, rfl, rfl, rfl, rfl, rfl, rfl, rfl, trivial⟩ (fun f1 => ?_)
      refine wk_then ?_
      refine wc_cond rfl h (fun h => ?_) (fun h => ?_)
      · refine wc_seq ?_
        refine wc_joinM (w0 := w0) (fun (s132 : (List Nat)) => [(1, .pointer (some (⟨b1, 0, none⟩ : Addr))), (2, .pointer (some (⟨b3, 0, none⟩ : Addr))), (3, .pointer (some (⟨b13, 0, none⟩ : Addr))), (5, .slice x16.2.2.2.2.1.a x16.2.2.2.2.1.n x16.2.2.2.2.1.c), (6, .slice x16.2.2.2.2.2.a x16.2.2.2.2.2.n x16.2.2.2.2.2.c), (7, .func (.func 36) #[] #[.pointer (some x29.1), .pointer (some x29.2.1), .pointer (some x29.2.2.1), .pointer (some x29.2.2.2.1), .pointer (some x29.2.2.2.2)]), (8, .pointer (some (⟨b32, 0, none⟩ : Addr)))]) (fun (s132 : (List Nat)) => (mks s132)) h ?_ ?_
        · rintro s132 w133 f1 h so; refine wk_then ?_
          refine wc_seq ?_
          refine wc_region ?_
          obtain ⟨x134, q135, h⟩ := h
          refine wl_val (at_load Try.underlying3 rfl rfl q135) rfl ?_
          refine wl_val (at_fieldAddr Try.underlying42 rfl rfl sz3 (by decide) rfl) rfl ?_
          obtain ⟨x136, q137, h⟩ := h
          refine wl_val (at_load Try.underlying3 rfl rfl q137) rfl ?_
          obtain ⟨x138, q139, h⟩ := h
          refine wl_val (at_load Try.underlying44 rfl rfl q139) rfl ?_
          refine wl_val (at_lenL Try.underlying44 rfl) rfl ?_
          refine wl_val (at_min rfl rfl) rfl ?_
          refine wl_val (at_neq rfl rfl) rfl ?_
          refine wl_nil ?_
          refine wk_prune [(1, .pointer (some (⟨b1, 0, none⟩ : Addr))), (2, .pointer (some (⟨b3, 0, none⟩ : Addr))), (3, .pointer (some (⟨b13, 0, none⟩ : Addr))), (5, .slice x16.2.2.2.2.1.a x16.2.2.2.2.1.n x16.2.2.2.2.1.c), (6, .slice x16.2.2.2.2.2.a x16.2.2.2.2.2.n x16.2.2.2.2.2.c), (7, .func (.func 36) #[] #[.pointer (some x29.1), .pointer (some x29.2.1), .pointer (some x29.2.2.1), .pointer (some x29.2.2.2.1), .pointer (some x29.2.2.2.2)]), (8, .pointer (some (⟨b32, 0, none⟩ : Addr))), (79, .bool (x134 != (if (x138.n : Int) < x136 then (x138.n : Int) else x136)))] ⟨rfl, rfl, rfl, rfl, rfl, rfl, rfl, rfl, trivial⟩ (fun f1 => ?_)
          refine wk_then ?_
          refine wc_cond rfl h (fun h => ?_) (fun h => ?_)
          · refine wc_seq ?_
            refine wc_region ?_
            refine wl_st (v := .bool false) h rfl so (fun q1 q2 => ef_store (sz := sz4) rfl rfl rfl q1 q2) ?_; intro w140 h so
            refine wl_nil ?_
            refine wk_prune [(2, .pointer (some (⟨b3, 0, none⟩ : Addr)))] ⟨rfl, trivial⟩ (fun f1 => ?_)
            refine wk_then ?_
            refine wc_ret ?_
            refine wk_thenR ?_
            refine wk_tk h so ?_; intro w141 h so
            obtain ⟨x143, q142, h⟩ := h
            exact wk_retR1 (x := x143) rfl ⟨by decide, _, rfl, loadVar_one Try.underlying4 rfl q142⟩ rfl so h
          · refine wc_skip ?_
            exact wk_prune [(1, .pointer (some (⟨b1, 0, none⟩ : Addr))), (2, .pointer (some (⟨b3, 0, none⟩ : Addr))), (3, .pointer (some (⟨b13, 0, none⟩ : Addr))), (5, .slice x16.2.2.2.2.1.a x16.2.2.2.2.1.n x16.2.2.2.2.1.c), (6, .slice x16.2.2.2.2.2.a x16.2.2.2.2.2.n x16.2.2.2.2.2.c), (7, .func (.func 36) #[] #[.pointer (some x29.1), .pointer (some x29.2.1), .pointer (some x29.2.2.1), .pointer (some x29.2.2.2.1), .pointer (some x29.2.2.2.2)]), (8, .pointer (some (⟨b32, 0, none⟩ : Addr)))] ⟨rfl, rfl, rfl, rfl, rfl, rfl, rfl, trivial⟩ (fun f1 => hJ35 (s132) _ f1 h so)
        · intro J131 h hJ131
          refine wc_seq ?_
          refine wc_region ?_
          refine wl_val (at_move rfl) rfl ?_
          refine wl_nil ?_
          refine wk_prune [(1, .pointer (some (⟨b1, 0, none⟩ : Addr))), (2, .pointer (some (⟨b3, 0, none⟩ : Addr))), (3, .pointer (some (⟨b13, 0, none⟩ : Addr))), (5, .slice x16.2.2.2.2.1.a x16.2.2.2.2.1.n x16.2.2.2.2.1.c), (6, .slice x16.2.2.2.2.2.a x16.2.2.2.2.2.n x16.2.2.2.2.2.c), (7, .func (.func 36) #[] #[.pointer (some x29.1), .pointer (some x29.2.1), .pointer (some x29.2.2.1), .pointer (some x29.2.2.2.1), .pointer (some x29.2.2.2.2)]), (8, .pointer (some (⟨b32, 0, none⟩ : Addr))), (53, .func (.func 36) #[] #[.pointer (some x29.1), .pointer (some x29.2.1), .pointer (some x29.2.2.1), .pointer (some x29.2.2.2.1), .pointer (some x29.2.2.2.2)])] ⟨rfl, rfl, rfl, rfl, rfl, rfl, rfl, rfl, trivial⟩ (fun f1 => ?_)
          refine wk_then ?_
          refine wc_block ?_
          refine wc_prune [(1, .pointer (some (⟨b1, 0, none⟩ : Addr))), (2, .pointer (some (⟨b3, 0, none⟩ : Addr))), (3, .pointer (some (⟨b13, 0, none⟩ : Addr))), (5, .slice x16.2.2.2.2.1.a x16.2.2.2.2.1.n x16.2.2.2.2.1.c), (6, .slice x16.2.2.2.2.2.a x16.2.2.2.2.2.n x16.2.2.2.2.2.c), (7, .func (.func 36) #[] #[.pointer (some x29.1), .pointer (some x29.2.1), .pointer (some x29.2.2.1), .pointer (some x29.2.2.2.1), .pointer (some x29.2.2.2.2)]), (8, .pointer (some (⟨b32, 0, none⟩ : Addr))), (53, .func (.func 36) #[] #[.pointer (some x29.1), .pointer (some x29.2.1), .pointer (some x29.2.2.1), .pointer (some x29.2.2.2.1), .pointer (some x29.2.2.2.2)])] ⟨rfl, rfl, rfl, rfl, rfl, rfl, rfl, rfl, trivial⟩ (fun f1 => ?_)
          refine wc_rng (caps := [.pointer (some x29.1), .pointer (some x29.2.1), .pointer (some x29.2.2.1), .pointer (some x29.2.2.2.1), .pointer (some x29.2.2.2.2)]) rfl enter36 so h ?_; intro r144 D152 w147 q145 q146 h so
          refine Ca.mono (geom_Walk_1.calls _ _ (yok (ps := [54]) q146 (fun _ => rfl) fun x148 w150 K149 h => ?_) _ _ _ _ _ w147 _ h) ?_
          · refine ⟨h.1, ?_⟩; replace h := h.2; have so := Sm.refl w150; refine wc_prune [(1, .pointer (some (⟨b1, 0, none⟩ : Addr))), (2, .pointer (some (⟨b3, 0, none⟩ : Addr))), (3, .pointer (some (⟨b13, 0, none⟩ : Addr))), (5, .slice x16.2.2.2.2.1.a x16.2.2.2.2.1.n x16.2.2.2.2.1.c), (6, .slice x16.2.2.2.2.2.a x16.2.2.2.2.2.n x16.2.2.2.2.2.c), (7, .func (.func 36) #[] #[.pointer (some x29.1), .pointer (some x29.2.1), .pointer (some x29.2.2.1), .pointer (some x29.2.2.2.1), .pointer (some x29.2.2.2.2)]), (8, .pointer (some (⟨b32, 0, none⟩ : Addr))), (54, .agg (c50 x148.1 x148.2.1 x148.2.2.1 x148.2.2.2.1 x148.2.2.2.2).toArray)] ⟨rfl, rfl, rfl, rfl, rfl, rfl, rfl, rfl, trivial⟩ (fun f1 => ?_)
            refine wc_region ?_
            refine wl_newT (T := 50) (cs := (c50 0 0 0 0 false)) (ef_alloc zero50 rfl) rfl so ?_; intro b153 w154 hb_b153 t_b153 k_b153 so
            have g_b153 := Nat.le_of_eq hb_b153.symm
            have hc := k_b153.ch (F := [])
            refine wl_stWT (vs := (c50 x148.1 x148.2.1 x148.2.2.1 x148.2.2.2.1 x148.2.2.2.2)) t_b153 (by first | (rw [len50, len50]) | (rw [len50]) | rfl) rfl so (fun q => ef_storeA (p := (⟨b153, 0, none⟩ : Addr)) (cs := (c50 x148.1 x148.2.1 x148.2.2.1 x148.2.2.2.1 x148.2.2.2.2)) (by rw [len50]; exact sz50) rfl rfl (one50 _ _ _ _ _) q) ?_; intro w155 t_b153 s_w155 so
            replace hc := ch_same hc s_w155 (.inr g_b153)
            refine wl_nil ?_
            replace h := h b153 _ hc g_b153 t_b153.lt; clear hc
            refine wk_prune [(1, .pointer (some (⟨b1, 0, none⟩ : Addr))), (2, .pointer (some (⟨b3, 0, none⟩ : Addr))), (3, .pointer (some (⟨b13, 0, none⟩ : Addr))), (5, .slice x16.2.2.2.2.1.a x16.2.2.2.2.1.n x16.2.2.2.2.1.c), (6, .slice x16.2.2.2.2.2.a x16.2.2.2.2.2.n x16.2.2.2.2.2.c), (7, .func (.func 36) #[] #[.pointer (some x29.1), .pointer (some x29.2.1), .pointer (some x29.2.2.1), .pointer (some x29.2.2.2.1), .pointer (some x29.2.2.2.2)]), (8, .pointer (some (⟨b32, 0, none⟩ : Addr))), (9, .pointer (some (⟨b153, 0, none⟩ : Addr)))] ⟨rfl, rfl, rfl, rfl, rfl, rfl, rfl, rfl, trivial⟩ (fun f1 => ?_)
            refine wk_asg q145 h so ?_; intro w156 h so
            obtain ⟨q157, h⟩ := h
            replace t_b153 := pv_bk q157 t_b153 (by simp)
            refine wc_block ?_
            refine wc_seq ?_
            refine wc_seq ?_
            refine wc_join (w0 := w150) (fun (s159 : Bool) => [(1, .pointer (some (⟨b1, 0, none⟩ : Addr))), (2, .pointer (some (⟨b3, 0, none⟩ : Addr))), (3, .pointer (some (⟨b13, 0, none⟩ : Addr))), (5, .slice x16.2.2.2.2.1.a x16.2.2.2.2.1.n x16.2.2.2.2.1.c), (6, .slice x16.2.2.2.2.2.a x16.2.2.2.2.2.n x16.2.2.2.2.2.c), (7, .func (.func 36) #[] #[.pointer (some x29.1), .pointer (some x29.2.1), .pointer (some x29.2.2.1), .pointer (some x29.2.2.2.1), .pointer (some x29.2.2.2.2)]), (8, .pointer (some (⟨b32, 0, none⟩ : Addr))), (66, .bool s159)]) h ?_ ?_
            · rintro s159 w160 f1 h so; refine wk_then ?_
              refine wc_cond rfl h (fun h => ?_) (fun h => ?_)
              · refine wc_seq ?_
                refine wc_region ?_
                refine wl_st (v := .bool false) h rfl so (fun q1 q2 => ef_store (sz := sz4) rfl rfl rfl q1 q2) ?_; intro w161 h so
                refine wl_nil ?_
                refine wk_prune [(2, .pointer (some (⟨b3, 0, none⟩ : Addr)))] ⟨rfl, trivial⟩ (fun f1 => ?_)
                refine wk_then ?_
                refine wc_ret ?_
                refine wk_thenR ?_
                refine wk_blkR ?_
                exact wk_rdR h so
              · refine wc_skip ?_
                refine wk_prune [(1, .pointer (some (⟨b1, 0, none⟩ : Addr))), (2, .pointer (some (⟨b3, 0, none⟩ : Addr))), (3, .pointer (some (⟨b13, 0, none⟩ : Addr))), (5, .slice x16.2.2.2.2.1.a x16.2.2.2.2.1.n x16.2.2.2.2.1.c), (6, .slice x16.2.2.2.2.2.a x16.2.2.2.2.2.n x16.2.2.2.2.2.c), (7, .func (.func 36) #[] #[.pointer (some x29.1), .pointer (some x29.2.1), .pointer (some x29.2.2.1), .pointer (some x29.2.2.2.1), .pointer (some x29.2.2.2.2)]), (8, .pointer (some (⟨b32, 0, none⟩ : Addr)))] ⟨rfl, rfl, rfl, rfl, rfl, rfl, rfl, trivial⟩ (fun f1 => ?_)
                refine wk_then ?_
                refine wc_seq ?_
                refine wc_region ?_
                obtain ⟨x162, q163, h⟩ := h
                refine wl_val (at_load Try.underlying3 rfl rfl q163) rfl ?_
                refine wl_val (at_add rfl rfl) rfl ?_
                refine wl_st (v := .int .i64 (IntKind.wrap .i64 (x162 + 1))) h rfl so (fun q1 q2 => ef_store (sz := sz3) rfl rfl rfl q1 q2) ?_; intro w164 h so
                refine wl_nil ?_
                refine wk_prune [(1, .pointer (some (⟨b1, 0, none⟩ : Addr))), (2, .pointer (some (⟨b3, 0, none⟩ : Addr))), (3, .pointer (some (⟨b13, 0, none⟩ : Addr))), (5, .slice x16.2.2.2.2.1.a x16.2.2.2.2.1.n x16.2.2.2.2.1.c), (6, .slice x16.2.2.2.2.2.a x16.2.2.2.2.2.n x16.2.2.2.2.2.c), (7, .func (.func 36) #[] #[.pointer (some x29.1), .pointer (some x29.2.1), .pointer (some x29.2.2.1), .pointer (some x29.2.2.2.1), .pointer (some x29.2.2.2.2)]), (8, .pointer (some (⟨b32, 0, none⟩ : Addr)))] ⟨rfl, rfl, rfl, rfl, rfl, rfl, rfl, trivial⟩ (fun f1 => ?_)
                refine wk_then ?_
                refine wc_seq ?_
                refine wc_region ?_
                obtain ⟨x165, q166, h⟩ := h
                refine wl_val (at_load Try.underlying3 rfl rfl q166) rfl ?_
                refine wl_val (at_fieldAddr Try.underlying42 rfl rfl sz3 (by decide) rfl) rfl ?_
                obtain ⟨x167, q168, h⟩ := h
                refine wl_val (at_load Try.underlying3 rfl rfl q168) rfl ?_
                refine wl_val (at_eql rfl rfl) rfl ?_
                refine wl_nil ?_
                refine wk_prune [(1, .pointer (some (⟨b1, 0, none⟩ : Addr))), (2, .pointer (some (⟨b3, 0, none⟩ : Addr))), (3, .pointer (some (⟨b13, 0, none⟩ : Addr))), (5, .slice x16.2.2.2.2.1.a x16.2.2.2.2.1.n x16.2.2.2.2.1.c), (6, .slice x16.2.2.2.2.2.a x16.2.2.2.2.2.n x16.2.2.2.2.2.c), (7, .func (.func 36) #[] #[.pointer (some x29.1), .pointer (some x29.2.1), .pointer (some x29.2.2.1), .pointer (some x29.2.2.2.1), .pointer (some x29.2.2.2.2)]), (8, .pointer (some (⟨b32, 0, none⟩ : Addr))), (72, .bool (x165 == x167))] ⟨rfl, rfl, rfl, rfl, rfl, rfl, rfl, rfl, trivial⟩ (fun f1 => ?_)
                refine wk_then ?_
                refine wc_cond rfl h (fun h => ?_) (fun h => ?_)
                · refine wc_exit ?_
                  refine wk_blkO (by decide) ?_
                  exact wk_rdE h so
                · refine wc_skip ?_
                  refine wk_blkN ?_
                  exact wk_rdN q145 h so
            · intro J158 h hJ158
              refine wc_wo [0, 0, 2, 7, 15, 31, 31, 31, 223, 479, 1023, 2047] mixed (by kernel_rfl) so ?_; intro w169 hw so; rw [← hw] at h t_b153; clear hw
              obtain ⟨x170, q171, h⟩ := h
              refine wo_load (m' := 1) 0 (fun H => cellAt H (⟨b32, 0, none⟩ : Addr) = some (.int .i64 x170)) rfl (by kernel_rfl) rfl rfl (fun H q171 => at_load Try.underlying3 rfl rfl q171) q171 ?_
              obtain ⟨x172, q173, h⟩ := h
              refine wo_load (m' := 3) 1 (fun H => cellAt H (⟨b13, 0, none⟩ : Addr) = some (.slice x172.a x172.n x172.c)) rfl (by kernel_rfl) rfl rfl (fun H q173 => at_load Try.underlying44 rfl rfl q173) q173 ?_
              refine wo_pure (m' := 7) 2 rfl (by kernel_rfl) rfl rfl (fun H => at_lenL Try.underlying44 rfl) ?_
              refine wo_pure (m' := 15) 3 rfl (by kernel_rfl) rfl rfl (fun H => at_geq rfl rfl) ?_
              refine wo_pure (m' := 31) 4 rfl (by kernel_rfl) rfl rfl (fun H => at_move rfl) ?_
              refine bif_ h (fun hb h => ?_) (fun hb h => ?_)
              · refine wo_set (t := 59) (v := .bool true) (congrArg Value.bool hb) ?_; clear hb
                refine wo_off (m' := 63) 5 rfl (by kernel_rfl) rfl (t := 59) rfl (by decide) rfl ?_
                refine wo_off (m' := 127) 6 rfl (by kernel_rfl) rfl (t := 59) rfl (by decide) rfl ?_
                refine wo_off (m' := 255) 7 rfl (by kernel_rfl) rfl (t := 59) rfl (by decide) rfl ?_
                refine wo_off (m' := 511) 8 rfl (by kernel_rfl) rfl (t := 59) rfl (by decide) rfl ?_
                refine wo_off (m' := 1023) 9 rfl (by kernel_rfl) rfl (t := 59) rfl (by decide) rfl ?_
                refine wo_off (m' := 2047) 10 rfl (by kernel_rfl) rfl (t := 59) rfl (by decide) rfl ?_
                refine wo_pure (m' := 4095) 11 rfl (by kernel_rfl) rfl rfl (fun H => at_pick_t rfl rfl) ?_
                refine wo_done (by kernel_rfl) ?_
                exact wk_prune [(1, .pointer (some (⟨b1, 0, none⟩ : Addr))), (2, .pointer (some (⟨b3, 0, none⟩ : Addr))), (3, .pointer (some (⟨b13, 0, none⟩ : Addr))), (5, .slice x16.2.2.2.2.1.a x16.2.2.2.2.1.n x16.2.2.2.2.1.c), (6, .slice x16.2.2.2.2.2.a x16.2.2.2.2.2.n x16.2.2.2.2.2.c), (7, .func (.func 36) #[] #[.pointer (some x29.1), .pointer (some x29.2.1), .pointer (some x29.2.2.1), .pointer (some x29.2.2.2.1), .pointer (some x29.2.2.2.2)]), (8, .pointer (some (⟨b32, 0, none⟩ : Addr))), (66, .bool true)] ⟨rfl, rfl, rfl, rfl, rfl, rfl, rfl, rfl, trivial⟩ (fun f1 => hJ158 (true) _ f1 h so)
              · refine wo_set (t := 59) (v := .bool false) (congrArg Value.bool hb) ?_; clear hb
                have q174 : ldA w169.heap (⟨b153, 0, none⟩ : Addr) (c50 x148.1 x148.2.1 x148.2.2.1 x148.2.2.2.1 x148.2.2.2.2) := ldA_full t_b153
                refine wo_loadG (m' := 63) 5 (fun H => ldA H (⟨b153, 0, none⟩ : Addr) (c50 x148.1 x148.2.1 x148.2.2.1 x148.2.2.2.1 x148.2.2.2.2)) rfl (by kernel_rfl) rfl (t := 59) rfl (by decide) rfl (fun H q174 => at_loadA (cs := (c50 x148.1 x148.2.1 x148.2.2.1 x148.2.2.2.1 x148.2.2.2.2)) Try.underlying50 rfl (by rw [len50]; exact sz50) rfl (q174)) q174 ?_
                obtain ⟨x175, q176, h⟩ := h
                refine wo_loadG (m' := 127) 6 (fun H => cellAt H (⟨b13, 0, none⟩ : Addr) = some (.slice x175.a x175.n x175.c)) rfl (by kernel_rfl) rfl (t := 59) rfl (by decide) rfl (fun H q176 => at_load Try.underlying44 rfl rfl q176) q176 ?_
                obtain ⟨x177, q178, h⟩ := h
                refine wo_loadG (m' := 255) 7 (fun H => cellAt H (⟨b32, 0, none⟩ : Addr) = some (.int .i64 x177)) rfl (by kernel_rfl) rfl (t := 59) rfl (by decide) rfl (fun H q178 => at_load Try.underlying3 rfl rfl q178) q178 ?_
                obtain ⟨q179, q180, p181, q182, h⟩ := h
                refine wo_pureG (m' := 511) 8 rfl (by kernel_rfl) rfl (t := 59) rfl (by decide) rfl (fun H => at_ixAddrL Try.underlying44 sz50 (sl_some q182) rfl q179 q180) ?_
                obtain ⟨x183, x184, x185, x186, x187, q188, h⟩ := h
                refine wo_loadG (m' := 1023) 9 (fun H => ldA H (p181.add (Int.toNat x177 * 5)) (c50 x183 x184 x185 x186 x187)) rfl (by kernel_rfl) rfl (t := 59) rfl (by decide) rfl (fun H q188 => at_loadA (cs := (c50 x183 x184 x185 x186 x187)) Try.underlying50 rfl (by rw [len50]; exact sz50) rfl q188) q188 ?_
                refine wo_pureG (m' := 2047) 10 rfl (by kernel_rfl) rfl (t := 59) rfl (by decide) rfl (fun H => at_neqA (xs := (c50 x148.1 x148.2.1 x148.2.2.1 x148.2.2.2.1 x148.2.2.2.2)) (ys := (c50 x183 x184 x185 x186 x187)) rfl rfl (by kernel_rfl) (eqv_struct Try.underlying50 (by kernel_rfl) (eqf_cons rfl (pt_one (v := .int .i64 x148.1) Try.underlying3 rfl rfl) (pt_one (v := .int .i64 x183) Try.underlying3 rfl rfl) (eqv_int Try.underlying3) (eqf_cons rfl (pt_one (v := .int .i64 x148.2.1) Try.underlying3 rfl rfl) (pt_one (v := .int .i64 x184) Try.underlying3 rfl rfl) (eqv_int Try.underlying3) (eqf_cons rfl (pt_one (v := .int .i64 x148.2.2.1) Try.underlying3 rfl rfl) (pt_one (v := .int .i64 x185) Try.underlying3 rfl rfl) (eqv_int Try.underlying3) (eqf_cons rfl (pt_one (v := .int .i64 x148.2.2.2.1) Try.underlying3 rfl rfl) (pt_one (v := .int .i64 x186) Try.underlying3 rfl rfl) (eqv_int Try.underlying3) (eqf_last rfl (pt_one (v := .bool x148.2.2.2.2) Try.underlying4 rfl rfl) (pt_one (v := .bool x187) Try.underlying4 rfl rfl) (eqv_bool Try.underlying4)))))))) ?_
                refine wo_pure (m' := 4095) 11 rfl (by kernel_rfl) rfl rfl (fun H => at_pick_f rfl rfl) ?_
                refine wo_done (by kernel_rfl) ?_
                exact wk_prune [(1, .pointer (some (⟨b1, 0, none⟩ : Addr))), (2, .pointer (some (⟨b3, 0, none⟩ : Addr))), (3, .pointer (some (⟨b13, 0, none⟩ : Addr))), (5, .slice x16.2.2.2.2.1.a x16.2.2.2.2.1.n x16.2.2.2.2.1.c), (6, .slice x16.2.2.2.2.2.a x16.2.2.2.2.2.n x16.2.2.2.2.2.c), (7, .func (.func 36) #[] #[.pointer (some x29.1), .pointer (some x29.2.1), .pointer (some x29.2.2.1), .pointer (some x29.2.2.2.1), .pointer (some x29.2.2.2.2)]), (8, .pointer (some (⟨b32, 0, none⟩ : Addr))), (66, .bool (!((x148.1 == x183) && ((x148.2.1 == x184) && ((x148.2.2.1 == x185) && ((x148.2.2.2.1 == x186) && (x148.2.2.2.2 == x187)))))))] ⟨rfl, rfl, rfl, rfl, rfl, rfl, rfl, rfl, trivial⟩ (fun f1 => hJ158 ((!((x148.1 == x183) && ((x148.2.1 == x184) && ((x148.2.2.1 == x185) && ((x148.2.2.2.1 == x186) && (x148.2.2.2.2 == x187))))))) _ f1 h so)
          · rintro _ w151 ⟨_, rfl, h, q189⟩; replace so := so.trans q189
            rcases h with h | h | h
            · refine rp_none q145 h so ?_; intro w190 h so
              refine wk_blkN ?_
              exact wk_prune [(1, .pointer (some (⟨b1, 0, none⟩ : Addr))), (2, .pointer (some (⟨b3, 0, none⟩ : Addr))), (3, .pointer (some (⟨b13, 0, none⟩ : Addr))), (5, .slice x16.2.2.2.2.1.a x16.2.2.2.2.1.n x16.2.2.2.2.1.c), (6, .slice x16.2.2.2.2.2.a x16.2.2.2.2.2.n x16.2.2.2.2.2.c), (7, .func (.func 36) #[] #[.pointer (some x29.1), .pointer (some x29.2.1), .pointer (some x29.2.2.1), .pointer (some x29.2.2.2.1), .pointer (some x29.2.2.2.2)]), (8, .pointer (some (⟨b32, 0, none⟩ : Addr)))] ⟨rfl, rfl, rfl, rfl, rfl, rfl, rfl, trivial⟩ (fun f1 => hJ131 ((D152 :: [])) _ f1 h so)
            · refine rp_jump h so ?_; intro w191 h so; refine wc_ret ?_
              refine wk_blkR ?_
              refine wk_thenR ?_
              refine wk_thenR ?_
              refine wk_tk h so ?_; intro w192 h so
              obtain ⟨x194, q193, h⟩ := h
              exact wk_retR1 (x := x194) rfl ⟨by decide, _, rfl, loadVar_one Try.underlying4 rfl q193⟩ rfl so h
            · refine rp_jump h so ?_; intro w195 h so; refine wc_exit ?_
              refine wk_blkE ?_
              exact wk_prune [(1, .pointer (some (⟨b1, 0, none⟩ : Addr))), (2, .pointer (some (⟨b3, 0, none⟩ : Addr))), (3, .pointer (some (⟨b13, 0, none⟩ : Addr))), (5, .slice x16.2.2.2.2.1.a x16.2.2.2.2.1.n x16.2.2.2.2.1.c), (6, .slice x16.2.2.2.2.2.a x16.2.2.2.2.2.n x16.2.2.2.2.2.c), (7, .func (.func 36) #[] #[.pointer (some x29.1), .pointer (some x29.2.1), .pointer (some x29.2.2.1), .pointer (some x29.2.2.2.1), .pointer (some x29.2.2.2.2)]), (8, .pointer (some (⟨b32, 0, none⟩ : Addr)))] ⟨rfl, rfl, rfl, rfl, rfl, rfl, rfl, trivial⟩ (fun f1 => hJ131 ((D152 :: [])) _ f1 h so)
      · refine wc_skip ?_
        exact wk_prune [(1, .pointer (some (⟨b1, 0, none⟩ : Addr))), (2, .pointer (some (⟨b3, 0, none⟩ : Addr))), (3, .pointer (some (⟨b13, 0, none⟩ : Addr))), (5, .slice x16.2.2.2.2.1.a x16.2.2.2.2.1.n x16.2.2.2.2.1.c), (6, .slice x16.2.2.2.2.2.a x16.2.2.2.2.2.n x16.2.2.2.2.2.c), (7, .func (.func 36) #[] #[.pointer (some x29.1), .pointer (some x29.2.1), .pointer (some x29.2.2.1), .pointer (some x29.2.2.2.1), .pointer (some x29.2.2.2.2)]), (8, .pointer (some (⟨b32, 0, none⟩ : Addr)))] ⟨rfl, rfl, rfl, rfl, rfl, rfl, rfl, trivial⟩ (fun f1 => hJ35 ([]) _ f1 h so)
end Go.Proofs.Ytlonijlcddlhjaa.G
