import Derived.Test.YtlonijlcddlhjaaGF
import Derived.Test.YtlonijlcddlhjaaKgeom
import Derived.Test.YtlonijlcddlhjaaKmosaiclaw14
import Derived.Test.YtlonijlcddlhjaaKmosaicref14
namespace Go.Proofs.Ytlonijlcddlhjaa.G
open Go.RowKit
set_option linter.unusedVariables false
set_option linter.unusedSimpArgs false
/-- mosaic/mosaiclaw14.GeomSays -/
def mosaiclaw14_GeomSays.enc : Bool → Value := fun r => .bool r
def mosaiclaw14_GeomSays.s (a0_0 : Int) (a0_1 : Int) (a0_2 : Int) (a0_3 : Sl) (a1 : Sl) (a2 : Int) (a3 : Int) (H0 : Hp) (Q : Bool → Hp → Prop) : Prop :=
  Gn [] H0 (fun (b1 : Nat) (H2 : Hp) => mosaiclaw14_lent.s a0_0 a0_1 a0_2 a0_3 a1 H2 (fun x3 H4 => Pv [b1] H2 H4 ∧ (Gn [] H4 (fun (b6 : Nat) (H8 : Hp) => 0 ≤ (a1.n : Int) ∧ (a1.n : Int) ≤ (x3.2.2.2.2.2.c : Int) ∧ (Join (fun (s12 : Bool) (H13 : Hp) => geom_Most.s x3.1 x3.2.1 x3.2.2.1 x3.2.2.2.1 H13 (fun x14 H15 => Pv [b1, b6] H13 H15 ∧ (mosaicref14_Most.s a0_0 a0_1 a0_2 a0_3 H15 (fun x17 H18 => Pv [b1, b6] H15 H18 ∧ (geom_Samples.s x3.1 x3.2.1 x3.2.2.1 x3.2.2.2.1 a2 H18 (fun x20 H21 => Pv [b1, b6] H18 H21 ∧ (mosaicref14_Samples.s a0_0 a0_1 a0_2 a0_3 a2 H21 (fun x23 H24 => Pv [b1, b6] H21 H24 ∧ (geom_Blocks.s x3.1 x3.2.1 x3.2.2.1 x3.2.2.2.1 a2 H24 (fun x26 H27 => Pv [b1, b6] H24 H27 ∧ (mosaicref14_Blocks.s a0_0 a0_1 a0_2 a0_3 a2 H27 (fun x29 H30 => Pv [b1, b6] H27 H30 ∧ (geom_Units.s x3.1 x3.2.1 x3.2.2.1 x3.2.2.2.1 (slS x3.2.2.2.2.2 3 0 (a1.n : Int)) H30 (fun x32 H33 => Pv [b1, b6] H30 H33 ∧ (mosaicref14_Units.s a0_0 a0_1 a0_2 a0_3 a1 H33 (fun x35 H36 => Pv [b1, b6] H33 H36 ∧ (geom_Intervals.s x3.1 x3.2.1 x3.2.2.1 x3.2.2.2.1 (slS x3.2.2.2.2.2 3 0 (a1.n : Int)) a3 H36 (fun x38 H39 => Pv [b1] H36 H39 ∧ (Join (fun (s42 : Bool) (H43 : Hp) => if s42 = true then (Q false H43) else (if s12 = true then (mosaicref14_Intervals.s a0_0 a0_1 a0_2 a0_3 a1 a3 H43 (fun x44 H45 => Pv [b1] H43 H45 ∧ (if (x38 == x44) = true then (mosaiclaw14_stays.s x3.2.2.2.2.1 x3.2.2.2.2.2 a0_0 a0_1 a0_2 a0_3 a1 H45 (fun x47 H48 => Q x47 H48)) else (Q false H45)))) else (Q false H43))) (fun (J41 : Bool → Hp → Prop) => if (x14.1 != x17.1) = true then (J41 (true) H39) else (if (x14.2 != x17.2) = true then (J41 (true) H39) else (if (x20.1 != x23.1) = true then (J41 (true) H39) else (if (x20.2 != x23.2) = true then (J41 (true) H39) else (if (x26.1 != x29.1) = true then (J41 (true) H39) else (if (x26.2 != x29.2) = true then (J41 (true) H39) else (if (x32.1 != x35.1) = true then (J41 (true) H39) else (J41 ((x32.2 != x35.2)) H39))))))))))))))))))))))))))) (fun (J11 : Bool → Hp → Prop) => geom_Check.s x3.1 x3.2.1 x3.2.2.1 x3.2.2.2.1 H8 (fun x52 H53 => Pv [b1, b6] H8 H53 ∧ (mosaicref14_Check.s a0_0 a0_1 a0_2 a0_3 H53 (fun x55 H56 => Pv [b1, b6] H53 H56 ∧ (if (x52 == x55) = true then (geom_Parts.s x3.1 x3.2.1 x3.2.2.1 x3.2.2.2.1 (slS x3.2.2.2.2.2 3 0 (a1.n : Int)) H56 (fun x60 H61 => Pv [b1, b6] H56 H61 ∧ (mosaicref14_Parts.s a0_0 a0_1 a0_2 a0_3 a1 H61 (fun x63 H64 => Pv [b1, b6] H61 H64 ∧ (J11 ((x60 == x63)) H64))))) else (J11 (false) H56)))))))))))
set_option maxRecDepth 20000 in
set_option maxHeartbeats 4000000 in
theorem mosaiclaw14_GeomSays.calls (a0_0 : Int) (a0_1 : Int) (a0_2 : Int) (a0_3 : Sl) (a1 : Sl) (a2 : Int) (a3 : Int) (w0 : World) (Q : Bool → Hp → Prop) (h : mosaiclaw14_GeomSays.s a0_0 a0_1 a0_2 a0_3 a1 a2 a3 w0.heap Q) :
    Ca Try.prog 4 #[.agg (c26 a0_0 a0_1 a0_2 a0_3).toArray, .slice a1.a a1.n a1.c, .int .i64 a2, .int .i64 a3] w0 (Rt mosaiclaw14_GeomSays.enc Q w0) := by
  refine ca_start (c := _) Try.func4 rfl Try.ntmps4 rfl ?_
  have so : Sm w0 w0 := Sm.refl w0
  unfold mosaiclaw14_GeomSays.s at h
  refine wc_prune [(0, .agg (c26 a0_0 a0_1 a0_2 a0_3).toArray), (1, .slice a1.a a1.n a1.c), (2, .int .i64 a2), (3, .int .i64 a3)] ⟨rfl, rfl, rfl, rfl, trivial⟩ (fun f1 => ?_)
  refine wc_seq ?_
  refine wc_region ?_
  refine wl_newT (T := 26) (cs := (c26 a0_0 a0_1 a0_2 a0_3)) (ef_box rfl rfl) rfl so ?_; intro b1 w2 hb_b1 t_b1 k_b1 so
  have g_b1 := Nat.le_of_eq hb_b1.symm
  have hc := k_b1.ch (F := [])
  refine wl_val (at_assign rfl) rfl ?_
  refine wl_nil ?_
  refine wk_prune [(1, .slice a1.a a1.n a1.c), (2, .int .i64 a2), (3, .int .i64 a3), (4, .pointer (some (⟨b1, 0, none⟩ : Addr)))] ⟨rfl, rfl, rfl, rfl, trivial⟩ (fun f1 => ?_)
  refine wk_then ?_
  refine wc_seq ?_
  refine wc_region ?_
  refine wl_val (at_loadA (cs := (c26 a0_0 a0_1 a0_2 a0_3)) Try.underlying26 rfl (by rw [len26]; exact sz26) rfl (ldA_full t_b1)) rfl ?_
  refine wl_val (at_move rfl) rfl ?_
  replace h := h b1 _ hc g_b1 t_b1.lt; clear hc
  refine wl_callF (mosaiclaw14_lent.calls _ _ _ _ _ _ _ h) enter11 rfl trivial so ?_; intro x3 w4 h so
  obtain ⟨q5, h⟩ := h
  replace t_b1 := pv_bk q5 t_b1 (by simp)
  refine wl_val (at_move rfl) rfl ?_
  refine wl_val (at_extract rfl rfl) rfl ?_
  refine wl_val (at_extract rfl rfl) rfl ?_
  refine wl_val (at_extract rfl rfl) rfl ?_
  refine wl_newT (T := 26) (cs := (c26 0 0 0 ⟨none, 0, 0⟩)) (ef_alloc zero26 rfl) rfl so ?_; intro b6 w7 hb_b6 t_b6 k_b6 so
  have g_b6 := Nat.le_of_eq hb_b6.symm
  have hc := k_b6.ch (F := [])
  have n_b1_b6 : b1 ≠ b6 := fun e => by have := t_b1.lt; omega
  replace t_b1 := t_b1.keep k_b6
  refine wl_stWT (vs := (c26 x3.1 x3.2.1 x3.2.2.1 x3.2.2.2.1)) t_b6 (by first | (rw [len26, len26]) | (rw [len26]) | rfl) rfl so (fun q => ef_storeA (p := (⟨b6, 0, none⟩ : Addr)) (cs := (c26 x3.1 x3.2.1 x3.2.2.1 x3.2.2.2.1)) (by rw [len26]; exact sz26) rfl rfl (one26 _ _ _ _) q) ?_; intro w8 t_b6 s_w8 so
  replace t_b1 := t_b1.same s_w8 (n_b1_b6)
  replace hc := ch_same hc s_w8 (.inr g_b6)
  refine wl_val (at_assign rfl) rfl ?_
  refine wl_val (at_assign rfl) rfl ?_
  refine wl_nil ?_
  refine wk_prune [(1, .slice a1.a a1.n a1.c), (2, .int .i64 a2), (3, .int .i64 a3), (4, .pointer (some (⟨b1, 0, none⟩ : Addr))), (9, .pointer (some (⟨b6, 0, none⟩ : Addr))), (10, .slice x3.2.2.2.2.1.a x3.2.2.2.2.1.n x3.2.2.2.2.1.c), (11, .slice x3.2.2.2.2.2.a x3.2.2.2.2.2.n x3.2.2.2.2.2.c)] ⟨rfl, rfl, rfl, rfl, rfl, rfl, rfl, trivial⟩ (fun f1 => ?_)
  refine wk_then ?_
  refine wc_seq ?_
  refine wc_region ?_
  refine wl_val (at_move rfl) rfl ?_
  refine wl_val (at_move rfl) rfl ?_
  refine wl_val (at_lenL Try.underlying32 rfl) rfl ?_
  replace h := h b6 _ hc g_b6 t_b6.lt; clear hc
  obtain ⟨q9, q10, h⟩ := h
  refine wl_val (at_subLh (s := x3.2.2.2.2.2) Try.underlying32 sz52 rfl rfl q9 q10) rfl ?_
  refine wl_val (at_assign rfl) rfl ?_
  refine wl_nil ?_
  refine wk_prune [(1, .slice a1.a a1.n a1.c), (2, .int .i64 a2), (3, .int .i64 a3), (4, .pointer (some (⟨b1, 0, none⟩ : Addr))), (9, .pointer (some (⟨b6, 0, none⟩ : Addr))), (10, .slice x3.2.2.2.2.1.a x3.2.2.2.2.1.n x3.2.2.2.2.1.c), (11, .slice x3.2.2.2.2.2.a x3.2.2.2.2.2.n x3.2.2.2.2.2.c), (12, .slice ((slS x3.2.2.2.2.2 3 0 (a1.n : Int)).a) ((slS x3.2.2.2.2.2 3 0 (a1.n : Int)).n) ((slS x3.2.2.2.2.2 3 0 (a1.n : Int)).c))] ⟨rfl, rfl, rfl, rfl, rfl, rfl, rfl, rfl, trivial⟩ (fun f1 => ?_)
  refine wk_then ?_
  refine wc_seq ?_
  refine wc_joinG (w0 := w0) (fun (H : Hp) => Bk H b1 26 (c26 a0_0 a0_1 a0_2 a0_3) ∧ Bk H b6 26 (c26 x3.1 x3.2.1 x3.2.2.1 x3.2.2.2.1) ∧ True) (fun (s12 : Bool) => [(1, .slice a1.a a1.n a1.c), (2, .int .i64 a2), (3, .int .i64 a3), (4, .pointer (some (⟨b1, 0, none⟩ : Addr))), (9, .pointer (some (⟨b6, 0, none⟩ : Addr))), (10, .slice x3.2.2.2.2.1.a x3.2.2.2.2.1.n x3.2.2.2.2.1.c), (11, .slice x3.2.2.2.2.2.a x3.2.2.2.2.2.n x3.2.2.2.2.2.c), (12, .slice ((slS x3.2.2.2.2.2 3 0 (a1.n : Int)).a) ((slS x3.2.2.2.2.2 3 0 (a1.n : Int)).n) ((slS x3.2.2.2.2.2 3 0 (a1.n : Int)).c)), (13, .bool s12)]) (fun (s12 : Bool) => []) h ?_ ?_
  · rintro s12 w13 f1 h ⟨t_b1, t_b6, _⟩ so; refine wk_then ?_
    refine wc_seq ?_
    refine wc_region ?_
    refine wl_val (at_loadA (cs := (c26 x3.1 x3.2.1 x3.2.2.1 x3.2.2.2.1)) Try.underlying26 rfl (by rw [len26]; exact sz26) rfl (ldA_full t_b6)) rfl ?_
    refine wl_callF (geom_Most.calls _ _ _ _ _ _ h) enter15 rfl trivial so ?_; intro x14 w15 h so
    obtain ⟨q16, h⟩ := h
    replace t_b1 := pv_bk q16 t_b1 (by simp)
    replace t_b6 := pv_bk q16 t_b6 (by simp)
    refine wl_val (at_move rfl) rfl ?_
    refine wl_val (at_extract rfl rfl) rfl ?_
    refine wl_val (at_extract rfl rfl) rfl ?_
    refine wl_val (at_assign rfl) rfl ?_
    refine wl_val (at_assign rfl) rfl ?_
    refine wl_nil ?_
    refine wk_prune [(1, .slice a1.a a1.n a1.c), (2, .int .i64 a2), (3, .int .i64 a3), (4, .pointer (some (⟨b1, 0, none⟩ : Addr))), (9, .pointer (some (⟨b6, 0, none⟩ : Addr))), (10, .slice x3.2.2.2.2.1.a x3.2.2.2.2.1.n x3.2.2.2.2.1.c), (11, .slice x3.2.2.2.2.2.a x3.2.2.2.2.2.n x3.2.2.2.2.2.c), (12, .slice ((slS x3.2.2.2.2.2 3 0 (a1.n : Int)).a) ((slS x3.2.2.2.2.2 3 0 (a1.n : Int)).n) ((slS x3.2.2.2.2.2 3 0 (a1.n : Int)).c)), (13, .bool s12), (14, .int .i64 x14.1), (15, .int .i64 x14.2)] ⟨rfl, rfl, rfl, rfl, rfl, rfl, rfl, rfl, rfl, rfl, rfl, trivial⟩ (fun f1 => ?_)
    refine wk_then ?_
    refine wc_seq ?_
    refine wc_region ?_
    refine wl_val (at_loadA (cs := (c26 a0_0 a0_1 a0_2 a0_3)) Try.underlying26 rfl (by rw [len26]; exact sz26) rfl (ldA_full t_b1)) rfl ?_
    refine wl_callF (mosaicref14_Most.calls _ _ _ _ _ _ h) enter16 rfl trivial so ?_; intro x17 w18 h so
    obtain ⟨q19, h⟩ := h
    replace t_b1 := pv_bk q19 t_b1 (by simp)
    replace t_b6 := pv_bk q19 t_b6 (by simp)
    refine wl_val (at_move rfl) rfl ?_
    refine wl_val (at_extract rfl rfl) rfl ?_
    refine wl_val (at_extract rfl rfl) rfl ?_
    refine wl_val (at_assign rfl) rfl ?_
    refine wl_val (at_assign rfl) rfl ?_
    refine wl_nil ?_
    refine wk_prune [(1, .slice a1.a a1.n a1.c), (2, .int .i64 a2), (3, .int .i64 a3), (4, .pointer (some (⟨b1, 0, none⟩ : Addr))), (9, .pointer (some (⟨b6, 0, none⟩ : Addr))), (10, .slice x3.2.2.2.2.1.a x3.2.2.2.2.1.n x3.2.2.2.2.1.c), (11, .slice x3.2.2.2.2.2.a x3.2.2.2.2.2.n x3.2.2.2.2.2.c), (12, .slice ((slS x3.2.2.2.2.2 3 0 (a1.n : Int)).a) ((slS x3.2.2.2.2.2 3 0 (a1.n : Int)).n) ((slS x3.2.2.2.2.2 3 0 (a1.n : Int)).c)), (13, .bool s12), (14, .int .i64 x14.1), (15, .int .i64 x14.2), (16, .int .i64 x17.1), (17, .int .i64 x17.2)] ⟨rfl, rfl, rfl, rfl, rfl, rfl, rfl, rfl, rfl, rfl, rfl, rfl, rfl, trivial⟩ (fun f1 => ?_)
    refine wk_then ?_
    refine wc_seq ?_
    refine wc_region ?_
    refine wl_val (at_loadA (cs := (c26 x3.1 x3.2.1 x3.2.2.1 x3.2.2.2.1)) Try.underlying26 rfl (by rw [len26]; exact sz26) rfl (ldA_full t_b6)) rfl ?_
    refine wl_val (at_move rfl) rfl ?_
    refine wl_callF (geom_Samples.calls _ _ _ _ _ _ _ h) enter17 rfl trivial so ?_; intro x20 w21 h so
    obtain ⟨q22, h⟩ := h
    replace t_b1 := pv_bk q22 t_b1 (by simp)
    replace t_b6 := pv_bk q22 t_b6 (by simp)
    refine wl_val (at_move rfl) rfl ?_
    refine wl_val (at_extract rfl rfl) rfl ?_
    refine wl_val (at_extract rfl rfl) rfl ?_
    refine wl_val (at_assign rfl) rfl ?_
    refine wl_val (at_assign rfl) rfl ?_
    refine wl_nil ?_
    refine wk_prune [(1, .slice a1.a a1.n a1.c), (2, .int .i64 a2), (3, .int .i64 a3), (4, .pointer (some (⟨b1, 0, none⟩ : Addr))), (9, .pointer (some (⟨b6, 0, none⟩ : Addr))), (10, .slice x3.2.2.2.2.1.a x3.2.2.2.2.1.n x3.2.2.2.2.1.c), (11, .slice x3.2.2.2.2.2.a x3.2.2.2.2.2.n x3.2.2.2.2.2.c), (12, .slice ((slS x3.2.2.2.2.2 3 0 (a1.n : Int)).a) ((slS x3.2.2.2.2.2 3 0 (a1.n : Int)).n) ((slS x3.2.2.2.2.2 3 0 (a1.n : Int)).c)), (13, .bool s12), (14, .int .i64 x14.1), (15, .int .i64 x14.2), (16, .int .i64 x17.1), (17, .int .i64 x17.2), (18, .int .i64 x20.1), (19, .int .i64 x20.2)] ⟨rfl, rfl, rfl, rfl, rfl, rfl, rfl, rfl, rfl, rfl, rfl, rfl, rfl, rfl, rfl, trivial⟩ (fun f1 => ?_)
    refine wk_then ?_
    refine wc_seq ?_
    refine wc_region ?_
    refine wl_val (at_loadA (cs := (c26 a0_0 a0_1 a0_2 a0_3)) Try.underlying26 rfl (by rw [len26]; exact sz26) rfl (ldA_full t_b1)) rfl ?_
    refine wl_val (at_move rfl) rfl ?_
    refine wl_callF (mosaicref14_Samples.calls _ _ _ _ _ _ _ h) enter18 rfl trivial so ?_; intro x23 w24 h so
    obtain ⟨q25, h⟩ := h
    replace t_b1 := pv_bk q25 t_b1 (by simp)
    replace t_b6 := pv_bk q25 t_b6 (by simp)
    refine wl_val (at_move rfl) rfl ?_
    refine wl_val (at_extract rfl rfl) rfl ?_
    refine wl_val (at_extract rfl rfl) rfl ?_
    refine wl_val (at_assign rfl) rfl ?_
    refine wl_val (at_assign rfl) rfl ?_
    refine wl_nil ?_
    refine wk_prune [(1, .slice a1.a a1.n a1.c), (2, .int .i64 a2), (3, .int .i64 a3), (4, .pointer (some (⟨b1, 0, none⟩ : Addr))), (9, .pointer (some (⟨b6, 0, none⟩ : Addr))), (10, .slice x3.2.2.2.2.1.a x3.2.2.2.2.1.n x3.2.2.2.2.1.c), (11, .slice x3.2.2.2.2.2.a x3.2.2.2.2.2.n x3.2.2.2.2.2.c), (12, .slice ((slS x3.2.2.2.2.2 3 0 (a1.n : Int)).a) ((slS x3.2.2.2.2.2 3 0 (a1.n : Int)).n) ((slS x3.2.2.2.2.2 3 0 (a1.n : Int)).c)), (13, .bool s12), (14, .int .i64 x14.1), (15, .int .i64 x14.2), (16, .int .i64 x17.1), (17, .int .i64 x17.2), (18, .int .i64 x20.1), (19, .int .i64 x20.2), (20, .int .i64 x23.1), (21, .int .i64 x23.2)] ⟨rfl, rfl, rfl, rfl, rfl, rfl, rfl, rfl, rfl, rfl, rfl, rfl, rfl, rfl, rfl, rfl, rfl, trivial⟩ (fun f1 => ?_)
    refine wk_then ?_
    refine wc_seq ?_
    refine wc_region ?_
    refine wl_val (at_loadA (cs := (c26 x3.1 x3.2.1 x3.2.2.1 x3.2.2.2.1)) Try.underlying26 rfl (by rw [len26]; exact sz26) rfl (ldA_full t_b6)) rfl ?_
    refine wl_val (at_move rfl) rfl ?_
    refine wl_callF (geom_Blocks.calls _ _ _ _ _ _ _ h) enter9 rfl trivial so ?_; intro x26 w27 h so
    obtain ⟨q28, h⟩ := h
    replace t_b1 := pv_bk q28 t_b1 (by simp)
    replace t_b6 := pv_bk q28 t_b6 (by simp)
    refine wl_val (at_move rfl) rfl ?_
    refine wl_val (at_extract rfl rfl) rfl ?_
    refine wl_val (at_extract rfl rfl) rfl ?_
    refine wl_val (at_assign rfl) rfl ?_
    refine wl_val (at_assign rfl) rfl ?_
    refine wl_nil ?_
    refine wk_prune [(1, .slice a1.a a1.n a1.c), (2, .int .i64 a2), (3, .int .i64 a3), (4, .pointer (some (⟨b1, 0, none⟩ : Addr))), (9, .pointer (some (⟨b6, 0, none⟩ : Addr))), (10, .slice x3.2.2.2.2.1.a x3.2.2.2.2.1.n x3.2.2.2.2.1.c), (11, .slice x3.2.2.2.2.2.a x3.2.2.2.2.2.n x3.2.2.2.2.2.c), (12, .slice ((slS x3.2.2.2.2.2 3 0 (a1.n : Int)).a) ((slS x3.2.2.2.2.2 3 0 (a1.n : Int)).n) ((slS x3.2.2.2.2.2 3 0 (a1.n : Int)).c)), (13, .bool s12), (14, .int .i64 x14.1), (15, .int .i64 x14.2), (16, .int .i64 x17.1), (17, .int .i64 x17.2), (18, .int .i64 x20.1), (19, .int .i64 x20.2), (20, .int .i64 x23.1), (21, .int .i64 x23.2), (22, .int .i64 x26.1), (23, .int .i64 x26.2)] ⟨rfl, rfl, rfl, rfl, rfl, rfl, rfl, rfl, rfl, rfl, rfl, rfl, rfl, rfl, rfl, rfl, rfl, rfl, rfl, trivial⟩ (fun f1 => ?_)
    refine wk_then ?_
    refine wc_seq ?_
    refine wc_region ?_
    refine wl_val (at_loadA (cs := (c26 a0_0 a0_1 a0_2 a0_3)) Try.underlying26 rfl (by rw [len26]; exact sz26) rfl (ldA_full t_b1)) rfl ?_
    refine wl_val (at_move rfl) rfl ?_
    refine wl_callF (mosaicref14_Blocks.calls _ _ _ _ _ _ _ h) enter19 rfl trivial so ?_; intro x29 w30 h so
    obtain ⟨q31, h⟩ := h
    replace t_b1 := pv_bk q31 t_b1 (by simp)
    replace t_b6 := pv_bk q31 t_b6 (by simp)
    refine wl_val (at_move rfl) rfl ?_
    refine wl_val (at_extract rfl rfl) rfl ?_
    refine wl_val (at_extract rfl rfl) rfl ?_
    refine wl_val (at_assign rfl) rfl ?_
    refine wl_val (at_assign rfl) rfl ?_
    refine wl_nil ?_
    refine wk_prune [(1, .slice a1.a a1.n a1.c), (3, .int .i64 a3), (4, .pointer (some (⟨b1, 0, none⟩ : Addr))), (9, .pointer (some (⟨b6, 0, none⟩ : Addr))), (10, .slice x3.2.2.2.2.1.a x3.2.2.2.2.1.n x3.2.2.2.2.1.c), (11, .slice x3.2.2.2.2.2.a x3.2.2.2.2.2.n x3.2.2.2.2.2.c), (12, .slice ((slS x3.2.2.2.2.2 3 0 (a1.n : Int)).a) ((slS x3.2.2.2.2.2 3 0 (a1.n : Int)).n) ((slS x3.2.2.2.2.2 3 0 (a1.n : Int)).c)), (13, .bool s12), (14, .int .i64 x14.1), (15, .int .i64 x14.2), (16, .int .i64 x17.1), (17, .int .i64 x17.2), (18, .int .i64 x20.1), (19, .int .i64 x20.2), (20, .int .i64 x23.1), (21, .int .i64 x23.2), (22, .int .i64 x26.1), (23, .int .i64 x26.2), (24, .int .i64 x29.1), (25, .int .i64 x29.2)] ⟨rfl, rfl, rfl, rfl, rfl, rfl, rfl, rfl, rfl, rfl, rfl, rfl, rfl, rfl, rfl, rfl, rfl, rfl, rfl, rfl, trivial⟩ (fun f1 => ?_)
    refine wk_then ?_
    refine wc_seq ?_
    refine wc_region ?_
    refine wl_val (at_loadA (cs := (c26 x3.1 x3.2.1 x3.2.2.1 x3.2.2.2.1)) Try.underlying26 rfl (by rw [len26]; exact sz26) rfl (ldA_full t_b6)) rfl ?_
    refine wl_val (at_move rfl) rfl ?_
    refine wl_callF (geom_Units.calls _ _ _ _ _ _ _ h) enter20 rfl trivial so ?_; intro x32 w33 h so
    obtain ⟨q34, h⟩ := h
    replace t_b1 := pv_bk q34 t_b1 (by simp)
    replace t_b6 := pv_bk q34 t_b6 (by simp)
    refine wl_val (at_move rfl) rfl ?_
    refine wl_val (at_extract rfl rfl) rfl ?_
    refine wl_val (at_extract rfl rfl) rfl ?_
    refine wl_val (at_assign rfl) rfl ?_
    refine wl_val (at_assign rfl) rfl ?_
    refine wl_nil ?_
    refine wk_prune [(1, .slice a1.a a1.n a1.c), (3, .int .i64 a3), (4, .pointer (some (⟨b1, 0, none⟩ : Addr))), (9, .pointer (some (⟨b6, 0, none⟩ : Addr))), (10, .slice x3.2.2.2.2.1.a x3.2.2.2.2.1.n x3.2.2.2.2.1.c), (11, .slice x3.2.2.2.2.2.a x3.2.2.2.2.2.n x3.2.2.2.2.2.c), (12, .slice ((slS x3.2.2.2.2.2 3 0 (a1.n : Int)).a) ((slS x3.2.2.2.2.2 3 0 (a1.n : Int)).n) ((slS x3.2.2.2.2.2 3 0 (a1.n : Int)).c)), (13, .bool s12), (14, .int .i64 x14.1), (15, .int .i64 x14.2), (16, .int .i64 x17.1), (17, .int .i64 x17.2), (18, .int .i64 x20.1), (19, .int .i64 x20.2), (20, .int .i64 x23.1), (21, .int .i64 x23.2), (22, .int .i64 x26.1), (23, .int .i64 x26.2), (24, .int .i64 x29.1), (25, .int .i64 x29.2), (26, .int .i64 x32.1), (27, .int .i64 x32.2)] ⟨rfl, rfl, rfl, rfl, rfl, rfl, rfl, rfl, rfl, rfl, rfl, rfl, rfl, rfl, rfl, rfl, rfl, rfl, rfl, rfl, rfl, rfl, trivial⟩ (fun f1 => ?_)
    refine wk_then ?_
    refine wc_seq ?_
    refine wc_region ?_
    refine wl_val (at_loadA (cs := (c26 a0_0 a0_1 a0_2 a0_3)) Try.underlying26 rfl (by rw [len26]; exact sz26) rfl (ldA_full t_b1)) rfl ?_
    refine wl_val (at_move rfl) rfl ?_
    refine wl_callF (mosaicref14_Units.calls _ _ _ _ _ _ _ h) enter21 rfl trivial so ?_; intro x35 w36 h so
    obtain ⟨q37, h⟩ := h
    replace t_b1 := pv_bk q37 t_b1 (by simp)
    replace t_b6 := pv_bk q37 t_b6 (by simp)
    refine wl_val (at_move rfl) rfl ?_
    refine wl_val (at_extract rfl rfl) rfl ?_
    refine wl_val (at_extract rfl rfl) rfl ?_
    refine wl_val (at_assign rfl) rfl ?_
    refine wl_val (at_assign rfl) rfl ?_
    refine wl_nil ?_
    refine wk_prune [(1, .slice a1.a a1.n a1.c), (3, .int .i64 a3), (4, .pointer (some (⟨b1, 0, none⟩ : Addr))), (9, .pointer (some (⟨b6, 0, none⟩ : Addr))), (10, .slice x3.2.2.2.2.1.a x3.2.2.2.2.1.n x3.2.2.2.2.1.c), (11, .slice x3.2.2.2.2.2.a x3.2.2.2.2.2.n x3.2.2.2.2.2.c), (12, .slice ((slS x3.2.2.2.2.2 3 0 (a1.n : Int)).a) ((slS x3.2.2.2.2.2 3 0 (a1.n : Int)).n) ((slS x3.2.2.2.2.2 3 0 (a1.n : Int)).c)), (13, .bool s12), (14, .int .i64 x14.1), (15, .int .i64 x14.2), (16, .int .i64 x17.1), (17, .int .i64 x17.2), (18, .int .i64 x20.1), (19, .int .i64 x20.2), (20, .int .i64 x23.1), (21, .int .i64 x23.2), (22, .int .i64 x26.1), (23, .int .i64 x26.2), (24, .int .i64 x29.1), (25, .int .i64 x29.2), (26, .int .i64 x32.1), (27, .int .i64 x32.2), (28, .int .i64 x35.1), (29, .int .i64 x35.2)] ⟨rfl, rfl, rfl, rfl, rfl, rfl, rfl, rfl, rfl, rfl, rfl, rfl, rfl, rfl, rfl, rfl, rfl, rfl, rfl, rfl, rfl, rfl, rfl, rfl, trivial⟩ (fun f1 => ?_)
    refine wk_then ?_
    refine wc_seq ?_
    refine wc_region ?_
    refine wl_val (at_loadA (cs := (c26 x3.1 x3.2.1 x3.2.2.1 x3.2.2.2.1)) Try.underlying26 rfl (by rw [len26]; exact sz26) rfl (ldA_full t_b6)) rfl ?_
    refine wl_val (at_move rfl) rfl ?_
    refine wl_val (at_move rfl) rfl ?_
    refine wl_callF (geom_Intervals.calls _ _ _ _ _ _ _ _ h) enter22 rfl trivial so ?_; intro x38 w39 h so
    obtain ⟨q40, h⟩ := h
    replace t_b1 := pv_bk q40 t_b1 (by simp)
    refine wl_val (at_assign rfl) rfl ?_
    refine wl_nil ?_
    refine wk_prune [(1, .slice a1.a a1.n a1.c), (3, .int .i64 a3), (4, .pointer (some (⟨b1, 0, none⟩ : Addr))), (10, .slice x3.2.2.2.2.1.a x3.2.2.2.2.1.n x3.2.2.2.2.1.c), (11, .slice x3.2.2.2.2.2.a x3.2.2.2.2.2.n x3.2.2.2.2.2.c), (13, .bool s12), (14, .int .i64 x14.1), (15, .int .i64 x14.2), (16, .int .i64 x17.1), (17, .int .i64 x17.2), (18, .int .i64 x20.1), (19, .int .i64 x20.2), (20, .int .i64 x23.1), (21, .int .i64 x23.2), (22, .int .i64 x26.1), (23, .int .i64 x26.2), (24, .int .i64 x29.1), (25, .int .i64 x29.2), (26, .int .i64 x32.1), (27, .int .i64 x32.2), (28, .int .i64 x35.1), (29, .int .i64 x35.2), (30, .int .i64 x38)] ⟨rfl, rfl, rfl, rfl, rfl, rfl, rfl, rfl, rfl, rfl, rfl, rfl, rfl, rfl, rfl, rfl, rfl, rfl, rfl, rfl, rfl, rfl, rfl, trivial⟩ (fun f1 => ?_)
    refine wk_then ?_
    refine wc_seq ?_
    refine wc_seq ?_
    refine wc_joinG (w0 := w0) (fun (H : Hp) => Bk H b1 26 (c26 a0_0 a0_1 a0_2 a0_3) ∧ True) (fun (s42 : Bool) => [(1, .slice a1.a a1.n a1.c), (3, .int .i64 a3), (4, .pointer (some (⟨b1, 0, none⟩ : Addr))), (10, .slice x3.2.2.2.2.1.a x3.2.2.2.2.1.n x3.2.2.2.2.1.c), (11, .slice x3.2.2.2.2.2.a x3.2.2.2.2.2.n x3.2.2.2.2.2.c), (13, .bool s12), (30, .int .i64 x38), (143, .bool s42)]) (fun (s42 : Bool) => []) h ?_ ?_
    · rintro s42 w43 f1 h ⟨t_b1, _⟩ so; refine wk_then ?_
      refine wc_cond rfl h (fun h => ?_) (fun h => ?_)
      · refine wc_seq ?_
        refine wc_region ?_
        refine wl_val (at_assign rfl) rfl ?_
        refine wl_nil ?_
        refine wk_prune [(8, .bool false)] ⟨rfl, trivial⟩ (fun f1 => ?_)
        refine wk_then ?_
        refine wc_ret ?_
        refine wk_thenR ?_
        exact wk_ret1 (x := false) rfl (by decide) rfl so h
      · refine wc_skip ?_
        refine wk_prune [(1, .slice a1.a a1.n a1.c), (3, .int .i64 a3), (4, .pointer (some (⟨b1, 0, none⟩ : Addr))), (10, .slice x3.2.2.2.2.1.a x3.2.2.2.2.1.n x3.2.2.2.2.1.c), (11, .slice x3.2.2.2.2.2.a x3.2.2.2.2.2.n x3.2.2.2.2.2.c), (13, .bool s12), (30, .int .i64 x38)] ⟨rfl, rfl, rfl, rfl, rfl, rfl, rfl, trivial⟩ (fun f1 => ?_)
        refine wk_then ?_
        refine wc_seq ?_
        refine wc_region ?_
        refine wl_val (at_move rfl) rfl ?_
        refine wl_val (at_move rfl) rfl ?_
        refine bif_ h (fun hb h => ?_) (fun hb h => ?_)
        · refine wl_set (t := 145) (v := .bool true) (congrArg Value.bool hb) ?_; clear hb
          refine wl_on (t := 145) rfl (by decide) rfl ?_
          refine wl_val (at_move rfl) rfl ?_
          refine wl_on (t := 145) rfl (by decide) rfl ?_
          refine wl_val (at_loadA (cs := (c26 a0_0 a0_1 a0_2 a0_3)) Try.underlying26 rfl (by rw [len26]; exact sz26) rfl (ldA_full t_b1)) rfl ?_
          refine wl_on (t := 145) rfl (by decide) rfl ?_
          refine wl_val (at_move rfl) rfl ?_
          refine wl_on (t := 145) rfl (by decide) rfl ?_
          refine wl_val (at_move rfl) rfl ?_
          refine wl_on (t := 145) rfl (by decide) rfl ?_
          refine wl_callF (mosaicref14_Intervals.calls _ _ _ _ _ _ _ _ h) enter23 rfl trivial so ?_; intro x44 w45 h so
          obtain ⟨q46, h⟩ := h
          replace t_b1 := pv_bk q46 t_b1 (by simp)
          refine wl_on (t := 145) rfl (by decide) rfl ?_
          refine wl_val (at_eql rfl rfl) rfl ?_
          refine wl_val (at_pick_t rfl rfl) rfl ?_
          refine wl_val (at_move rfl) rfl ?_
          refine bif_ h (fun hb h => ?_) (fun hb h => ?_)
          · refine wl_set (t := 153) (v := .bool true) (congrArg Value.bool hb) ?_; clear hb
            refine wl_on (t := 153) rfl (by decide) rfl ?_
            refine wl_val (at_move rfl) rfl ?_
            refine wl_on (t := 153) rfl (by decide) rfl ?_
            refine wl_val (at_move rfl) rfl ?_
            refine wl_on (t := 153) rfl (by decide) rfl ?_
            refine wl_val (at_loadA (cs := (c26 a0_0 a0_1 a0_2 a0_3)) Try.underlying26 rfl (by rw [len26]; exact sz26) rfl (ldA_full t_b1)) rfl ?_
            refine wl_on (t := 153) rfl (by decide) rfl ?_
            refine wl_val (at_move rfl) rfl ?_
            refine wl_on (t := 153) rfl (by decide) rfl ?_
            refine wl_callF (mosaiclaw14_stays.calls _ _ _ _ _ _ _ _ _ h) enter24 rfl trivial so ?_; intro x47 w48 h so
            refine wl_val (at_pick_t rfl rfl) rfl ?_
            refine wl_val (at_assign rfl) rfl ?_
            refine wl_nil ?_
            refine wk_prune [(8, .bool x47)] ⟨rfl, trivial⟩ (fun f1 => ?_)
            refine wk_then ?_
            refine wc_ret ?_
            exact wk_ret1 (x := x47) rfl (by decide) rfl so h
          · refine wl_set (t := 153) (v := .bool false) (congrArg Value.bool hb) ?_; clear hb
            refine wl_off (t := 153) rfl (by decide) rfl ?_
            refine wl_off (t := 153) rfl (by decide) rfl ?_
            refine wl_off (t := 153) rfl (by decide) rfl ?_
            refine wl_off (t := 153) rfl (by decide) rfl ?_
            refine wl_off (t := 153) rfl (by decide) rfl ?_
            refine wl_val (at_pick_f rfl rfl) rfl ?_
            refine wl_val (at_assign rfl) rfl ?_
            refine wl_nil ?_
            refine wk_prune [(8, .bool false)] ⟨rfl, trivial⟩ (fun f1 => ?_)
            refine wk_then ?_
            refine wc_ret ?_
            exact wk_ret1 (x := false) rfl (by decide) rfl so h
        · refine wl_set (t := 145) (v := .bool false) (congrArg Value.bool hb) ?_; clear hb
          refine wl_off (t := 145) rfl (by decide) rfl ?_
          refine wl_off (t := 145) rfl (by decide) rfl ?_
          refine wl_off (t := 145) rfl (by decide) rfl ?_
          refine wl_off (t := 145) rfl (by decide) rfl ?_
          refine wl_off (t := 145) rfl (by decide) rfl ?_
          refine wl_off (t := 145) rfl (by decide) rfl ?_
          refine wl_val (at_pick_f rfl rfl) rfl ?_
          refine wl_val (at_move rfl) rfl ?_
          refine wl_off (t := 153) rfl (by decide) rfl ?_
          refine wl_off (t := 153) rfl (by decide) rfl ?_
          refine wl_off (t := 153) rfl (by decide) rfl ?_
          refine wl_off (t := 153) rfl (by decide) rfl ?_
          refine wl_off (t := 153) rfl (by decide) rfl ?_
          refine wl_val (at_pick_f rfl rfl) rfl ?_
          refine wl_val (at_assign rfl) rfl ?_
          refine wl_nil ?_
          refine wk_prune [(8, .bool false)] ⟨rfl, trivial⟩ (fun f1 => ?_)
          refine wk_then ?_
          refine wc_ret ?_
          exact wk_ret1 (x := false) rfl (by decide) rfl so h
    · intro J41 h hJ41
      refine wc_region ?_
      refine wl_val (at_move rfl) rfl ?_
      refine wl_val (at_move rfl) rfl ?_
      refine wl_val (at_neq rfl rfl) rfl ?_
      refine wl_val (at_move rfl) rfl ?_
      refine bif_ h (fun hb h => ?_) (fun hb h => ?_)
      · refine wl_set (t := 109) (v := .bool true) (congrArg Value.bool hb) ?_; clear hb
        refine wl_off (t := 109) rfl (by decide) rfl ?_
        refine wl_off (t := 109) rfl (by decide) rfl ?_
        refine wl_off (t := 109) rfl (by decide) rfl ?_
        refine wl_val (at_pick_t rfl rfl) rfl ?_
        refine wl_val (at_move rfl) rfl ?_
        refine wl_off (t := 114) rfl (by decide) rfl ?_
        refine wl_off (t := 114) rfl (by decide) rfl ?_
        refine wl_off (t := 114) rfl (by decide) rfl ?_
        refine wl_val (at_pick_t rfl rfl) rfl ?_
        refine wl_val (at_move rfl) rfl ?_
        refine wl_off (t := 119) rfl (by decide) rfl ?_
        refine wl_off (t := 119) rfl (by decide) rfl ?_
        refine wl_off (t := 119) rfl (by decide) rfl ?_
        refine wl_val (at_pick_t rfl rfl) rfl ?_
        refine wl_val (at_move rfl) rfl ?_
        refine wl_off (t := 124) rfl (by decide) rfl ?_
        refine wl_off (t := 124) rfl (by decide) rfl ?_
        refine wl_off (t := 124) rfl (by decide) rfl ?_
        refine wl_val (at_pick_t rfl rfl) rfl ?_
        refine wl_val (at_move rfl) rfl ?_
        refine wl_off (t := 129) rfl (by decide) rfl ?_
        refine wl_off (t := 129) rfl (by decide) rfl ?_
        refine wl_off (t := 129) rfl (by decide) rfl ?_
        refine wl_val (at_pick_t rfl rfl) rfl ?_
        refine wl_val (at_move rfl) rfl ?_
        refine wl_off (t := 134) rfl (by decide) rfl ?_
        refine wl_off (t := 134) rfl (by decide) rfl ?_
        refine wl_off (t := 134) rfl (by decide) rfl ?_
        refine wl_val (at_pick_t rfl rfl) rfl ?_
        refine wl_val (at_move rfl) rfl ?_
        refine wl_off (t := 139) rfl (by decide) rfl ?_
        refine wl_off (t := 139) rfl (by decide) rfl ?_
        refine wl_off (t := 139) rfl (by decide) rfl ?_
        refine wl_val (at_pick_t rfl rfl) rfl ?_
        refine wl_nil ?_
        exact wk_prune [(1, .slice a1.a a1.n a1.c), (3, .int .i64 a3), (4, .pointer (some (⟨b1, 0, none⟩ : Addr))), (10, .slice x3.2.2.2.2.1.a x3.2.2.2.2.1.n x3.2.2.2.2.1.c), (11, .slice x3.2.2.2.2.2.a x3.2.2.2.2.2.n x3.2.2.2.2.2.c), (13, .bool s12), (30, .int .i64 x38), (143, .bool true)] ⟨rfl, rfl, rfl, rfl, rfl, rfl, rfl, rfl, trivial⟩ (fun f1 => hJ41 (true) _ f1 h ⟨t_b1, trivial⟩ so)
      · refine wl_set (t := 109) (v := .bool false) (congrArg Value.bool hb) ?_; clear hb
        refine wl_on (t := 109) rfl (by decide) rfl ?_
        refine wl_val (at_move rfl) rfl ?_
        refine wl_on (t := 109) rfl (by decide) rfl ?_
        refine wl_val (at_move rfl) rfl ?_
        refine wl_on (t := 109) rfl (by decide) rfl ?_
        refine wl_val (at_neq rfl rfl) rfl ?_
        refine wl_val (at_pick_f rfl rfl) rfl ?_
        refine wl_val (at_move rfl) rfl ?_
        refine bif_ h (fun hb h => ?_) (fun hb h => ?_)
        · refine wl_set (t := 114) (v := .bool true) (congrArg Value.bool hb) ?_; clear hb
          refine wl_off (t := 114) rfl (by decide) rfl ?_
          refine wl_off (t := 114) rfl (by decide) rfl ?_
          refine wl_off (t := 114) rfl (by decide) rfl ?_
          refine wl_val (at_pick_t rfl rfl) rfl ?_
          refine wl_val (at_move rfl) rfl ?_
          refine wl_off (t := 119) rfl (by decide) rfl ?_
          refine wl_off (t := 119) rfl (by decide) rfl ?_
          refine wl_off (t := 119) rfl (by decide) rfl ?_
          refine wl_val (at_pick_t rfl rfl) rfl ?_
          refine wl_val (at_move rfl) rfl ?_
          refine wl_off (t := 124) rfl (by decide) rfl ?_
          refine wl_off (t := 124) rfl (by decide) rfl ?_
          refine wl_off (t := 124) rfl (by decide) rfl ?_
          refine wl_val (at_pick_t rfl rfl) rfl ?_
          refine wl_val (at_move rfl) rfl ?_
          refine wl_off (t := 129) rfl (by decide) rfl ?_
          refine wl_off (t := 129) rfl (by decide) rfl ?_
          refine wl_off (t := 129) rfl (by decide) rfl ?_
          refine wl_val (at_pick_t rfl rfl) rfl ?_
          refine wl_val (at_move rfl) rfl ?_
          refine wl_off (t := 134) rfl (by decide) rfl ?_
          refine wl_off (t := 134) rfl (by decide) rfl ?_
          refine wl_off (t := 134) rfl (by decide) rfl ?_
          refine wl_val (at_pick_t rfl rfl) rfl ?_
          refine wl_val (at_move rfl) rfl ?_
          refine wl_off (t := 139) rfl (by decide) rfl ?_
          refine wl_off (t := 139) rfl (by decide) rfl ?_
          refine wl_off (t := 139) rfl (by decide) rfl ?_
          refine wl_val (at_pick_t rfl rfl) rfl ?_
          refine wl_nil ?_
          exact wk_prune [(1, .slice a1.a a1.n a1.c), (3, .int .i64 a3), (4, .pointer (some (⟨b1, 0, none⟩ : Addr))), (10, .slice x3.2.2.2.2.1.a x3.2.2.2.2.1.n x3.2.2.2.2.1.c), (11, .slice x3.2.2.2.2.2.a x3.2.2.2.2.2.n x3.2.2.2.2.2.c), (13, .bool s12), (30, .int .i64 x38), (143, .bool true)] ⟨rfl, rfl, rfl, rfl, rfl, rfl, rfl, rfl, trivial⟩ (fun f1 => hJ41 (true) _ f1 h ⟨t_b1, trivial⟩ so)
        · refine wl_set (t := 114) (v := .bool false) (congrArg Value.bool hb) ?_; clear hb
          refine wl_on (t := 114) rfl (by decide) rfl ?_
          refine wl_val (at_move rfl) rfl ?_
          refine wl_on (t := 114) rfl (by decide) rfl ?_
          refine wl_val (at_move rfl) rfl ?_
          refine wl_on (t := 114) rfl (by decide) rfl ?_
          refine wl_val (at_neq rfl rfl) rfl ?_
          refine wl_val (at_pick_f rfl rfl) rfl ?_
          refine wl_val (at_move rfl) rfl ?_
          refine bif_ h (fun hb h => ?_) (fun hb h => ?_)
          · refine wl_set (t := 119) (v := .bool true) (congrArg Value.bool hb) ?_; clear hb
            refine wl_off (t := 119) rfl (by decide) rfl ?_
            refine wl_off (t := 119) rfl (by decide) rfl ?_
            refine wl_off (t := 119) rfl (by decide) rfl ?_
            refine wl_val (at_pick_t rfl rfl) rfl ?_
            refine wl_val (at_move rfl) rfl ?_
            refine wl_off (t := 124) rfl (by decide) rfl ?_
            refine wl_off (t := 124) rfl (by decide) rfl ?_
            refine wl_off (t := 124) rfl (by decide) rfl ?_
            refine wl_val (at_pick_t rfl rfl) rfl ?_
            refine wl_val (at_move rfl) rfl ?_
            refine wl_off (t := 129) rfl (by decide) rfl ?_
            refine wl_off (t := 129) rfl (by decide) rfl ?_
            refine wl_off (t := 129) rfl (by decide) rfl ?_
            refine wl_val (at_pick_t rfl rfl) rfl ?_
            refine wl_val (at_move rfl) rfl ?_
            refine wl_off (t := 134) rfl (by decide) rfl ?_
            refine wl_off (t := 134) rfl (by decide) rfl ?_
            refine wl_off (t := 134) rfl (by decide) rfl ?_
            refine wl_val (at_pick_t rfl rfl) rfl ?_
            refine wl_val (at_move rfl) rfl ?_
            refine wl_off (t := 139) rfl (by decide) rfl ?_
            refine wl_off (t := 139) rfl (by decide) rfl ?_
            refine wl_off (t := 139) rfl (by decide) rfl ?_
            refine wl_val (at_pick_t rfl rfl) rfl ?_
            refine wl_nil ?_
            exact wk_prune [(1, .slice a1.a a1.n a1.c), (3, .int .i64 a3), (4, .pointer (some (⟨b1, 0, none⟩ : Addr))), (10, .slice x3.2.2.2.2.1.a x3.2.2.2.2.1.n x3.2.2.2.2.1.c), (11, .slice x3.2.2.2.2.2.a x3.2.2.2.2.2.n x3.2.2.2.2.2.c), (13, .bool s12), (30, .int .i64 x38), (143, .bool true)] ⟨rfl, rfl, rfl, rfl, rfl, rfl, rfl, rfl, trivial⟩ (fun f1 => hJ41 (true) _ f1 h ⟨t_b1, trivial⟩ so)
          · refine wl_set (t := 119) (v := .bool false) (congrArg Value.bool hb) ?_; clear hb
            refine wl_on (t := 119) rfl (by decide) rfl ?_
            refine wl_val (at_move rfl) rfl ?_
            refine wl_on (t := 119) rfl (by decide) rfl ?_
            refine wl_val (at_move rfl) rfl ?_
            refine wl_on (t := 119) rfl (by decide) rfl ?_
            refine wl_val (at_neq rfl rfl) rfl ?_
            refine wl_val (at_pick_f rfl rfl) rfl ?_
            refine wl_val (at_move rfl) rfl ?_
            refine bif_ h (fun hb h => ?_) (fun hb h => ?_)
            · refine wl_set (t := 124) (v := .bool true) (congrArg Value.bool hb) ?_; clear hb
              refine wl_off (t := 124) rfl (by decide) rfl ?_
              refine wl_off (t := 124) rfl (by decide) rfl ?_
              refine wl_off (t := 124) rfl (by decide) rfl ?_
              refine wl_val (at_pick_t rfl rfl) rfl ?_
              refine wl_val (at_move rfl) rfl ?_
              refine wl_off (t := 129) rfl (by decide) rfl ?_
              refine wl_off (t := 129) rfl (by decide) rfl ?_
              refine wl_off (t := 129) rfl (by decide) rfl ?_
              refine wl_val (at_pick_t rfl rfl) rfl ?_
              refine wl_val (at_move rfl) rfl ?_
              refine wl_off (t := 134) rfl (by decide) rfl ?_
              refine wl_off (t := 134) rfl (by decide) rfl ?_
              refine wl_off (t := 134) rfl (by decide) rfl ?_
              refine wl_val (at_pick_t rfl rfl) rfl ?_
              refine wl_val (at_move rfl) rfl ?_
              refine wl_off (t := 139) rfl (by decide) rfl ?_
              refine wl_off (t := 139) rfl (by decide) rfl ?_
              refine wl_off (t := 139) rfl (by decide) rfl ?_
              refine wl_val (at_pick_t rfl rfl) rfl ?_
              refine wl_nil ?_
              exact wk_prune [(1, .slice a1.a a1.n a1.c), (3, .int .i64 a3), (4, .pointer (some (⟨b1, 0, none⟩ : Addr))), (10, .slice x3.2.2.2.2.1.a x3.2.2.2.2.1.n x3.2.2.2.2.1.c), (11, .slice x3.2.2.2.2.2.a x3.2.2.2.2.2.n x3.2.2.2.2.2.c), (13, .bool s12), (30, .int .i64 x38), (143, .bool true)] ⟨rfl, rfl, rfl, rfl, rfl, rfl, rfl, rfl, trivial⟩ (fun f1 => hJ41 (true) _ f1 h ⟨t_b1, trivial⟩ so)
            · refine wl_set (t := 124) (v := .bool false) (congrArg Value.bool hb) ?_; clear hb
              refine wl_on (t := 124) rfl (by decide) rfl ?_
              refine wl_val (at_move rfl) rfl ?_
              refine wl_on (t := 124) rfl (by decide) rfl ?_
              refine wl_val (at_move rfl) rfl ?_
              refine wl_on (t := 124) rfl (by decide) rfl ?_
              refine wl_val (at_neq rfl rfl) rfl ?_
              refine wl_val (at_pick_f rfl rfl) rfl ?_
              refine wl_val (at_move rfl) rfl ?_
              refine bif_ h (fun hb h => ?_) (fun hb h => ?_)
              · refine wl_set (t := 129) (v := .bool true) (congrArg Value.bool hb) ?_; clear hb
                refine wl_off (t := 129) rfl (by decide) rfl ?_
                refine wl_off (t := 129) rfl (by decide) rfl ?_
                refine wl_off (t := 129) rfl (by decide) rfl ?_
                refine wl_val (at_pick_t rfl rfl) rfl ?_
                refine wl_val (at_move rfl) rfl ?_
                refine wl_off (t := 134) rfl (by decide) rfl ?_
                refine wl_off (t := 134) rfl (by decide) rfl ?_
                refine wl_off (t := 134) rfl (by decide) rfl ?_
                refine wl_val (at_pick_t rfl rfl) rfl ?_
                refine wl_val (at_move rfl) rfl ?_
                refine wl_off (t := 139) rfl (by decide) rfl ?_
                refine wl_off (t := 139) rfl (by decide) rfl ?_
                refine wl_off (t := 139) rfl (by decide) rfl ?_
                refine wl_val (at_pick_t rfl rfl) rfl ?_
                refine wl_nil ?_
                exact wk_prune [(1, .slice a1.a a1.n a1.c), (3, .int .i64 a3), (4, .pointer (some (⟨b1, 0, none⟩ : Addr))), (10, .slice x3.2.2.2.2.1.a x3.2.2.2.2.1.n x3.2.2.2.2.1.c), (11, .slice x3.2.2.2.2.2.a x3.2.2.2.2.2.n x3.2.2.2.2.2.c), (13, .bool s12), (30, .int .i64 x38), (143, .bool true)] ⟨rfl, rfl, rfl, rfl, rfl, rfl, rfl, rfl, trivial⟩ (fun f1 => hJ41 (true) _ f1 h ⟨t_b1, trivial⟩ so)
              · refine wl_set (t := 129) (v := .bool false) (congrArg Value.bool hb) ?_; clear hb
                refine wl_on (t := 129) rfl (by decide) rfl ?_
                refine wl_val (at_move rfl) rfl ?_
                refine wl_on (t := 129) rfl (by decide) rfl ?_
                refine wl_val (at_move rfl) rfl ?_
                refine wl_on (t := 129) rfl (by decide) rfl ?_
                refine wl_val (at_neq rfl rfl) rfl ?_
                refine wl_val (at_pick_f rfl rfl) rfl ?_
                refine wl_val (at_move rfl) rfl ?_
                refine bif_ h (fun hb h => ?_) (fun hb h => ?_)
                · refine wl_set (t := 134) (v := .bool true) (congrArg Value.bool hb) ?_; clear hb
                  refine wl_off (t := 134) rfl (by decide) rfl ?_
                  refine wl_off (t := 134) rfl (by decide) rfl ?_
                  refine wl_off (t := 134) rfl (by decide) rfl ?_
                  refine wl_val (at_pick_t rfl rfl) rfl ?_
                  refine wl_val (at_move rfl) rfl ?_
                  refine wl_off (t := 139) rfl (by decide) rfl ?_
                  refine wl_off (t := 139) rfl (by decide) rfl ?_
                  refine wl_off (t := 139) rfl (by decide) rfl ?_
                  refine wl_val (at_pick_t rfl rfl) rfl ?_
                  refine wl_nil ?_
                  exact wk_prune [(1, .slice a1.a a1.n a1.c), (3, .int .i64 a3), (4, .pointer (some (⟨b1, 0, none⟩ : Addr))), (10, .slice x3.2.2.2.2.1.a x3.2.2.2.2.1.n x3.2.2.2.2.1.c), (11, .slice x3.2.2.2.2.2.a x3.2.2.2.2.2.n x3.2.2.2.2.2.c), (13, .bool s12), (30, .int .i64 x38), (143, .bool true)] ⟨rfl, rfl, rfl, rfl, rfl, rfl, rfl, rfl, trivial⟩ (fun f1 => hJ41 (true) _ f1 h ⟨t_b1, trivial⟩ so)
                · refine wl_set (t := 134) (v := .bool false) (congrArg Value.bool hb) ?_; clear hb
                  refine wl_on (t := 134) rfl (by decide) rfl ?_
                  refine wl_val (at_move rfl) rfl ?_
                  refine wl_on (t := 134) rfl (by decide) rfl ?_
                  refine wl_val (at_move rfl) rfl ?_
                  refine wl_on (t := 134) rfl (by decide) rfl ?_
                  refine wl_val (at_neq rfl rfl) rfl ?_
                  refine wl_val (at_pick_f rfl rfl) rfl ?_
                  refine wl_val (at_move rfl) rfl ?_
                  refine bif_ h (fun hb h => ?_) (fun hb h => ?_)
                  · refine wl_set (t := 139) (v := .bool true) (congrArg Value.bool hb) ?_; clear hb
                    refine wl_off (t := 139) rfl (by decide) rfl ?_
                    refine wl_off (t := 139) rfl (by decide) rfl ?_
                    refine wl_off (t := 139) rfl (by decide) rfl ?_
                    refine wl_val (at_pick_t rfl rfl) rfl ?_
                    refine wl_nil ?_
                    exact wk_prune [(1, .slice a1.a a1.n a1.c), (3, .int .i64 a3), (4, .pointer (some (⟨b1, 0, none⟩ : Addr))), (10, .slice x3.2.2.2.2.1.a x3.2.2.2.2.1.n x3.2.2.2.2.1.c), (11, .slice x3.2.2.2.2.2.a x3.2.2.2.2.2.n x3.2.2.2.2.2.c), (13, .bool s12), (30, .int .i64 x38), (143, .bool true)] ⟨rfl, rfl, rfl, rfl, rfl, rfl, rfl, rfl, trivial⟩ (fun f1 => hJ41 (true) _ f1 h ⟨t_b1, trivial⟩ so)
                  · refine wl_set (t := 139) (v := .bool false) (congrArg Value.bool hb) ?_; clear hb
                    refine wl_on (t := 139) rfl (by decide) rfl ?_
                    refine wl_val (at_move rfl) rfl ?_
                    refine wl_on (t := 139) rfl (by decide) rfl ?_
                    refine wl_val (at_move rfl) rfl ?_
                    refine wl_on (t := 139) rfl (by decide) rfl ?_
                    refine wl_val (at_neq rfl rfl) rfl ?_
                    refine wl_val (at_pick_f rfl rfl) rfl ?_
                    refine wl_nil ?_
                    exact wk_prune [(1, .slice a1.a a1.n a1.c), (3, .int .i64 a3), (4, .pointer (some (⟨b1, 0, none⟩ : Addr))), (10, .slice x3.2.2.2.2.1.a x3.2.2.2.2.1.n x3.2.2.2.2.1.c), (11, .slice x3.2.2.2.2.2.a x3.2.2.2.2.2.n x3.2.2.2.2.2.c), (13, .bool s12), (30, .int .i64 x38), (143, .bool (x32.2 != x35.2))] ⟨rfl, rfl, rfl, rfl, rfl, rfl, rfl, rfl, trivial⟩ (fun f1 => hJ41 ((x32.2 != x35.2)) _ f1 h ⟨t_b1, trivial⟩ so)
  · intro J11 h hJ11
    refine wc_wo [0, 1, 0, 7, 15, 31, 63, 63, 255, 63, 63, 2047, 4095, 8191, 16383] mixed (by kernel_rfl) so ?_; intro w49 hw so; rw [← hw] at h t_b1 t_b6; clear hw
    have q50 : ldA w49.heap (⟨b6, 0, none⟩ : Addr) (c26 x3.1 x3.2.1 x3.2.2.1 x3.2.2.2.1) := ldA_full t_b6
    refine wo_load (m' := 1) 0 (fun H => ldA H (⟨b6, 0, none⟩ : Addr) (c26 x3.1 x3.2.1 x3.2.2.1 x3.2.2.2.1)) rfl (by kernel_rfl) rfl rfl (fun H q50 => at_loadA (cs := (c26 x3.1 x3.2.1 x3.2.2.1 x3.2.2.2.1)) Try.underlying26 rfl (by rw [len26]; exact sz26) rfl (q50)) q50 ?_
    have q51 : ldA w49.heap (⟨b1, 0, none⟩ : Addr) (c26 a0_0 a0_1 a0_2 a0_3) := ldA_full t_b1
    refine wo_load (m' := 5) 2 (fun H => ldA H (⟨b1, 0, none⟩ : Addr) (c26 a0_0 a0_1 a0_2 a0_3)) rfl (by kernel_rfl) rfl rfl (fun H q51 => at_loadA (cs := (c26 a0_0 a0_1 a0_2 a0_3)) Try.underlying26 rfl (by rw [len26]; exact sz26) rfl (q51)) q51 ?_
    refine wo_take (m' := 7) 1 [false, true] rfl (by kernel_rfl) rfl (by kernel_rfl) ?_
    refine wl_callF (geom_Check.calls _ _ _ _ _ _ h) enter10 rfl trivial so ?_; intro x52 w53 h so
    obtain ⟨q54, h⟩ := h
    replace t_b1 := pv_bk q54 t_b1 (by simp)
    replace t_b6 := pv_bk q54 t_b6 (by simp)
    refine wl_nil ?_
    refine wk_tq ⟨(ldA_full t_b1), trivial⟩ ?_
    refine wo_take (m' := 15) 3 [true] rfl (by kernel_rfl) rfl (by kernel_rfl) ?_
    refine wl_callF (mosaicref14_Check.calls _ _ _ _ _ _ h) enter12 rfl trivial so ?_; intro x55 w56 h so
    obtain ⟨q57, h⟩ := h
    replace t_b1 := pv_bk q57 t_b1 (by simp)
    replace t_b6 := pv_bk q57 t_b6 (by simp)
    refine wl_nil ?_
    refine wk_tq trivial ?_
    refine wo_pure (m' := 31) 4 rfl (by kernel_rfl) rfl rfl (fun H => at_eql rfl rfl) ?_
    refine wo_pure (m' := 63) 5 rfl (by kernel_rfl) rfl rfl (fun H => at_move rfl) ?_
    refine bif_ h (fun hb h => ?_) (fun hb h => ?_)
    · refine wo_set (t := 47) (v := .bool true) (congrArg Value.bool hb) ?_; clear hb
      refine wo_pureG (m' := 191) 7 rfl (by kernel_rfl) rfl (t := 47) rfl (by decide) rfl (fun H => at_move rfl) ?_
      refine wo_pureG (m' := 1215) 10 rfl (by kernel_rfl) rfl (t := 47) rfl (by decide) rfl (fun H => at_move rfl) ?_
      have q58 : ldA w56.heap (⟨b6, 0, none⟩ : Addr) (c26 x3.1 x3.2.1 x3.2.2.1 x3.2.2.2.1) := ldA_full t_b6
      refine wo_loadG (m' := 1279) 6 (fun H => ldA H (⟨b6, 0, none⟩ : Addr) (c26 x3.1 x3.2.1 x3.2.2.1 x3.2.2.2.1)) rfl (by kernel_rfl) rfl (t := 47) rfl (by decide) rfl (fun H q58 => at_loadA (cs := (c26 x3.1 x3.2.1 x3.2.2.1 x3.2.2.2.1)) Try.underlying26 rfl (by rw [len26]; exact sz26) rfl (q58)) q58 ?_
      have q59 : ldA w56.heap (⟨b1, 0, none⟩ : Addr) (c26 a0_0 a0_1 a0_2 a0_3) := ldA_full t_b1
      refine wo_loadG (m' := 1791) 9 (fun H => ldA H (⟨b1, 0, none⟩ : Addr) (c26 a0_0 a0_1 a0_2 a0_3)) rfl (by kernel_rfl) rfl (t := 47) rfl (by decide) rfl (fun H q59 => at_loadA (cs := (c26 a0_0 a0_1 a0_2 a0_3)) Try.underlying26 rfl (by rw [len26]; exact sz26) rfl (q59)) q59 ?_
      refine wo_take (m' := 2047) 8 [false, true] rfl (by kernel_rfl) rfl (by kernel_rfl) ?_
      refine wl_on (t := 47) rfl (by decide) rfl ?_
      refine wl_callF (geom_Parts.calls _ _ _ _ _ _ _ h) enter13 rfl trivial so ?_; intro x60 w61 h so
      obtain ⟨q62, h⟩ := h
      replace t_b1 := pv_bk q62 t_b1 (by simp)
      replace t_b6 := pv_bk q62 t_b6 (by simp)
      refine wl_nil ?_
      refine wk_tq ⟨(ldA_full t_b1), trivial⟩ ?_
      refine wo_take (m' := 4095) 11 [true] rfl (by kernel_rfl) rfl (by kernel_rfl) ?_
      refine wl_on (t := 47) rfl (by decide) rfl ?_
      refine wl_callF (mosaicref14_Parts.calls _ _ _ _ _ _ _ h) enter14 rfl trivial so ?_; intro x63 w64 h so
      obtain ⟨q65, h⟩ := h
      replace t_b1 := pv_bk q65 t_b1 (by simp)
      replace t_b6 := pv_bk q65 t_b6 (by simp)
      refine wl_nil ?_
      refine wk_tq trivial ?_
      refine wo_pureG (m' := 8191) 12 rfl (by kernel_rfl) rfl (t := 47) rfl (by decide) rfl (fun H => at_eql rfl rfl) ?_
      refine wo_pure (m' := 16383) 13 rfl (by kernel_rfl) rfl rfl (fun H => at_pick_t rfl rfl) ?_
      refine wo_pure (m' := 32767) 14 rfl (by kernel_rfl) rfl rfl (fun H => at_assign rfl) ?_
      refine wo_done (by kernel_rfl) ?_
      exact wk_prune [(1, .slice a1.a a1.n a1.c), (2, .int .i64 a2), (3, .int .i64 a3), (4, .pointer (some (⟨b1, 0, none⟩ : Addr))), (9, .pointer (some (⟨b6, 0, none⟩ : Addr))), (10, .slice x3.2.2.2.2.1.a x3.2.2.2.2.1.n x3.2.2.2.2.1.c), (11, .slice x3.2.2.2.2.2.a x3.2.2.2.2.2.n x3.2.2.2.2.2.c), (12, .slice ((slS x3.2.2.2.2.2 3 0 (a1.n : Int)).a) ((slS x3.2.2.2.2.2 3 0 (a1.n : Int)).n) ((slS x3.2.2.2.2.2 3 0 (a1.n : Int)).c)), (13, .bool (x60 == x63))] ⟨rfl, rfl, rfl, rfl, rfl, rfl, rfl, rfl, rfl, trivial⟩ (fun f1 => hJ11 ((x60 == x63)) _ f1 h ⟨t_b1, t_b6, trivial⟩ so)
    · refine wo_set (t := 47) (v := .bool false) (congrArg Value.bool hb) ?_; clear hb
      refine wo_off (m' := 127) 6 rfl (by kernel_rfl) rfl (t := 47) rfl (by decide) rfl ?_
      refine wo_off (m' := 255) 7 rfl (by kernel_rfl) rfl (t := 47) rfl (by decide) rfl ?_
      refine wo_off (m' := 511) 8 rfl (by kernel_rfl) rfl (t := 47) rfl (by decide) rfl ?_
      refine wo_off (m' := 1023) 9 rfl (by kernel_rfl) rfl (t := 47) rfl (by decide) rfl ?_
      refine wo_off (m' := 2047) 10 rfl (by kernel_rfl) rfl (t := 47) rfl (by decide) rfl ?_
      refine wo_off (m' := 4095) 11 rfl (by kernel_rfl) rfl (t := 47) rfl (by decide) rfl ?_
      refine wo_off (m' := 8191) 12 rfl (by kernel_rfl) rfl (t := 47) rfl (by decide) rfl ?_
      refine wo_pure (m' := 16383) 13 rfl (by kernel_rfl) rfl rfl (fun H => at_pick_f rfl rfl) ?_
      refine wo_pure (m' := 32767) 14 rfl (by kernel_rfl) rfl rfl (fun H => at_assign rfl) ?_
      refine wo_done (by kernel_rfl) ?_
      exact wk_prune [(1, .slice a1.a a1.n a1.c), (2, .int .i64 a2), (3, .int .i64 a3), (4, .pointer (some (⟨b1, 0, none⟩ : Addr))), (9, .pointer (some (⟨b6, 0, none⟩ : Addr))), (10, .slice x3.2.2.2.2.1.a x3.2.2.2.2.1.n x3.2.2.2.2.1.c), (11, .slice x3.2.2.2.2.2.a x3.2.2.2.2.2.n x3.2.2.2.2.2.c), (12, .slice ((slS x3.2.2.2.2.2 3 0 (a1.n : Int)).a) ((slS x3.2.2.2.2.2 3 0 (a1.n : Int)).n) ((slS x3.2.2.2.2.2 3 0 (a1.n : Int)).c)), (13, .bool false)] ⟨rfl, rfl, rfl, rfl, rfl, rfl, rfl, rfl, rfl, trivial⟩ (fun f1 => hJ11 (false) _ f1 h ⟨t_b1, t_b6, trivial⟩ so)
end Go.Proofs.Ytlonijlcddlhjaa.G
