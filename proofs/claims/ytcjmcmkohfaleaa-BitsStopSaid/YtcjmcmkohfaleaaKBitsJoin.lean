import Derived.Test.YtcjmcmkohfaleaaGF
import Derived.Test.YtcjmcmkohfaleaaKbits
import Derived.Test.YtcjmcmkohfaleaaKmosaiclaw01
namespace Go.Proofs.Ytcjmcmkohfaleaa.G
open Go.RowKit
set_option linter.unusedVariables false
set_option linter.unusedSimpArgs false
/-- mosaic/mosaiclaw01.BitsJoin -/
def mosaiclaw01_BitsJoin.enc : Bool → Value := fun r => .bool r
def mosaiclaw01_BitsJoin.s (a0_0 : ByteArray) (a0_1 : Int) (a0_2 : Int) (a1 : Int) (a2 : Int) (a3 : Int) (H0 : Hp) (Q : Bool → Hp → Prop) : Prop :=
  Gn [] H0 (fun (b1 : Nat) (H2 : Hp) => mosaiclaw01_alive.s H2 (fun x3 H4 => Pv [b1] H2 H4 ∧ (bits_Open.s a0_0 a0_1 a0_2 H4 (fun x6 H7 => Pv [b1] H4 H7 ∧ (bits_Open.s a0_0 a0_1 a0_2 H7 (fun x9 H10 => Join (fun (s12 : Bool) (H13 : Hp) => if s12 = true then (Q false H13) else (bits_Source_Left.s x6 H13 (fun x14 H15 => bits_Source_Skip.s x6 a1 H15 (fun x16 H17 => bits_Source_Skip.s x9 a1 H17 (fun x18 H19 => Join (fun (s21 : Bool) (H22 : Hp) => if s21 = true then (Q false H22) else (mosaiclaw01_clip.s a2 H22 (fun x23 H24 => mosaiclaw01_clip.s a3 H24 (fun x25 H26 => (IntKind.wrap .i64 ((17 : Int) - x23)) ≠ 0 ∧ (Lt ((Int.tmod x25 (IntKind.wrap .i64 ((17 : Int) - x23))) : Int) (fun x28 => bits_Source_Peek.s x6 (IntKind.wrap .i64 (x23 + x28)) H26 (fun x30 H31 => bits_Source_Next.s x6 (IntKind.wrap .i64 (x23 + x28)) H31 (fun x32 H33 => Join (fun (s35 : Bool) (H36 : Hp) => if s35 = true then (Q false H36) else (if (!x32.2) = true then (Q true H36) else (bits_Source_Next.s x9 x23 H36 (fun x37 H38 => bits_Source_Next.s x9 x28 H38 (fun x39 H40 => if x37.2 = true then (if x39.2 = true then (0 ≤ x28 ∧ (if (x32.1 == (IntKind.wrap .i64 ((shlI .i64 x37.1 x28) + x39.1))) = true then (bits_Source_At.s x6 H40 (fun x42 H43 => bits_Source_At.s x9 H43 (fun x44 H45 => Q (x42 == x44) H45))) else (Q false H40))) else (Q false H40)) else (Q false H40)))))) (fun (J34 : Bool → Hp → Prop) => if (!x30.2) = true then (J34 (true) H33) else (bits_Source_Left.s x9 H33 (fun x46 H47 => if (!(x32.2 == decide ((IntKind.wrap .i64 (x23 + x28)) ≤ x46))) = true then (J34 (true) H47) else (bits_Source_Left.s x6 H47 (fun x48 H49 => bits_Source_Used.s x6 H49 (fun x50 H51 => if ((IntKind.wrap .i64 (x48 + x50)) != x14) = true then (J34 (true) H51) else (if x32.2 = true then (if (x32.1 != x30.1) = true then (J34 (true) H51) else (if (!x32.2) = true then (if (x32.1 != 0) = true then (J34 (true) H51) else (bits_Source_Used.s x6 H51 (fun x52 H53 => bits_Source_Used.s x9 H53 (fun x54 H55 => J34 ((x52 != x54)) H55)))) else (J34 (false) H51))) else (if (!x32.2) = true then (if (x32.1 != 0) = true then (J34 (true) H51) else (bits_Source_Used.s x6 H51 (fun x56 H57 => bits_Source_Used.s x9 H57 (fun x58 H59 => J34 ((x56 != x58)) H59)))) else (J34 (false) H51))))))))))))))))) (fun (J20 : Bool → Hp → Prop) => if (!(x16 == x18)) = true then (J20 (true) H19) else (if decide ((0 : Int) ≤ a1) = true then (if (!(x16 == decide (a1 ≤ x14))) = true then (J20 (true) H19) else (bits_Source_Left.s x6 H19 (fun x60 H61 => bits_Source_Used.s x6 H61 (fun x62 H63 => if ((IntKind.wrap .i64 (x60 + x62)) != x14) = true then (J20 (true) H63) else (if (!x16) = true then (bits_Source_Used.s x6 H63 (fun x64 H65 => J20 ((x64 != 0)) H65)) else (J20 (false) H63)))))) else (if (!(x16 == false)) = true then (J20 (true) H19) else (bits_Source_Left.s x6 H19 (fun x66 H67 => bits_Source_Used.s x6 H67 (fun x68 H69 => if ((IntKind.wrap .i64 (x66 + x68)) != x14) = true then (J20 (true) H69) else (if (!x16) = true then (bits_Source_Used.s x6 H69 (fun x70 H71 => J20 ((x70 != 0)) H71)) else (J20 (false) H69))))))))))))) (fun (J11 : Bool → Hp → Prop) => if (!x3) = true then (J11 (true) H10) else (if x6.isNone = true then (J11 (true) H10) else (J11 (x9.isNone) H10)))))))))
set_option maxRecDepth 20000 in
set_option maxHeartbeats 4000000 in
theorem mosaiclaw01_BitsJoin.calls (a0_0 : ByteArray) (a0_1 : Int) (a0_2 : Int) (a1 : Int) (a2 : Int) (a3 : Int) (w0 : World) (Q : Bool → Hp → Prop) (h : mosaiclaw01_BitsJoin.s a0_0 a0_1 a0_2 a1 a2 a3 w0.heap Q) :
    Ca Try.prog 5 #[.agg (c34 a0_0 a0_1 a0_2).toArray, .int .i64 a1, .int .i64 a2, .int .i64 a3] w0 (Rt mosaiclaw01_BitsJoin.enc Q w0) := by
  refine ca_start (c := _) Try.func5 rfl Try.ntmps5 rfl ?_
  have so : Sm w0 w0 := Sm.refl w0
  unfold mosaiclaw01_BitsJoin.s at h
  refine wc_prune [(0, .agg (c34 a0_0 a0_1 a0_2).toArray), (1, .int .i64 a1), (2, .int .i64 a2), (3, .int .i64 a3)] ⟨rfl, rfl, rfl, rfl, trivial⟩ (fun f1 => ?_)
  refine wc_seq ?_
  refine wc_region ?_
  refine wl_newT (T := 34) (cs := (c34 a0_0 a0_1 a0_2)) (ef_box rfl rfl) rfl so ?_; intro b1 w2 hb_b1 t_b1 k_b1 so
  have g_b1 := Nat.le_of_eq hb_b1.symm
  have hc := k_b1.ch (F := [])
  refine wl_val (at_assign rfl) rfl ?_
  refine wl_nil ?_
  refine wk_prune [(1, .int .i64 a1), (2, .int .i64 a2), (3, .int .i64 a3), (4, .pointer (some (⟨b1, 0, none⟩ : Addr)))] ⟨rfl, rfl, rfl, rfl, trivial⟩ (fun f1 => ?_)
  refine wk_then ?_
  refine wc_seq ?_
  refine wc_region ?_
  replace h := h b1 _ hc g_b1 t_b1.lt; clear hc
  refine wl_callF (mosaiclaw01_alive.calls _ _ h) enter19 rfl trivial so ?_; intro x3 w4 h so
  obtain ⟨q5, h⟩ := h
  replace t_b1 := pv_bk q5 t_b1 (by simp)
  refine wl_val (at_assign rfl) rfl ?_
  refine wl_nil ?_
  refine wk_prune [(1, .int .i64 a1), (2, .int .i64 a2), (3, .int .i64 a3), (4, .pointer (some (⟨b1, 0, none⟩ : Addr))), (9, .bool x3)] ⟨rfl, rfl, rfl, rfl, rfl, trivial⟩ (fun f1 => ?_)
  refine wk_then ?_
  refine wc_seq ?_
  refine wc_region ?_
  refine wl_val (at_fieldAddr Try.underlying34 rfl rfl sz9 (by decide) rfl) rfl ?_
  refine wl_val (at_load (v := .string a0_0) Try.underlying9 rfl rfl ((t_b1.cell 0).trans (by first | rfl | simp [List.getElem?_append, ints_len, bools_len]))) rfl ?_
  refine wl_val (at_fieldAddr Try.underlying34 rfl rfl sz3 (by decide) rfl) rfl ?_
  refine wl_val (at_load (v := .int .i64 a0_1) Try.underlying3 rfl rfl ((t_b1.cell 1).trans (by first | rfl | simp [List.getElem?_append, ints_len, bools_len]))) rfl ?_
  refine wl_val (at_fieldAddr Try.underlying34 rfl rfl sz3 (by decide) rfl) rfl ?_
  refine wl_val (at_load (v := .int .i64 a0_2) Try.underlying3 rfl rfl ((t_b1.cell 2).trans (by first | rfl | simp [List.getElem?_append, ints_len, bools_len]))) rfl ?_
  refine wl_callF (bits_Open.calls _ _ _ _ _ h) enter15 rfl trivial so ?_; intro x6 w7 h so
  obtain ⟨q8, h⟩ := h
  replace t_b1 := pv_bk q8 t_b1 (by simp)
  refine wl_val (at_assign rfl) rfl ?_
  refine wl_nil ?_
  refine wk_prune [(1, .int .i64 a1), (2, .int .i64 a2), (3, .int .i64 a3), (4, .pointer (some (⟨b1, 0, none⟩ : Addr))), (9, .bool x3), (10, .pointer x6)] ⟨rfl, rfl, rfl, rfl, rfl, rfl, trivial⟩ (fun f1 => ?_)
  refine wk_then ?_
  refine wc_seq ?_
  refine wc_region ?_
  refine wl_val (at_fieldAddr Try.underlying34 rfl rfl sz9 (by decide) rfl) rfl ?_
  refine wl_val (at_load (v := .string a0_0) Try.underlying9 rfl rfl ((t_b1.cell 0).trans (by first | rfl | simp [List.getElem?_append, ints_len, bools_len]))) rfl ?_
  refine wl_val (at_fieldAddr Try.underlying34 rfl rfl sz3 (by decide) rfl) rfl ?_
  refine wl_val (at_load (v := .int .i64 a0_1) Try.underlying3 rfl rfl ((t_b1.cell 1).trans (by first | rfl | simp [List.getElem?_append, ints_len, bools_len]))) rfl ?_
  refine wl_val (at_fieldAddr Try.underlying34 rfl rfl sz3 (by decide) rfl) rfl ?_
  refine wl_val (at_load (v := .int .i64 a0_2) Try.underlying3 rfl rfl ((t_b1.cell 2).trans (by first | rfl | simp [List.getElem?_append, ints_len, bools_len]))) rfl ?_
  refine wl_callF (bits_Open.calls _ _ _ _ _ h) enter15 rfl trivial so ?_; intro x9 w10 h so
  refine wl_val (at_assign rfl) rfl ?_
  refine wl_nil ?_
  refine wk_prune [(1, .int .i64 a1), (2, .int .i64 a2), (3, .int .i64 a3), (9, .bool x3), (10, .pointer x6), (11, .pointer x9)] ⟨rfl, rfl, rfl, rfl, rfl, rfl, trivial⟩ (fun f1 => ?_)
  refine wk_then ?_
  refine wc_seq ?_
  refine wc_seq ?_
  refine wc_join (w0 := w0) (fun (s12 : Bool) => [(1, .int .i64 a1), (2, .int .i64 a2), (3, .int .i64 a3), (10, .pointer x6), (11, .pointer x9), (49, .bool s12)]) h ?_ ?_
  · rintro s12 w13 f1 h so; refine wk_then ?_
    refine wc_cond rfl h (fun h => ?_) (fun h => ?_)
    · refine wc_seq ?_
      refine wc_region ?_
      refine wl_val (at_assign rfl) rfl ?_
      refine wl_nil ?_
      refine wk_prune [(8, .bool false)] ⟨rfl, trivial⟩ (fun f1 => ?_)
      refine wk_then ?_
      refine wc_ret ?_
      refine wk_thenR ?_
      exact wk_ret1 (x := false) rfl (by decide) rfl so h
    · refine wc_skip ?_
      refine wk_prune [(1, .int .i64 a1), (2, .int .i64 a2), (3, .int .i64 a3), (10, .pointer x6), (11, .pointer x9)] ⟨rfl, rfl, rfl, rfl, rfl, trivial⟩ (fun f1 => ?_)
      refine wk_then ?_
      refine wc_seq ?_
      refine wc_region ?_
      refine wl_val (at_move rfl) rfl ?_
      refine wl_callF (bits_Source_Left.calls _ _ _ h) enter20 rfl trivial so ?_; intro x14 w15 h so
      refine wl_val (at_assign rfl) rfl ?_
      refine wl_nil ?_
      refine wk_prune [(1, .int .i64 a1), (2, .int .i64 a2), (3, .int .i64 a3), (10, .pointer x6), (11, .pointer x9), (12, .int .i64 x14)] ⟨rfl, rfl, rfl, rfl, rfl, rfl, trivial⟩ (fun f1 => ?_)
      refine wk_then ?_
      refine wc_seq ?_
      refine wc_region ?_
      refine wl_val (at_move rfl) rfl ?_
      refine wl_val (at_move rfl) rfl ?_
      refine wl_callF (bits_Source_Skip.calls _ _ _ _ h) enter21 rfl trivial so ?_; intro x16 w17 h so
      refine wl_val (at_assign rfl) rfl ?_
      refine wl_nil ?_
      refine wk_prune [(1, .int .i64 a1), (2, .int .i64 a2), (3, .int .i64 a3), (10, .pointer x6), (11, .pointer x9), (12, .int .i64 x14), (13, .bool x16)] ⟨rfl, rfl, rfl, rfl, rfl, rfl, rfl, trivial⟩ (fun f1 => ?_)
      refine wk_then ?_
      refine wc_seq ?_
      refine wc_region ?_
      refine wl_val (at_move rfl) rfl ?_
      refine wl_val (at_move rfl) rfl ?_
      refine wl_callF (bits_Source_Skip.calls _ _ _ _ h) enter21 rfl trivial so ?_; intro x18 w19 h so
      refine wl_val (at_assign rfl) rfl ?_
      refine wl_nil ?_
      refine wk_prune [(1, .int .i64 a1), (2, .int .i64 a2), (3, .int .i64 a3), (10, .pointer x6), (11, .pointer x9), (12, .int .i64 x14), (13, .bool x16), (14, .bool x18)] ⟨rfl, rfl, rfl, rfl, rfl, rfl, rfl, rfl, trivial⟩ (fun f1 => ?_)
      refine wk_then ?_
      refine wc_seq ?_
      refine wc_seq ?_
      refine wc_join (w0 := w0) (fun (s21 : Bool) => [(2, .int .i64 a2), (3, .int .i64 a3), (10, .pointer x6), (11, .pointer x9), (12, .int .i64 x14), (89, .bool s21)]) h ?_ ?_
      · rintro s21 w22 f1 h so; refine wk_then ?_
        refine wc_cond rfl h (fun h => ?_) (fun h => ?_)
        · refine wc_seq ?_
          refine wc_region ?_
          refine wl_val (at_assign rfl) rfl ?_
          refine wl_nil ?_
          refine wk_prune [(8, .bool false)] ⟨rfl, trivial⟩ (fun f1 => ?_)
          refine wk_then ?_
          refine wc_ret ?_
          refine wk_thenR ?_
          exact wk_ret1 (x := false) rfl (by decide) rfl so h
        · refine wc_skip ?_
          refine wk_prune [(2, .int .i64 a2), (3, .int .i64 a3), (10, .pointer x6), (11, .pointer x9), (12, .int .i64 x14)] ⟨rfl, rfl, rfl, rfl, rfl, trivial⟩ (fun f1 => ?_)
          refine wk_then ?_
          refine wc_seq ?_
          refine wc_region ?_
          refine wl_val (at_move rfl) rfl ?_
          refine wl_callF (mosaiclaw01_clip.calls _ _ _ h) enter23 rfl trivial so ?_; intro x23 w24 h so
          refine wl_val (at_assign rfl) rfl ?_
          refine wl_nil ?_
          refine wk_prune [(3, .int .i64 a3), (10, .pointer x6), (11, .pointer x9), (12, .int .i64 x14), (15, .int .i64 x23)] ⟨rfl, rfl, rfl, rfl, rfl, trivial⟩ (fun f1 => ?_)
          refine wk_then ?_
          refine wc_seq ?_
          refine wc_region ?_
          refine wl_val (at_move rfl) rfl ?_
          refine wl_callF (mosaiclaw01_clip.calls _ _ _ h) enter23 rfl trivial so ?_; intro x25 w26 h so
          refine wl_val (at_move rfl) rfl ?_
          refine wl_val (at_sub rfl rfl) rfl ?_
          obtain ⟨q27, h⟩ := h
          refine wl_val (at_rem rfl rfl q27) rfl ?_
          refine wl_val (at_assign rfl) rfl ?_
          obtain ⟨x28, e29⟩ : ∃ x : Int, x = (Int.tmod x25 (IntKind.wrap .i64 ((17 : Int) - x23))) := ⟨_, rfl⟩; replace h := h x28 e29
          refine wl_set (t := 16) (v := .int .i64 x28) (congrArg (Value.int .i64) e29.symm) ?_
          refine wl_nil ?_
          refine wk_prune [(10, .pointer x6), (11, .pointer x9), (12, .int .i64 x14), (15, .int .i64 x23), (16, .int .i64 x28)] ⟨rfl, rfl, rfl, rfl, rfl, trivial⟩ (fun f1 => ?_)
          refine wk_then ?_
          refine wc_seq ?_
          refine wc_region ?_
          refine wl_val (at_move rfl) rfl ?_
          refine wl_val (at_move rfl) rfl ?_
          refine wl_val (at_move rfl) rfl ?_
          refine wl_val (at_add rfl rfl) rfl ?_
          refine wl_callF (bits_Source_Peek.calls _ _ _ _ h) enter24 rfl trivial so ?_; intro x30 w31 h so
          refine wl_val (at_move rfl) rfl ?_
          refine wl_val (at_extract rfl rfl) rfl ?_
          refine wl_val (at_extract rfl rfl) rfl ?_
          refine wl_val (at_assign rfl) rfl ?_
          refine wl_val (at_assign rfl) rfl ?_
          refine wl_nil ?_
          refine wk_prune [(10, .pointer x6), (11, .pointer x9), (12, .int .i64 x14), (15, .int .i64 x23), (16, .int .i64 x28), (17, .int .i64 x30.1), (18, .bool x30.2)] ⟨rfl, rfl, rfl, rfl, rfl, rfl, rfl, trivial⟩ (fun f1 => ?_)
          refine wk_then ?_
          refine wc_seq ?_
          refine wc_region ?_
          refine wl_val (at_move rfl) rfl ?_
          refine wl_val (at_move rfl) rfl ?_
          refine wl_val (at_move rfl) rfl ?_
          refine wl_val (at_add rfl rfl) rfl ?_
          refine wl_callF (bits_Source_Next.calls _ _ _ _ h) enter25 rfl trivial so ?_; intro x32 w33 h so
          refine wl_val (at_move rfl) rfl ?_
          refine wl_val (at_extract rfl rfl) rfl ?_
          refine wl_val (at_extract rfl rfl) rfl ?_
          refine wl_val (at_assign rfl) rfl ?_
          refine wl_val (at_assign rfl) rfl ?_
          refine wl_nil ?_
          refine wk_prune [(10, .pointer x6), (11, .pointer x9), (12, .int .i64 x14), (15, .int .i64 x23), (16, .int .i64 x28), (17, .int .i64 x30.1), (18, .bool x30.2), (19, .int .i64 x32.1), (20, .bool x32.2)] ⟨rfl, rfl, rfl, rfl, rfl, rfl, rfl, rfl, rfl, trivial⟩ (fun f1 => ?_)
          refine wk_then ?_
          refine wc_seq ?_
          refine wc_seq ?_
          refine wc_join (w0 := w0) (fun (s35 : Bool) => [(10, .pointer x6), (11, .pointer x9), (15, .int .i64 x23), (16, .int .i64 x28), (19, .int .i64 x32.1), (20, .bool x32.2), (156, .bool s35)]) h ?_ ?_
          · rintro s35 w36 f1 h so; refine wk_then ?_
            refine wc_cond rfl h (fun h => ?_) (fun h => ?_)
            · refine wc_seq ?_
              refine wc_region ?_
              refine wl_val (at_assign rfl) rfl ?_
              refine wl_nil ?_
              refine wk_prune [(8, .bool false)] ⟨rfl, trivial⟩ (fun f1 => ?_)
              refine wk_then ?_
              refine wc_ret ?_
              refine wk_thenR ?_
              exact wk_ret1 (x := false) rfl (by decide) rfl so h
            · refine wc_skip ?_
              refine wk_prune [(10, .pointer x6), (11, .pointer x9), (15, .int .i64 x23), (16, .int .i64 x28), (19, .int .i64 x32.1), (20, .bool x32.2)] ⟨rfl, rfl, rfl, rfl, rfl, rfl, trivial⟩ (fun f1 => ?_)
              refine wk_then ?_
              refine wc_seq ?_
              refine wc_seq ?_
              refine wc_region ?_
              refine wl_val (at_move rfl) rfl ?_
              refine wl_val (at_not rfl) rfl ?_
              refine wl_nil ?_
              refine wk_prune [(10, .pointer x6), (11, .pointer x9), (15, .int .i64 x23), (16, .int .i64 x28), (19, .int .i64 x32.1), (158, .bool (!x32.2))] ⟨rfl, rfl, rfl, rfl, rfl, rfl, trivial⟩ (fun f1 => ?_)
              refine wk_then ?_
              refine wc_cond rfl h (fun h => ?_) (fun h => ?_)
              · refine wc_seq ?_
                refine wc_region ?_
                refine wl_val (at_assign rfl) rfl ?_
                refine wl_nil ?_
                refine wk_prune [(8, .bool true)] ⟨rfl, trivial⟩ (fun f1 => ?_)
                refine wk_then ?_
                refine wc_ret ?_
                refine wk_thenR ?_
                exact wk_ret1 (x := true) rfl (by decide) rfl so h
              · refine wc_skip ?_
                refine wk_prune [(10, .pointer x6), (11, .pointer x9), (15, .int .i64 x23), (16, .int .i64 x28), (19, .int .i64 x32.1)] ⟨rfl, rfl, rfl, rfl, rfl, trivial⟩ (fun f1 => ?_)
                refine wk_then ?_
                refine wc_seq ?_
                refine wc_region ?_
                refine wl_val (at_move rfl) rfl ?_
                refine wl_val (at_move rfl) rfl ?_
                refine wl_callF (bits_Source_Next.calls _ _ _ _ h) enter25 rfl trivial so ?_; intro x37 w38 h so
                refine wl_val (at_move rfl) rfl ?_
                refine wl_val (at_extract rfl rfl) rfl ?_
                refine wl_val (at_extract rfl rfl) rfl ?_
                refine wl_val (at_assign rfl) rfl ?_
                refine wl_val (at_assign rfl) rfl ?_
                refine wl_nil ?_
                refine wk_prune [(10, .pointer x6), (11, .pointer x9), (16, .int .i64 x28), (19, .int .i64 x32.1), (21, .int .i64 x37.1), (22, .bool x37.2)] ⟨rfl, rfl, rfl, rfl, rfl, rfl, trivial⟩ (fun f1 => ?_)
                refine wk_then ?_
                refine wc_seq ?_
                refine wc_region ?_
                refine wl_val (at_move rfl) rfl ?_
                refine wl_val (at_move rfl) rfl ?_
                refine wl_callF (bits_Source_Next.calls _ _ _ _ h) enter25 rfl trivial so ?_; intro x39 w40 h so
                refine wl_val (at_move rfl) rfl ?_
                refine wl_val (at_extract rfl rfl) rfl ?_
                refine wl_val (at_extract rfl rfl) rfl ?_
                refine wl_val (at_assign rfl) rfl ?_
                refine wl_val (at_assign rfl) rfl ?_
                refine wl_nil ?_
                refine wk_prune [(10, .pointer x6), (11, .pointer x9), (16, .int .i64 x28), (19, .int .i64 x32.1), (21, .int .i64 x37.1), (22, .bool x37.2), (23, .int .i64 x39.1), (24, .bool x39.2)] ⟨rfl, rfl, rfl, rfl, rfl, rfl, rfl, rfl, trivial⟩ (fun f1 => ?_)
                refine wk_then ?_
                refine wc_seq ?_
                refine wc_region ?_
                refine wl_val (at_move rfl) rfl ?_
                refine wl_val (at_move rfl) rfl ?_
                refine bif_ h (fun hb h => ?_) (fun hb h => ?_)
                · refine wl_set (t := 172) (v := .bool true) (congrArg Value.bool hb) ?_; clear hb
                  refine wl_on (t := 172) rfl (by decide) rfl ?_
                  refine wl_val (at_move rfl) rfl ?_
                  refine wl_val (at_pick_t rfl rfl) rfl ?_
                  refine wl_val (at_move rfl) rfl ?_
                  refine bif_ h (fun hb h => ?_) (fun hb h => ?_)
                  · refine wl_set (t := 175) (v := .bool true) (congrArg Value.bool hb) ?_; clear hb
                    refine wl_on (t := 175) rfl (by decide) rfl ?_
                    refine wl_val (at_move rfl) rfl ?_
                    refine wl_on (t := 175) rfl (by decide) rfl ?_
                    refine wl_val (at_move rfl) rfl ?_
                    refine wl_on (t := 175) rfl (by decide) rfl ?_
                    refine wl_val (at_move rfl) rfl ?_
                    refine wl_on (t := 175) rfl (by decide) rfl ?_
                    obtain ⟨q41, h⟩ := h
                    refine wl_val (at_shl rfl rfl q41) rfl ?_
                    refine wl_on (t := 175) rfl (by decide) rfl ?_
                    refine wl_val (at_move rfl) rfl ?_
                    refine wl_on (t := 175) rfl (by decide) rfl ?_
                    refine wl_val (at_add rfl rfl) rfl ?_
                    refine wl_on (t := 175) rfl (by decide) rfl ?_
                    refine wl_val (at_eql rfl rfl) rfl ?_
                    refine wl_val (at_pick_t rfl rfl) rfl ?_
                    refine wl_val (at_move rfl) rfl ?_
                    refine bif_ h (fun hb h => ?_) (fun hb h => ?_)
                    · refine wl_set (t := 184) (v := .bool true) (congrArg Value.bool hb) ?_; clear hb
                      refine wl_on (t := 184) rfl (by decide) rfl ?_
                      refine wl_val (at_move rfl) rfl ?_
                      refine wl_on (t := 184) rfl (by decide) rfl ?_
                      refine wl_callF (bits_Source_At.calls _ _ _ h) enter26 rfl trivial so ?_; intro x42 w43 h so
                      refine wl_on (t := 184) rfl (by decide) rfl ?_
                      refine wl_val (at_move rfl) rfl ?_
                      refine wl_on (t := 184) rfl (by decide) rfl ?_
                      refine wl_callF (bits_Source_At.calls _ _ _ h) enter26 rfl trivial so ?_; intro x44 w45 h so
                      refine wl_on (t := 184) rfl (by decide) rfl ?_
                      refine wl_val (at_eql rfl rfl) rfl ?_
                      refine wl_val (at_pick_t rfl rfl) rfl ?_
                      refine wl_val (at_assign rfl) rfl ?_
                      refine wl_nil ?_
                      refine wk_prune [(8, .bool (x42 == x44))] ⟨rfl, trivial⟩ (fun f1 => ?_)
                      refine wk_then ?_
                      refine wc_ret ?_
                      exact wk_ret1 (x := (x42 == x44)) rfl (by decide) rfl so h
                    · refine wl_set (t := 184) (v := .bool false) (congrArg Value.bool hb) ?_; clear hb
                      refine wl_off (t := 184) rfl (by decide) rfl ?_
                      refine wl_off (t := 184) rfl (by decide) rfl ?_
                      refine wl_off (t := 184) rfl (by decide) rfl ?_
                      refine wl_off (t := 184) rfl (by decide) rfl ?_
                      refine wl_off (t := 184) rfl (by decide) rfl ?_
                      refine wl_val (at_pick_f rfl rfl) rfl ?_
                      refine wl_val (at_assign rfl) rfl ?_
                      refine wl_nil ?_
                      refine wk_prune [(8, .bool false)] ⟨rfl, trivial⟩ (fun f1 => ?_)
                      refine wk_then ?_
                      refine wc_ret ?_
                      exact wk_ret1 (x := false) rfl (by decide) rfl so h
                  · refine wl_set (t := 175) (v := .bool false) (congrArg Value.bool hb) ?_; clear hb
                    refine wl_off (t := 175) rfl (by decide) rfl ?_
                    refine wl_off (t := 175) rfl (by decide) rfl ?_
                    refine wl_off (t := 175) rfl (by decide) rfl ?_
                    refine wl_off (t := 175) rfl (by decide) rfl ?_
                    refine wl_off (t := 175) rfl (by decide) rfl ?_
                    refine wl_off (t := 175) rfl (by decide) rfl ?_
                    refine wl_off (t := 175) rfl (by decide) rfl ?_
                    refine wl_val (at_pick_f rfl rfl) rfl ?_
                    refine wl_val (at_move rfl) rfl ?_
                    refine wl_off (t := 184) rfl (by decide) rfl ?_
                    refine wl_off (t := 184) rfl (by decide) rfl ?_
                    refine wl_off (t := 184) rfl (by decide) rfl ?_
                    refine wl_off (t := 184) rfl (by decide) rfl ?_
                    refine wl_off (t := 184) rfl (by decide) rfl ?_
                    refine wl_val (at_pick_f rfl rfl) rfl ?_
                    refine wl_val (at_assign rfl) rfl ?_
                    refine wl_nil ?_
                    refine wk_prune [(8, .bool false)] ⟨rfl, trivial⟩ (fun f1 => ?_)
                    refine wk_then ?_
                    refine wc_ret ?_
                    exact wk_ret1 (x := false) rfl (by decide) rfl so h
                · refine wl_set (t := 172) (v := .bool false) (congrArg Value.bool hb) ?_; clear hb
                  refine wl_off (t := 172) rfl (by decide) rfl ?_
                  refine wl_val (at_pick_f rfl rfl) rfl ?_
                  refine wl_val (at_move rfl) rfl ?_
                  refine wl_off (t := 175) rfl (by decide) rfl ?_
                  refine wl_off (t := 175) rfl (by decide) rfl ?_
                  refine wl_off (t := 175) rfl (by decide) rfl ?_
                  refine wl_off (t := 175) rfl (by decide) rfl ?_
                  refine wl_off (t := 175) rfl (by decide) rfl ?_
                  refine wl_off (t := 175) rfl (by decide) rfl ?_
                  refine wl_off (t := 175) rfl (by decide) rfl ?_
                  refine wl_val (at_pick_f rfl rfl) rfl ?_
                  refine wl_val (at_move rfl) rfl ?_
                  refine wl_off (t := 184) rfl (by decide) rfl ?_
                  refine wl_off (t := 184) rfl (by decide) rfl ?_
                  refine wl_off (t := 184) rfl (by decide) rfl ?_
                  refine wl_off (t := 184) rfl (by decide) rfl ?_
                  refine wl_off (t := 184) rfl (by decide) rfl ?_
                  refine wl_val (at_pick_f rfl rfl) rfl ?_
                  refine wl_val (at_assign rfl) rfl ?_
                  refine wl_nil ?_
                  refine wk_prune [(8, .bool false)] ⟨rfl, trivial⟩ (fun f1 => ?_)
                  refine wk_then ?_
                  refine wc_ret ?_
                  exact wk_ret1 (x := false) rfl (by decide) rfl so h
          · intro J34 h hJ34
            refine wc_region ?_
            refine wl_val (at_move rfl) rfl ?_
            refine wl_val (at_not rfl) rfl ?_
            refine wl_val (at_move rfl) rfl ?_
            refine bif_ h (fun hb h => ?_) (fun hb h => ?_)
            · refine wl_set (t := 115) (v := .bool true) (congrArg Value.bool hb) ?_; clear hb
              refine wl_off (t := 115) rfl (by decide) rfl ?_
              refine wl_off (t := 115) rfl (by decide) rfl ?_
              refine wl_off (t := 115) rfl (by decide) rfl ?_
              refine wl_off (t := 115) rfl (by decide) rfl ?_
              refine wl_off (t := 115) rfl (by decide) rfl ?_
              refine wl_off (t := 115) rfl (by decide) rfl ?_
              refine wl_off (t := 115) rfl (by decide) rfl ?_
              refine wl_off (t := 115) rfl (by decide) rfl ?_
              refine wl_val (at_pick_t rfl rfl) rfl ?_
              refine wl_val (at_move rfl) rfl ?_
              refine wl_off (t := 125) rfl (by decide) rfl ?_
              refine wl_off (t := 125) rfl (by decide) rfl ?_
              refine wl_off (t := 125) rfl (by decide) rfl ?_
              refine wl_off (t := 125) rfl (by decide) rfl ?_
              refine wl_off (t := 125) rfl (by decide) rfl ?_
              refine wl_off (t := 125) rfl (by decide) rfl ?_
              refine wl_off (t := 125) rfl (by decide) rfl ?_
              refine wl_val (at_pick_t rfl rfl) rfl ?_
              refine wl_val (at_move rfl) rfl ?_
              refine wl_off (t := 134) rfl (by decide) rfl ?_
              refine wl_off (t := 134) rfl (by decide) rfl ?_
              refine wl_off' (t := 136) rfl (by decide) rfl ?_
              refine wl_off' (t := 136) rfl (by decide) rfl ?_
              refine wl_off' (t := 136) rfl (by decide) rfl ?_
              refine wl_off (t := 134) rfl (by decide) rfl ?_
              refine wl_val (at_pick_t rfl rfl) rfl ?_
              refine wl_val (at_move rfl) rfl ?_
              refine wl_off (t := 142) rfl (by decide) rfl ?_
              refine wl_off (t := 142) rfl (by decide) rfl ?_
              refine wl_off (t := 142) rfl (by decide) rfl ?_
              refine wl_off' (t := 145) rfl (by decide) rfl ?_
              refine wl_off' (t := 145) rfl (by decide) rfl ?_
              refine wl_off' (t := 145) rfl (by decide) rfl ?_
              refine wl_off' (t := 148) rfl (by decide) rfl ?_
              refine wl_off' (t := 148) rfl (by decide) rfl ?_
              refine wl_off' (t := 148) rfl (by decide) rfl ?_
              refine wl_off' (t := 148) rfl (by decide) rfl ?_
              refine wl_off' (t := 148) rfl (by decide) rfl ?_
              refine wl_off' (t := 145) rfl (by decide) rfl ?_
              refine wl_off (t := 142) rfl (by decide) rfl ?_
              refine wl_val (at_pick_t rfl rfl) rfl ?_
              refine wl_nil ?_
              exact wk_prune [(10, .pointer x6), (11, .pointer x9), (15, .int .i64 x23), (16, .int .i64 x28), (19, .int .i64 x32.1), (20, .bool x32.2), (156, .bool true)] ⟨rfl, rfl, rfl, rfl, rfl, rfl, rfl, trivial⟩ (fun f1 => hJ34 (true) _ f1 h so)
            · refine wl_set (t := 115) (v := .bool false) (congrArg Value.bool hb) ?_; clear hb
              refine wl_on (t := 115) rfl (by decide) rfl ?_
              refine wl_val (at_move rfl) rfl ?_
              refine wl_on (t := 115) rfl (by decide) rfl ?_
              refine wl_val (at_move rfl) rfl ?_
              refine wl_on (t := 115) rfl (by decide) rfl ?_
              refine wl_val (at_move rfl) rfl ?_
              refine wl_on (t := 115) rfl (by decide) rfl ?_
              refine wl_val (at_add rfl rfl) rfl ?_
              refine wl_on (t := 115) rfl (by decide) rfl ?_
              refine wl_val (at_move rfl) rfl ?_
              refine wl_on (t := 115) rfl (by decide) rfl ?_
              refine wl_callF (bits_Source_Left.calls _ _ _ h) enter20 rfl trivial so ?_; intro x46 w47 h so
              refine wl_on (t := 115) rfl (by decide) rfl ?_
              refine wl_val (at_leq rfl rfl) rfl ?_
              refine wl_on (t := 115) rfl (by decide) rfl ?_
              refine wl_val (at_neqB Try.underlying4 rfl rfl) rfl ?_
              refine wl_val (at_pick_f rfl rfl) rfl ?_
              refine wl_val (at_move rfl) rfl ?_
              refine bif_ h (fun hb h => ?_) (fun hb h => ?_)
              · refine wl_set (t := 125) (v := .bool true) (congrArg Value.bool hb) ?_; clear hb
                refine wl_off (t := 125) rfl (by decide) rfl ?_
                refine wl_off (t := 125) rfl (by decide) rfl ?_
                refine wl_off (t := 125) rfl (by decide) rfl ?_
                refine wl_off (t := 125) rfl (by decide) rfl ?_
                refine wl_off (t := 125) rfl (by decide) rfl ?_
                refine wl_off (t := 125) rfl (by decide) rfl ?_
                refine wl_off (t := 125) rfl (by decide) rfl ?_
                refine wl_val (at_pick_t rfl rfl) rfl ?_
                refine wl_val (at_move rfl) rfl ?_
                refine wl_off (t := 134) rfl (by decide) rfl ?_
                refine wl_off (t := 134) rfl (by decide) rfl ?_
                refine wl_off' (t := 136) rfl (by decide) rfl ?_
                refine wl_off' (t := 136) rfl (by decide) rfl ?_
                refine wl_off' (t := 136) rfl (by decide) rfl ?_
                refine wl_off (t := 134) rfl (by decide) rfl ?_
                refine wl_val (at_pick_t rfl rfl) rfl ?_
                refine wl_val (at_move rfl) rfl ?_
                refine wl_off (t := 142) rfl (by decide) rfl ?_
                refine wl_off (t := 142) rfl (by decide) rfl ?_
                refine wl_off (t := 142) rfl (by decide) rfl ?_
                refine wl_off' (t := 145) rfl (by decide) rfl ?_
                refine wl_off' (t := 145) rfl (by decide) rfl ?_
                refine wl_off' (t := 145) rfl (by decide) rfl ?_
                refine wl_off' (t := 148) rfl (by decide) rfl ?_
                refine wl_off' (t := 148) rfl (by decide) rfl ?_
                refine wl_off' (t := 148) rfl (by decide) rfl ?_
                refine wl_off' (t := 148) rfl (by decide) rfl ?_
                refine wl_off' (t := 148) rfl (by decide) rfl ?_
                refine wl_off' (t := 145) rfl (by decide) rfl ?_
                refine wl_off (t := 142) rfl (by decide) rfl ?_
                refine wl_val (at_pick_t rfl rfl) rfl ?_
                refine wl_nil ?_
                exact wk_prune [(10, .pointer x6), (11, .pointer x9), (15, .int .i64 x23), (16, .int .i64 x28), (19, .int .i64 x32.1), (20, .bool x32.2), (156, .bool true)] ⟨rfl, rfl, rfl, rfl, rfl, rfl, rfl, trivial⟩ (fun f1 => hJ34 (true) _ f1 h so)
              · refine wl_set (t := 125) (v := .bool false) (congrArg Value.bool hb) ?_; clear hb
                refine wl_on (t := 125) rfl (by decide) rfl ?_
                refine wl_val (at_move rfl) rfl ?_
                refine wl_on (t := 125) rfl (by decide) rfl ?_
                refine wl_callF (bits_Source_Left.calls _ _ _ h) enter20 rfl trivial so ?_; intro x48 w49 h so
                refine wl_on (t := 125) rfl (by decide) rfl ?_
                refine wl_val (at_move rfl) rfl ?_
                refine wl_on (t := 125) rfl (by decide) rfl ?_
                refine wl_callF (bits_Source_Used.calls _ _ _ h) enter22 rfl trivial so ?_; intro x50 w51 h so
                refine wl_on (t := 125) rfl (by decide) rfl ?_
                refine wl_val (at_add rfl rfl) rfl ?_
                refine wl_on (t := 125) rfl (by decide) rfl ?_
                refine wl_val (at_move rfl) rfl ?_
                refine wl_on (t := 125) rfl (by decide) rfl ?_
                refine wl_val (at_neq rfl rfl) rfl ?_
                refine wl_val (at_pick_f rfl rfl) rfl ?_
                refine wl_val (at_move rfl) rfl ?_
                refine bif_ h (fun hb h => ?_) (fun hb h => ?_)
                · refine wl_set (t := 134) (v := .bool true) (congrArg Value.bool hb) ?_; clear hb
                  refine wl_off (t := 134) rfl (by decide) rfl ?_
                  refine wl_off (t := 134) rfl (by decide) rfl ?_
                  refine wl_off' (t := 136) rfl (by decide) rfl ?_
                  refine wl_off' (t := 136) rfl (by decide) rfl ?_
                  refine wl_off' (t := 136) rfl (by decide) rfl ?_
                  refine wl_off (t := 134) rfl (by decide) rfl ?_
                  refine wl_val (at_pick_t rfl rfl) rfl ?_
                  refine wl_val (at_move rfl) rfl ?_
                  refine wl_off (t := 142) rfl (by decide) rfl ?_
                  refine wl_off (t := 142) rfl (by decide) rfl ?_
                  refine wl_off (t := 142) rfl (by decide) rfl ?_
                  refine wl_off' (t := 145) rfl (by decide) rfl ?_
                  refine wl_off' (t := 145) rfl (by decide) rfl ?_
                  refine wl_off' (t := 145) rfl (by decide) rfl ?_
                  refine wl_off' (t := 148) rfl (by decide) rfl ?_
                  refine wl_off' (t := 148) rfl (by decide) rfl ?_
                  refine wl_off' (t := 148) rfl (by decide) rfl ?_
                  refine wl_off' (t := 148) rfl (by decide) rfl ?_
                  refine wl_off' (t := 148) rfl (by decide) rfl ?_
                  refine wl_off' (t := 145) rfl (by decide) rfl ?_
                  refine wl_off (t := 142) rfl (by decide) rfl ?_
                  refine wl_val (at_pick_t rfl rfl) rfl ?_
                  refine wl_nil ?_
                  exact wk_prune [(10, .pointer x6), (11, .pointer x9), (15, .int .i64 x23), (16, .int .i64 x28), (19, .int .i64 x32.1), (20, .bool x32.2), (156, .bool true)] ⟨rfl, rfl, rfl, rfl, rfl, rfl, rfl, trivial⟩ (fun f1 => hJ34 (true) _ f1 h so)
                · refine wl_set (t := 134) (v := .bool false) (congrArg Value.bool hb) ?_; clear hb
                  refine wl_on (t := 134) rfl (by decide) rfl ?_
                  refine wl_val (at_move rfl) rfl ?_
                  refine wl_on (t := 134) rfl (by decide) rfl ?_
                  refine wl_val (at_move rfl) rfl ?_
                  refine bif_ h (fun hb h => ?_) (fun hb h => ?_)
                  · refine wl_set (t := 136) (v := .bool true) (congrArg Value.bool hb) ?_; clear hb
                    refine wl_on (t := 136) rfl (by decide) rfl ?_
                    refine wl_val (at_move rfl) rfl ?_
                    refine wl_on (t := 136) rfl (by decide) rfl ?_
                    refine wl_val (at_move rfl) rfl ?_
                    refine wl_on (t := 136) rfl (by decide) rfl ?_
                    refine wl_val (at_neq rfl rfl) rfl ?_
                    refine wl_on (t := 134) rfl (by decide) rfl ?_
                    refine wl_val (at_pick_t rfl rfl) rfl ?_
                    refine wl_val (at_pick_f rfl rfl) rfl ?_
                    refine wl_val (at_move rfl) rfl ?_
                    refine bif_ h (fun hb h => ?_) (fun hb h => ?_)
                    · refine wl_set (t := 142) (v := .bool true) (congrArg Value.bool hb) ?_; clear hb
                      refine wl_off (t := 142) rfl (by decide) rfl ?_
                      refine wl_off (t := 142) rfl (by decide) rfl ?_
                      refine wl_off (t := 142) rfl (by decide) rfl ?_
                      refine wl_off' (t := 145) rfl (by decide) rfl ?_
                      refine wl_off' (t := 145) rfl (by decide) rfl ?_
                      refine wl_off' (t := 145) rfl (by decide) rfl ?_
                      refine wl_off' (t := 148) rfl (by decide) rfl ?_
                      refine wl_off' (t := 148) rfl (by decide) rfl ?_
                      refine wl_off' (t := 148) rfl (by decide) rfl ?_
                      refine wl_off' (t := 148) rfl (by decide) rfl ?_
                      refine wl_off' (t := 148) rfl (by decide) rfl ?_
                      refine wl_off' (t := 145) rfl (by decide) rfl ?_
                      refine wl_off (t := 142) rfl (by decide) rfl ?_
                      refine wl_val (at_pick_t rfl rfl) rfl ?_
                      refine wl_nil ?_
                      exact wk_prune [(10, .pointer x6), (11, .pointer x9), (15, .int .i64 x23), (16, .int .i64 x28), (19, .int .i64 x32.1), (20, .bool x32.2), (156, .bool true)] ⟨rfl, rfl, rfl, rfl, rfl, rfl, rfl, trivial⟩ (fun f1 => hJ34 (true) _ f1 h so)
                    · refine wl_set (t := 142) (v := .bool false) (congrArg Value.bool hb) ?_; clear hb
                      refine wl_on (t := 142) rfl (by decide) rfl ?_
                      refine wl_val (at_move rfl) rfl ?_
                      refine wl_on (t := 142) rfl (by decide) rfl ?_
                      refine wl_val (at_not rfl) rfl ?_
                      refine wl_on (t := 142) rfl (by decide) rfl ?_
                      refine wl_val (at_move rfl) rfl ?_
                      refine bif_ h (fun hb h => ?_) (fun hb h => ?_)
                      · refine wl_set (t := 145) (v := .bool true) (congrArg Value.bool hb) ?_; clear hb
                        refine wl_on (t := 145) rfl (by decide) rfl ?_
                        refine wl_val (at_move rfl) rfl ?_
                        refine wl_on (t := 145) rfl (by decide) rfl ?_
                        refine wl_val (at_neq rfl rfl) rfl ?_
                        refine wl_on (t := 145) rfl (by decide) rfl ?_
                        refine wl_val (at_move rfl) rfl ?_
                        refine bif_ h (fun hb h => ?_) (fun hb h => ?_)
                        · refine wl_set (t := 148) (v := .bool true) (congrArg Value.bool hb) ?_; clear hb
                          refine wl_off (t := 148) rfl (by decide) rfl ?_
                          refine wl_off (t := 148) rfl (by decide) rfl ?_
                          refine wl_off (t := 148) rfl (by decide) rfl ?_
                          refine wl_off (t := 148) rfl (by decide) rfl ?_
                          refine wl_off (t := 148) rfl (by decide) rfl ?_
                          refine wl_on (t := 145) rfl (by decide) rfl ?_
                          refine wl_val (at_pick_t rfl rfl) rfl ?_
                          refine wl_on (t := 142) rfl (by decide) rfl ?_
                          refine wl_val (at_pick_t rfl rfl) rfl ?_
                          refine wl_val (at_pick_f rfl rfl) rfl ?_
                          refine wl_nil ?_
                          exact wk_prune [(10, .pointer x6), (11, .pointer x9), (15, .int .i64 x23), (16, .int .i64 x28), (19, .int .i64 x32.1), (20, .bool x32.2), (156, .bool true)] ⟨rfl, rfl, rfl, rfl, rfl, rfl, rfl, trivial⟩ (fun f1 => hJ34 (true) _ f1 h so)
                        · refine wl_set (t := 148) (v := .bool false) (congrArg Value.bool hb) ?_; clear hb
                          refine wl_on (t := 148) rfl (by decide) rfl ?_
                          refine wl_val (at_move rfl) rfl ?_
                          refine wl_on (t := 148) rfl (by decide) rfl ?_
                          refine wl_callF (bits_Source_Used.calls _ _ _ h) enter22 rfl trivial so ?_; intro x52 w53 h so
                          refine wl_on (t := 148) rfl (by decide) rfl ?_
                          refine wl_val (at_move rfl) rfl ?_
                          refine wl_on (t := 148) rfl (by decide) rfl ?_
                          refine wl_callF (bits_Source_Used.calls _ _ _ h) enter22 rfl trivial so ?_; intro x54 w55 h so
                          refine wl_on (t := 148) rfl (by decide) rfl ?_
                          refine wl_val (at_neq rfl rfl) rfl ?_
                          refine wl_on (t := 145) rfl (by decide) rfl ?_
                          refine wl_val (at_pick_f rfl rfl) rfl ?_
                          refine wl_on (t := 142) rfl (by decide) rfl ?_
                          refine wl_val (at_pick_t rfl rfl) rfl ?_
                          refine wl_val (at_pick_f rfl rfl) rfl ?_
                          refine wl_nil ?_
                          exact wk_prune [(10, .pointer x6), (11, .pointer x9), (15, .int .i64 x23), (16, .int .i64 x28), (19, .int .i64 x32.1), (20, .bool x32.2), (156, .bool (x52 != x54))] ⟨rfl, rfl, rfl, rfl, rfl, rfl, rfl, trivial⟩ (fun f1 => hJ34 ((x52 != x54)) _ f1 h so)
                      · refine wl_set (t := 145) (v := .bool false) (congrArg Value.bool hb) ?_; clear hb
                        refine wl_off (t := 145) rfl (by decide) rfl ?_
                        refine wl_off (t := 145) rfl (by decide) rfl ?_
                        refine wl_off (t := 145) rfl (by decide) rfl ?_
                        refine wl_off' (t := 148) rfl (by decide) rfl ?_
                        refine wl_off' (t := 148) rfl (by decide) rfl ?_
                        refine wl_off' (t := 148) rfl (by decide) rfl ?_
                        refine wl_off' (t := 148) rfl (by decide) rfl ?_
                        refine wl_off' (t := 148) rfl (by decide) rfl ?_
                        refine wl_off (t := 145) rfl (by decide) rfl ?_
                        refine wl_on (t := 142) rfl (by decide) rfl ?_
                        refine wl_val (at_pick_f rfl rfl) rfl ?_
                        refine wl_val (at_pick_f rfl rfl) rfl ?_
                        refine wl_nil ?_
                        exact wk_prune [(10, .pointer x6), (11, .pointer x9), (15, .int .i64 x23), (16, .int .i64 x28), (19, .int .i64 x32.1), (20, .bool x32.2), (156, .bool false)] ⟨rfl, rfl, rfl, rfl, rfl, rfl, rfl, trivial⟩ (fun f1 => hJ34 (false) _ f1 h so)
                  · refine wl_set (t := 136) (v := .bool false) (congrArg Value.bool hb) ?_; clear hb
                    refine wl_off (t := 136) rfl (by decide) rfl ?_
                    refine wl_off (t := 136) rfl (by decide) rfl ?_
                    refine wl_off (t := 136) rfl (by decide) rfl ?_
                    refine wl_on (t := 134) rfl (by decide) rfl ?_
                    refine wl_val (at_pick_f rfl rfl) rfl ?_
                    refine wl_val (at_pick_f rfl rfl) rfl ?_
                    refine wl_val (at_move rfl) rfl ?_
                    refine wl_on (t := 142) rfl (by decide) rfl ?_
                    refine wl_val (at_move rfl) rfl ?_
                    refine wl_on (t := 142) rfl (by decide) rfl ?_
                    refine wl_val (at_not rfl) rfl ?_
                    refine wl_on (t := 142) rfl (by decide) rfl ?_
                    refine wl_val (at_move rfl) rfl ?_
                    refine bif_ h (fun hb h => ?_) (fun hb h => ?_)
                    · refine wl_set (t := 145) (v := .bool true) (congrArg Value.bool hb) ?_; clear hb
                      refine wl_on (t := 145) rfl (by decide) rfl ?_
                      refine wl_val (at_move rfl) rfl ?_
                      refine wl_on (t := 145) rfl (by decide) rfl ?_
                      refine wl_val (at_neq rfl rfl) rfl ?_
                      refine wl_on (t := 145) rfl (by decide) rfl ?_
                      refine wl_val (at_move rfl) rfl ?_
                      refine bif_ h (fun hb h => ?_) (fun hb h => ?_)
                      · refine wl_set (t := 148) (v := .bool true) (congrArg Value.bool hb) ?_; clear hb
                        refine wl_off (t := 148) rfl (by decide) rfl ?_
                        refine wl_off (t := 148) rfl (by decide) rfl ?_
                        refine wl_off (t := 148) rfl (by decide) rfl ?_
                        refine wl_off (t := 148) rfl (by decide) rfl ?_
                        refine wl_off (t := 148) rfl (by decide) rfl ?_
                        refine wl_on (t := 145) rfl (by decide) rfl ?_
                        refine wl_val (at_pick_t rfl rfl) rfl ?_
                        refine wl_on (t := 142) rfl (by decide) rfl ?_
                        refine wl_val (at_pick_t rfl rfl) rfl ?_
                        refine wl_val (at_pick_f rfl rfl) rfl ?_
                        refine wl_nil ?_
                        exact wk_prune [(10, .pointer x6), (11, .pointer x9), (15, .int .i64 x23), (16, .int .i64 x28), (19, .int .i64 x32.1), (20, .bool x32.2), (156, .bool true)] ⟨rfl, rfl, rfl, rfl, rfl, rfl, rfl, trivial⟩ (fun f1 => hJ34 (true) _ f1 h so)
                      · refine wl_set (t := 148) (v := .bool false) (congrArg Value.bool hb) ?_; clear hb
                        refine wl_on (t := 148) rfl (by decide) rfl ?_
                        refine wl_val (at_move rfl) rfl ?_
                        refine wl_on (t := 148) rfl (by decide) rfl ?_
                        refine wl_callF (bits_Source_Used.calls _ _ _ h) enter22 rfl trivial so ?_; intro x56 w57 h so
                        refine wl_on (t := 148) rfl (by decide) rfl ?_
                        refine wl_val (at_move rfl) rfl ?_
                        refine wl_on (t := 148) rfl (by decide) rfl ?_
                        refine wl_callF (bits_Source_Used.calls _ _ _ h) enter22 rfl trivial so ?_; intro x58 w59 h so
                        refine wl_on (t := 148) rfl (by decide) rfl ?_
                        refine wl_val (at_neq rfl rfl) rfl ?_
                        refine wl_on (t := 145) rfl (by decide) rfl ?_
                        refine wl_val (at_pick_f rfl rfl) rfl ?_
                        refine wl_on (t := 142) rfl (by decide) rfl ?_
                        refine wl_val (at_pick_t rfl rfl) rfl ?_
                        refine wl_val (at_pick_f rfl rfl) rfl ?_
                        refine wl_nil ?_
                        exact wk_prune [(10, .pointer x6), (11, .pointer x9), (15, .int .i64 x23), (16, .int .i64 x28), (19, .int .i64 x32.1), (20, .bool x32.2), (156, .bool (x56 != x58))] ⟨rfl, rfl, rfl, rfl, rfl, rfl, rfl, trivial⟩ (fun f1 => hJ34 ((x56 != x58)) _ f1 h so)
                    · refine wl_set (t := 145) (v := .bool false) (congrArg Value.bool hb) ?_; clear hb
                      refine wl_off (t := 145) rfl (by decide) rfl ?_
                      refine wl_off (t := 145) rfl (by decide) rfl ?_
                      refine wl_off (t := 145) rfl (by decide) rfl ?_
                      refine wl_off' (t := 148) rfl (by decide) rfl ?_
                      refine wl_off' (t := 148) rfl (by decide) rfl ?_
                      refine wl_off' (t := 148) rfl (by decide) rfl ?_
                      refine wl_off' (t := 148) rfl (by decide) rfl ?_
                      refine wl_off' (t := 148) rfl (by decide) rfl ?_
                      refine wl_off (t := 145) rfl (by decide) rfl ?_
                      refine wl_on (t := 142) rfl (by decide) rfl ?_
                      refine wl_val (at_pick_f rfl rfl) rfl ?_
                      refine wl_val (at_pick_f rfl rfl) rfl ?_
                      refine wl_nil ?_
                      exact wk_prune [(10, .pointer x6), (11, .pointer x9), (15, .int .i64 x23), (16, .int .i64 x28), (19, .int .i64 x32.1), (20, .bool x32.2), (156, .bool false)] ⟨rfl, rfl, rfl, rfl, rfl, rfl, rfl, trivial⟩ (fun f1 => hJ34 (false) _ f1 h so)
      · intro J20 h hJ20
        refine wc_region ?_
        refine wl_val (at_move rfl) rfl ?_
        refine wl_val (at_move rfl) rfl ?_
        refine wl_val (at_neqB Try.underlying4 rfl rfl) rfl ?_
        refine wl_val (at_move rfl) rfl ?_
        refine bif_ h (fun hb h => ?_) (fun hb h => ?_)
        · refine wl_set (t := 61) (v := .bool true) (congrArg Value.bool hb) ?_; clear hb
          refine wl_off (t := 61) rfl (by decide) rfl ?_
          refine wl_off (t := 61) rfl (by decide) rfl ?_
          refine wl_off (t := 61) rfl (by decide) rfl ?_
          refine wl_off (t := 61) rfl (by decide) rfl ?_
          refine wl_off' (t := 65) rfl (by decide) rfl ?_
          refine wl_off' (t := 65) rfl (by decide) rfl ?_
          refine wl_off' (t := 65) rfl (by decide) rfl ?_
          refine wl_off (t := 61) rfl (by decide) rfl ?_
          refine wl_off (t := 61) rfl (by decide) rfl ?_
          refine wl_val (at_pick_t rfl rfl) rfl ?_
          refine wl_val (at_move rfl) rfl ?_
          refine wl_off (t := 72) rfl (by decide) rfl ?_
          refine wl_off (t := 72) rfl (by decide) rfl ?_
          refine wl_off (t := 72) rfl (by decide) rfl ?_
          refine wl_off (t := 72) rfl (by decide) rfl ?_
          refine wl_off (t := 72) rfl (by decide) rfl ?_
          refine wl_off (t := 72) rfl (by decide) rfl ?_
          refine wl_off (t := 72) rfl (by decide) rfl ?_
          refine wl_val (at_pick_t rfl rfl) rfl ?_
          refine wl_val (at_move rfl) rfl ?_
          refine wl_off (t := 81) rfl (by decide) rfl ?_
          refine wl_off (t := 81) rfl (by decide) rfl ?_
          refine wl_off (t := 81) rfl (by decide) rfl ?_
          refine wl_off' (t := 84) rfl (by decide) rfl ?_
          refine wl_off' (t := 84) rfl (by decide) rfl ?_
          refine wl_off' (t := 84) rfl (by decide) rfl ?_
          refine wl_off (t := 81) rfl (by decide) rfl ?_
          refine wl_val (at_pick_t rfl rfl) rfl ?_
          refine wl_nil ?_
          exact wk_prune [(2, .int .i64 a2), (3, .int .i64 a3), (10, .pointer x6), (11, .pointer x9), (12, .int .i64 x14), (89, .bool true)] ⟨rfl, rfl, rfl, rfl, rfl, rfl, trivial⟩ (fun f1 => hJ20 (true) _ f1 h so)
        · refine wl_set (t := 61) (v := .bool false) (congrArg Value.bool hb) ?_; clear hb
          refine wl_on (t := 61) rfl (by decide) rfl ?_
          refine wl_val (at_move rfl) rfl ?_
          refine wl_on (t := 61) rfl (by decide) rfl ?_
          refine wl_val (at_move rfl) rfl ?_
          refine wl_on (t := 61) rfl (by decide) rfl ?_
          refine wl_val (at_geq rfl rfl) rfl ?_
          refine wl_on (t := 61) rfl (by decide) rfl ?_
          refine wl_val (at_move rfl) rfl ?_
          refine bif_ h (fun hb h => ?_) (fun hb h => ?_)
          · refine wl_set (t := 65) (v := .bool true) (congrArg Value.bool hb) ?_; clear hb
            refine wl_on (t := 65) rfl (by decide) rfl ?_
            refine wl_val (at_move rfl) rfl ?_
            refine wl_on (t := 65) rfl (by decide) rfl ?_
            refine wl_val (at_move rfl) rfl ?_
            refine wl_on (t := 65) rfl (by decide) rfl ?_
            refine wl_val (at_leq rfl rfl) rfl ?_
            refine wl_on (t := 61) rfl (by decide) rfl ?_
            refine wl_val (at_pick_t rfl rfl) rfl ?_
            refine wl_on (t := 61) rfl (by decide) rfl ?_
            refine wl_val (at_neqB Try.underlying4 rfl rfl) rfl ?_
            refine wl_val (at_pick_f rfl rfl) rfl ?_
            refine wl_val (at_move rfl) rfl ?_
            refine bif_ h (fun hb h => ?_) (fun hb h => ?_)
            · refine wl_set (t := 72) (v := .bool true) (congrArg Value.bool hb) ?_; clear hb
              refine wl_off (t := 72) rfl (by decide) rfl ?_
              refine wl_off (t := 72) rfl (by decide) rfl ?_
              refine wl_off (t := 72) rfl (by decide) rfl ?_
              refine wl_off (t := 72) rfl (by decide) rfl ?_
              refine wl_off (t := 72) rfl (by decide) rfl ?_
              refine wl_off (t := 72) rfl (by decide) rfl ?_
              refine wl_off (t := 72) rfl (by decide) rfl ?_
              refine wl_val (at_pick_t rfl rfl) rfl ?_
              refine wl_val (at_move rfl) rfl ?_
              refine wl_off (t := 81) rfl (by decide) rfl ?_
              refine wl_off (t := 81) rfl (by decide) rfl ?_
              refine wl_off (t := 81) rfl (by decide) rfl ?_
              refine wl_off' (t := 84) rfl (by decide) rfl ?_
              refine wl_off' (t := 84) rfl (by decide) rfl ?_
              refine wl_off' (t := 84) rfl (by decide) rfl ?_
              refine wl_off (t := 81) rfl (by decide) rfl ?_
              refine wl_val (at_pick_t rfl rfl) rfl ?_
              refine wl_nil ?_
              exact wk_prune [(2, .int .i64 a2), (3, .int .i64 a3), (10, .pointer x6), (11, .pointer x9), (12, .int .i64 x14), (89, .bool true)] ⟨rfl, rfl, rfl, rfl, rfl, rfl, trivial⟩ (fun f1 => hJ20 (true) _ f1 h so)
            · refine wl_set (t := 72) (v := .bool false) (congrArg Value.bool hb) ?_; clear hb
              refine wl_on (t := 72) rfl (by decide) rfl ?_
              refine wl_val (at_move rfl) rfl ?_
              refine wl_on (t := 72) rfl (by decide) rfl ?_
              refine wl_callF (bits_Source_Left.calls _ _ _ h) enter20 rfl trivial so ?_; intro x60 w61 h so
              refine wl_on (t := 72) rfl (by decide) rfl ?_
              refine wl_val (at_move rfl) rfl ?_
              refine wl_on (t := 72) rfl (by decide) rfl ?_
              refine wl_callF (bits_Source_Used.calls _ _ _ h) enter22 rfl trivial so ?_; intro x62 w63 h so
              refine wl_on (t := 72) rfl (by decide) rfl ?_
              refine wl_val (at_add rfl rfl) rfl ?_
              refine wl_on (t := 72) rfl (by decide) rfl ?_
              refine wl_val (at_move rfl) rfl ?_
              refine wl_on (t := 72) rfl (by decide) rfl ?_
              refine wl_val (at_neq rfl rfl) rfl ?_
              refine wl_val (at_pick_f rfl rfl) rfl ?_
              refine wl_val (at_move rfl) rfl ?_
              refine bif_ h (fun hb h => ?_) (fun hb h => ?_)
              · refine wl_set (t := 81) (v := .bool true) (congrArg Value.bool hb) ?_; clear hb
                refine wl_off (t := 81) rfl (by decide) rfl ?_
                refine wl_off (t := 81) rfl (by decide) rfl ?_
                refine wl_off (t := 81) rfl (by decide) rfl ?_
                refine wl_off' (t := 84) rfl (by decide) rfl ?_
                refine wl_off' (t := 84) rfl (by decide) rfl ?_
                refine wl_off' (t := 84) rfl (by decide) rfl ?_
                refine wl_off (t := 81) rfl (by decide) rfl ?_
                refine wl_val (at_pick_t rfl rfl) rfl ?_
                refine wl_nil ?_
                exact wk_prune [(2, .int .i64 a2), (3, .int .i64 a3), (10, .pointer x6), (11, .pointer x9), (12, .int .i64 x14), (89, .bool true)] ⟨rfl, rfl, rfl, rfl, rfl, rfl, trivial⟩ (fun f1 => hJ20 (true) _ f1 h so)
              · refine wl_set (t := 81) (v := .bool false) (congrArg Value.bool hb) ?_; clear hb
                refine wl_on (t := 81) rfl (by decide) rfl ?_
                refine wl_val (at_move rfl) rfl ?_
                refine wl_on (t := 81) rfl (by decide) rfl ?_
                refine wl_val (at_not rfl) rfl ?_
                refine wl_on (t := 81) rfl (by decide) rfl ?_
                refine wl_val (at_move rfl) rfl ?_
                refine bif_ h (fun hb h => ?_) (fun hb h => ?_)
                · refine wl_set (t := 84) (v := .bool true) (congrArg Value.bool hb) ?_; clear hb
                  refine wl_on (t := 84) rfl (by decide) rfl ?_
                  refine wl_val (at_move rfl) rfl ?_
                  refine wl_on (t := 84) rfl (by decide) rfl ?_
                  refine wl_callF (bits_Source_Used.calls _ _ _ h) enter22 rfl trivial so ?_; intro x64 w65 h so
                  refine wl_on (t := 84) rfl (by decide) rfl ?_
                  refine wl_val (at_neq rfl rfl) rfl ?_
                  refine wl_on (t := 81) rfl (by decide) rfl ?_
                  refine wl_val (at_pick_t rfl rfl) rfl ?_
                  refine wl_val (at_pick_f rfl rfl) rfl ?_
                  refine wl_nil ?_
                  exact wk_prune [(2, .int .i64 a2), (3, .int .i64 a3), (10, .pointer x6), (11, .pointer x9), (12, .int .i64 x14), (89, .bool (x64 != 0))] ⟨rfl, rfl, rfl, rfl, rfl, rfl, trivial⟩ (fun f1 => hJ20 ((x64 != 0)) _ f1 h so)
                · refine wl_set (t := 84) (v := .bool false) (congrArg Value.bool hb) ?_; clear hb
                  refine wl_off (t := 84) rfl (by decide) rfl ?_
                  refine wl_off (t := 84) rfl (by decide) rfl ?_
                  refine wl_off (t := 84) rfl (by decide) rfl ?_
                  refine wl_on (t := 81) rfl (by decide) rfl ?_
                  refine wl_val (at_pick_f rfl rfl) rfl ?_
                  refine wl_val (at_pick_f rfl rfl) rfl ?_
                  refine wl_nil ?_
                  exact wk_prune [(2, .int .i64 a2), (3, .int .i64 a3), (10, .pointer x6), (11, .pointer x9), (12, .int .i64 x14), (89, .bool false)] ⟨rfl, rfl, rfl, rfl, rfl, rfl, trivial⟩ (fun f1 => hJ20 (false) _ f1 h so)
          · refine wl_set (t := 65) (v := .bool false) (congrArg Value.bool hb) ?_; clear hb
            refine wl_off (t := 65) rfl (by decide) rfl ?_
            refine wl_off (t := 65) rfl (by decide) rfl ?_
            refine wl_off (t := 65) rfl (by decide) rfl ?_
            refine wl_on (t := 61) rfl (by decide) rfl ?_
            refine wl_val (at_pick_f rfl rfl) rfl ?_
            refine wl_on (t := 61) rfl (by decide) rfl ?_
            refine wl_val (at_neqB Try.underlying4 rfl rfl) rfl ?_
            refine wl_val (at_pick_f rfl rfl) rfl ?_
            refine wl_val (at_move rfl) rfl ?_
            refine bif_ h (fun hb h => ?_) (fun hb h => ?_)
            · refine wl_set (t := 72) (v := .bool true) (congrArg Value.bool hb) ?_; clear hb
              refine wl_off (t := 72) rfl (by decide) rfl ?_
              refine wl_off (t := 72) rfl (by decide) rfl ?_
              refine wl_off (t := 72) rfl (by decide) rfl ?_
              refine wl_off (t := 72) rfl (by decide) rfl ?_
              refine wl_off (t := 72) rfl (by decide) rfl ?_
              refine wl_off (t := 72) rfl (by decide) rfl ?_
              refine wl_off (t := 72) rfl (by decide) rfl ?_
              refine wl_val (at_pick_t rfl rfl) rfl ?_
              refine wl_val (at_move rfl) rfl ?_
              refine wl_off (t := 81) rfl (by decide) rfl ?_
              refine wl_off (t := 81) rfl (by decide) rfl ?_
              refine wl_off (t := 81) rfl (by decide) rfl ?_
              refine wl_off' (t := 84) rfl (by decide) rfl ?_
              refine wl_off' (t := 84) rfl (by decide) rfl ?_
              refine wl_off' (t := 84) rfl (by decide) rfl ?_
              refine wl_off (t := 81) rfl (by decide) rfl ?_
              refine wl_val (at_pick_t rfl rfl) rfl ?_
              refine wl_nil ?_
              exact wk_prune [(2, .int .i64 a2), (3, .int .i64 a3), (10, .pointer x6), (11, .pointer x9), (12, .int .i64 x14), (89, .bool true)] ⟨rfl, rfl, rfl, rfl, rfl, rfl, trivial⟩ (fun f1 => hJ20 (true) _ f1 h so)
            · refine wl_set (t := 72) (v := .bool false) (congrArg Value.bool hb) ?_; clear hb
              refine wl_on (t := 72) rfl (by decide) rfl ?_
              refine wl_val (at_move rfl) rfl ?_
              refine wl_on (t := 72) rfl (by decide) rfl ?_
              refine wl_callF (bits_Source_Left.calls _ _ _ h) enter20 rfl trivial so ?_; intro x66 w67 h so
              refine wl_on (t := 72) rfl (by decide) rfl ?_
              refine wl_val (at_move rfl) rfl ?_
              refine wl_on (t := 72) rfl (by decide) rfl ?_
              refine wl_callF (bits_Source_Used.calls _ _ _ h) enter22 rfl trivial so ?_; intro x68 w69 h so
              refine wl_on (t := 72) rfl (by decide) rfl ?_
              refine wl_val (at_add rfl rfl) rfl ?_
              refine wl_on (t := 72) rfl (by decide) rfl ?_
              refine wl_val (at_move rfl) rfl ?_
              refine wl_on (t := 72) rfl (by decide) rfl ?_
              refine wl_val (at_neq rfl rfl) rfl ?_
              refine wl_val (at_pick_f rfl rfl) rfl ?_
              refine wl_val (at_move rfl) rfl ?_
              refine bif_ h (fun hb h => ?_) (fun hb h => ?_)
              · refine wl_set (t := 81) (v := .bool true) (congrArg Value.bool hb) ?_; clear hb
                refine wl_off (t := 81) rfl (by decide) rfl ?_
                refine wl_off (t := 81) rfl (by decide) rfl ?_
                refine wl_off (t := 81) rfl (by decide) rfl ?_
                refine wl_off' (t := 84) rfl (by decide) rfl ?_
                refine wl_off' (t := 84) rfl (by decide) rfl ?_
                refine wl_off' (t := 84) rfl (by decide) rfl ?_
                refine wl_off (t := 81) rfl (by decide) rfl ?_
                refine wl_val (at_pick_t rfl rfl) rfl ?_
                refine wl_nil ?_
                exact wk_prune [(2, .int .i64 a2), (3, .int .i64 a3), (10, .pointer x6), (11, .pointer x9), (12, .int .i64 x14), (89, .bool true)] ⟨rfl, rfl, rfl, rfl, rfl, rfl, trivial⟩ (fun f1 => hJ20 (true) _ f1 h so)
              · refine wl_set (t := 81) (v := .bool false) (congrArg Value.bool hb) ?_; clear hb
                refine wl_on (t := 81) rfl (by decide) rfl ?_
                refine wl_val (at_move rfl) rfl ?_
                refine wl_on (t := 81) rfl (by decide) rfl ?_
                refine wl_val (at_not rfl) rfl ?_
                refine wl_on (t := 81) rfl (by decide) rfl ?_
                refine wl_val (at_move rfl) rfl ?_
                refine bif_ h (fun hb h => ?_) (fun hb h => ?_)
                · refine wl_set (t := 84) (v := .bool true) (congrArg Value.bool hb) ?_; clear hb
                  refine wl_on (t := 84) rfl (by decide) rfl ?_
                  refine wl_val (at_move rfl) rfl ?_
                  refine wl_on (t := 84) rfl (by decide) rfl ?_
                  refine wl_callF (bits_Source_Used.calls _ _ _ h) enter22 rfl trivial so ?_; intro x70 w71 h so
                  refine wl_on (t := 84) rfl (by decide) rfl ?_
                  refine wl_val (at_neq rfl rfl) rfl ?_
                  refine wl_on (t := 81) rfl (by decide) rfl ?_
                  refine wl_val (at_pick_t rfl rfl) rfl ?_
                  refine wl_val (at_pick_f rfl rfl) rfl ?_
                  refine wl_nil ?_
                  exact wk_prune [(2, .int .i64 a2), (3, .int .i64 a3), (10, .pointer x6), (11, .pointer x9), (12, .int .i64 x14), (89, .bool (x70 != 0))] ⟨rfl, rfl, rfl, rfl, rfl, rfl, trivial⟩ (fun f1 => hJ20 ((x70 != 0)) _ f1 h so)
                · refine wl_set (t := 84) (v := .bool false) (congrArg Value.bool hb) ?_; clear hb
                  refine wl_off (t := 84) rfl (by decide) rfl ?_
                  refine wl_off (t := 84) rfl (by decide) rfl ?_
                  refine wl_off (t := 84) rfl (by decide) rfl ?_
                  refine wl_on (t := 81) rfl (by decide) rfl ?_
                  refine wl_val (at_pick_f rfl rfl) rfl ?_
                  refine wl_val (at_pick_f rfl rfl) rfl ?_
                  refine wl_nil ?_
                  exact wk_prune [(2, .int .i64 a2), (3, .int .i64 a3), (10, .pointer x6), (11, .pointer x9), (12, .int .i64 x14), (89, .bool false)] ⟨rfl, rfl, rfl, rfl, rfl, rfl, trivial⟩ (fun f1 => hJ20 (false) _ f1 h so)
  · intro J11 h hJ11
    refine wc_region ?_
    refine wl_val (at_move rfl) rfl ?_
    refine wl_val (at_not rfl) rfl ?_
    refine wl_val (at_move rfl) rfl ?_
    refine bif_ h (fun hb h => ?_) (fun hb h => ?_)
    · refine wl_set (t := 42) (v := .bool true) (congrArg Value.bool hb) ?_; clear hb
      refine wl_off (t := 42) rfl (by decide) rfl ?_
      refine wl_off (t := 42) rfl (by decide) rfl ?_
      refine wl_val (at_pick_t rfl rfl) rfl ?_
      refine wl_val (at_move rfl) rfl ?_
      refine wl_off (t := 46) rfl (by decide) rfl ?_
      refine wl_off (t := 46) rfl (by decide) rfl ?_
      refine wl_val (at_pick_t rfl rfl) rfl ?_
      refine wl_nil ?_
      exact wk_prune [(1, .int .i64 a1), (2, .int .i64 a2), (3, .int .i64 a3), (10, .pointer x6), (11, .pointer x9), (49, .bool true)] ⟨rfl, rfl, rfl, rfl, rfl, rfl, trivial⟩ (fun f1 => hJ11 (true) _ f1 h so)
    · refine wl_set (t := 42) (v := .bool false) (congrArg Value.bool hb) ?_; clear hb
      refine wl_on (t := 42) rfl (by decide) rfl ?_
      refine wl_val (at_move rfl) rfl ?_
      refine wl_on (t := 42) rfl (by decide) rfl ?_
      refine wl_val (at_eqlP Try.underlying35 rfl rfl) rfl ?_
      refine wl_val (at_pick_f rfl rfl) rfl ?_
      refine wl_val (at_move rfl) rfl ?_
      refine bif_ h (fun hb h => ?_) (fun hb h => ?_)
      · refine wl_set (t := 46) (v := .bool true) (congrArg Value.bool hb) ?_; clear hb
        refine wl_off (t := 46) rfl (by decide) rfl ?_
        refine wl_off (t := 46) rfl (by decide) rfl ?_
        refine wl_val (at_pick_t rfl rfl) rfl ?_
        refine wl_nil ?_
        exact wk_prune [(1, .int .i64 a1), (2, .int .i64 a2), (3, .int .i64 a3), (10, .pointer x6), (11, .pointer x9), (49, .bool true)] ⟨rfl, rfl, rfl, rfl, rfl, rfl, trivial⟩ (fun f1 => hJ11 (true) _ f1 h so)
      · refine wl_set (t := 46) (v := .bool false) (congrArg Value.bool hb) ?_; clear hb
        refine wl_on (t := 46) rfl (by decide) rfl ?_
        refine wl_val (at_move rfl) rfl ?_
        refine wl_on (t := 46) rfl (by decide) rfl ?_
        refine wl_val (at_eqlP Try.underlying35 rfl rfl) rfl ?_
        refine wl_val (at_pick_f rfl rfl) rfl ?_
        refine wl_nil ?_
        exact wk_prune [(1, .int .i64 a1), (2, .int .i64 a2), (3, .int .i64 a3), (10, .pointer x6), (11, .pointer x9), (49, .bool x9.isNone)] ⟨rfl, rfl, rfl, rfl, rfl, rfl, trivial⟩ (fun f1 => hJ11 (x9.isNone) _ f1 h so)
end Go.Proofs.Ytcjmcmkohfaleaa.G
