/- Of this text what the row needs. -/
import Derived.Test.YtkplpbnifinlbaaDoorQMarkerBetweenKshelf
import Derived.Test.YtkplpbnifinlbaaDoorQMarkerBetweenKstrconv
namespace Go.Proofs.YtkplpbnifinlbaaDoor.G
open Go.RowKit
set_option linter.unusedVariables false
set_option linter.unusedSimpArgs false
def marker_numbered.enc : ByteArray → Value := fun r => .string r
def marker_numbered.s (a0 : ByteArray) (a1 : Int) (H0 : Hp) (Q : ByteArray → Hp → Prop) : Prop :=
  strconv_Itoa_34.s (IntKind.wrap .i64 a1) H0 (fun x1 H2 => a0.size + x1.size ≤ 9223372036854775807 ∧ (Q (a0 ++ x1) H2))
set_option maxRecDepth 20000 in
set_option maxHeartbeats 4000000 in
theorem marker_numbered.calls (a0 : ByteArray) (a1 : Int) (w0 : World) (Q : ByteArray → Hp → Prop) (h : marker_numbered.s a0 a1 w0.heap Q) :
    Ca Tryd.prog 27 #[.string a0, .int .u8 a1] w0 (Rt marker_numbered.enc Q w0) := by
  refine ca_start (c := _) Tryd.func27 rfl Tryd.ntmps27 rfl ?_
  have so : Sm w0 w0 := Sm.refl w0
  unfold marker_numbered.s at h
  refine wc_prune [(0, .string a0), (1, .int .u8 a1)] ⟨rfl, rfl, trivial⟩ (fun f1 => ?_)
  refine wc_seq ?_
  refine wc_region ?_
  refine wl_val (at_assign rfl) rfl ?_
  refine wl_nil ?_
  refine wk_prune [(0, .string a0), (1, .int .u8 a1)] ⟨rfl, rfl, trivial⟩ (fun f1 => ?_)
  refine wk_then ?_
  refine wc_seq ?_
  refine wc_region ?_
  refine wl_val (at_move rfl) rfl ?_
  refine wl_val (at_move rfl) rfl ?_
  refine wl_val (at_conv Tryd.underlying5 Tryd.underlying3 rfl) rfl ?_
  refine wl_callF (strconv_Itoa_34.calls _ _ _ h) enter34 rfl trivial so ?_; intro x1 w2 h so
  obtain ⟨q3, h⟩ := h
  refine wl_val (at_cat rfl rfl q3) rfl ?_
  refine wl_val (at_assign rfl) rfl ?_
  refine wl_nil ?_
  refine wk_prune [(4, .string (a0 ++ x1))] ⟨rfl, trivial⟩ (fun f1 => ?_)
  refine wk_then ?_
  refine wc_ret ?_
  exact wk_ret1 (x := (a0 ++ x1)) rfl (by decide) rfl so h
def marker_Name.enc : ByteArray → Value := fun r => .string r
def marker_Name.s (a0 : Int) (H0 : Hp) (Q : ByteArray → Hp → Prop) : Prop :=
  Join (fun (s2 : Bool) (H3 : Hp) => if s2 = true then (Q (⟨#[]⟩ : ByteArray) H3) else (if (a0 == 1) = true then (Q (⟨#[84, 69, 77]⟩ : ByteArray) H3) else (if decide (a0 < 192) = true then (0 ≤ (shrI .u8 a0 4) ∧ (shrI .u8 a0 4) ≤ (IntKind.wrap .u8 ((shrI .u8 a0 4) + 1)) ∧ (IntKind.wrap .u8 ((shrI .u8 a0 4) + 1)) ≤ (str7943071a.size : Int) ∧ ((⟨#[82, 69, 83]⟩ : ByteArray).size + (str7943071a.extract (Int.toNat (shrI .u8 a0 4)) (Int.toNat (IntKind.wrap .u8 ((shrI .u8 a0 4) + 1)))).size ≤ 9223372036854775807 ∧ (0 ≤ (Go.bits .and .u8 a0 15) ∧ (Go.bits .and .u8 a0 15) ≤ (IntKind.wrap .u8 ((Go.bits .and .u8 a0 15) + 1)) ∧ (IntKind.wrap .u8 ((Go.bits .and .u8 a0 15) + 1)) ≤ (str7943071a.size : Int) ∧ (((⟨#[82, 69, 83]⟩ : ByteArray) ++ (str7943071a.extract (Int.toNat (shrI .u8 a0 4)) (Int.toNat (IntKind.wrap .u8 ((shrI .u8 a0 4) + 1))))).size + (str7943071a.extract (Int.toNat (Go.bits .and .u8 a0 15)) (Int.toNat (IntKind.wrap .u8 ((Go.bits .and .u8 a0 15) + 1)))).size ≤ 9223372036854775807 ∧ (Q (((⟨#[82, 69, 83]⟩ : ByteArray) ++ (str7943071a.extract (Int.toNat (shrI .u8 a0 4)) (Int.toNat (IntKind.wrap .u8 ((shrI .u8 a0 4) + 1))))) ++ (str7943071a.extract (Int.toNat (Go.bits .and .u8 a0 15)) (Int.toNat (IntKind.wrap .u8 ((Go.bits .and .u8 a0 15) + 1))))) H3))))) else (if (a0 == 196) = true then (Q (⟨#[68, 72, 84]⟩ : ByteArray) H3) else (if (a0 == 200) = true then (Q (⟨#[74, 80, 71]⟩ : ByteArray) H3) else (if (a0 == 204) = true then (Q (⟨#[68, 65, 67]⟩ : ByteArray) H3) else (if decide (a0 < 208) = true then (marker_numbered.s (⟨#[83, 79, 70]⟩ : ByteArray) (IntKind.wrap .u8 (a0 - 192)) H3 (fun x13 H14 => Q x13 H14)) else (if decide (a0 < 216) = true then (marker_numbered.s (⟨#[82, 83, 84]⟩ : ByteArray) (IntKind.wrap .u8 (a0 - 208)) H3 (fun x15 H16 => Q x15 H16)) else (if decide (a0 < 224) = true then (Gn [] H3 (fun (b17 : Nat) (H19 : Hp) => Bk H19 b17 51 (c51 (⟨#[83, 79, 73]⟩ : ByteArray) (⟨#[69, 79, 73]⟩ : ByteArray) (⟨#[83, 79, 83]⟩ : ByteArray) (⟨#[68, 81, 84]⟩ : ByteArray) (⟨#[68, 78, 76]⟩ : ByteArray) (⟨#[68, 82, 73]⟩ : ByteArray) (⟨#[68, 72, 80]⟩ : ByteArray) (⟨#[69, 88, 80]⟩ : ByteArray)) → (0 ≤ (IntKind.wrap .u8 (a0 - 216)) ∧ (IntKind.wrap .u8 (a0 - 216)) < (8 : Int) ∧ (ldS H19 ((⟨b17, 0, none⟩ : Addr).add (Int.toNat (IntKind.wrap .u8 (a0 - 216)) * 1)) (fun x22 => Q x22 H19))))) else (if decide (a0 < 240) = true then (marker_numbered.s (⟨#[65, 80, 80]⟩ : ByteArray) (IntKind.wrap .u8 (a0 - 224)) H3 (fun x24 H25 => Q x24 H25)) else (if decide (a0 < 254) = true then (marker_numbered.s (⟨#[74, 80, 71]⟩ : ByteArray) (IntKind.wrap .u8 (a0 - 240)) H3 (fun x26 H27 => Q x26 H27)) else (Q (⟨#[67, 79, 77]⟩ : ByteArray) H3)))))))))))) (fun (J1 : Bool → Hp → Prop) => if (a0 == 0) = true then (J1 (true) H0) else (J1 ((a0 == 255)) H0))
set_option maxRecDepth 20000 in
set_option maxHeartbeats 4000000 in
theorem marker_Name.calls (a0 : Int) (w0 : World) (Q : ByteArray → Hp → Prop) (h : marker_Name.s a0 w0.heap Q) :
    Ca Tryd.prog 14 #[.int .u8 a0] w0 (Rt marker_Name.enc Q w0) := by
  refine ca_start (c := _) Tryd.func14 rfl Tryd.ntmps14 rfl ?_
  have so : Sm w0 w0 := Sm.refl w0
  unfold marker_Name.s at h
  refine wc_prune [(0, .int .u8 a0)] ⟨rfl, trivial⟩ (fun f1 => ?_)
  refine wc_seq ?_
  refine wc_region ?_
  refine wl_val (at_assign rfl) rfl ?_
  refine wl_nil ?_
  refine wk_prune [(0, .int .u8 a0)] ⟨rfl, trivial⟩ (fun f1 => ?_)
  refine wk_then ?_
  refine wc_seq ?_
  refine wc_block ?_
  refine wc_seq ?_
  refine wc_join (w0 := w0) (fun (s2 : Bool) => [(0, .int .u8 a0), (4, .bool s2)]) h ?_ ?_
  · rintro s2 w3 f1 h so; refine wk_then ?_
    refine wc_cond rfl h (fun h => ?_) (fun h => ?_)
    · refine wc_seq ?_
      refine wc_region ?_
      refine wl_val (at_assign rfl) rfl ?_
      refine wl_nil ?_
      refine wk_prune [(2, .string (⟨#[]⟩ : ByteArray))] ⟨rfl, trivial⟩ (fun f1 => ?_)
      refine wk_then ?_
      refine wc_ret ?_
      refine wk_blkR ?_
      refine wk_thenR ?_
      exact wk_ret1 (x := (⟨#[]⟩ : ByteArray)) rfl (by decide) rfl so h
    · refine wc_seq ?_
      refine wc_region ?_
      refine wl_val (at_move rfl) rfl ?_
      refine wl_val (at_eql rfl rfl) rfl ?_
      refine wl_val (at_assign rfl) rfl ?_
      refine wl_nil ?_
      refine wk_prune [(0, .int .u8 a0), (11, .bool (a0 == 1))] ⟨rfl, rfl, trivial⟩ (fun f1 => ?_)
      refine wk_then ?_
      refine wc_cond rfl h (fun h => ?_) (fun h => ?_)
      · refine wc_seq ?_
        refine wc_region ?_
        refine wl_val (at_assign rfl) rfl ?_
        refine wl_nil ?_
        refine wk_prune [(2, .string (⟨#[84, 69, 77]⟩ : ByteArray))] ⟨rfl, trivial⟩ (fun f1 => ?_)
        refine wk_then ?_
        refine wc_ret ?_
        refine wk_blkR ?_
        refine wk_thenR ?_
        exact wk_ret1 (x := (⟨#[84, 69, 77]⟩ : ByteArray)) rfl (by decide) rfl so h
      · refine wc_seq ?_
        refine wc_region ?_
        refine wl_val (at_move rfl) rfl ?_
        refine wl_val (at_lss rfl rfl) rfl ?_
        refine wl_val (at_assign rfl) rfl ?_
        refine wl_nil ?_
        refine wk_prune [(0, .int .u8 a0), (14, .bool (decide (a0 < 192)))] ⟨rfl, rfl, trivial⟩ (fun f1 => ?_)
        refine wk_then ?_
        refine wc_cond rfl h (fun h => ?_) (fun h => ?_)
        · refine wc_seq ?_
          refine wc_draw mixed (by kernel_rfl) so ?_
          refine wq_val (at_move rfl) rfl ?_
          refine wq_val (at_shr rfl rfl (by decide)) rfl ?_
          refine wq_val (at_move rfl) rfl ?_
          refine wq_val (at_shr rfl rfl (by decide)) rfl ?_
          refine wq_val (at_add rfl rfl) rfl ?_
          obtain ⟨q4, q5, q6, h⟩ := h
          refine wq_val (at_subS Tryd.underlying9 rfl rfl rfl q4 q5 q6) rfl ?_
          obtain ⟨q7, h⟩ := h
          refine wq_val (at_cat rfl rfl q7) rfl ?_
          refine wq_val (at_move rfl) rfl ?_
          refine wq_val (at_and rfl rfl) rfl ?_
          refine wq_val (at_move rfl) rfl ?_
          refine wq_val (at_and rfl rfl) rfl ?_
          refine wq_val (at_add rfl rfl) rfl ?_
          obtain ⟨q8, q9, q10, h⟩ := h
          refine wq_val (at_subS Tryd.underlying9 rfl rfl rfl q8 q9 q10) rfl ?_
          obtain ⟨q11, h⟩ := h
          refine wq_val (at_cat rfl rfl q11) rfl ?_
          refine wq_val (at_assign rfl) rfl ?_
          refine wq_nil ?_; intro w12 hw so; rw [← hw] at h; clear hw
          refine wk_prune [(2, .string (((⟨#[82, 69, 83]⟩ : ByteArray) ++ (str7943071a.extract (Int.toNat (shrI .u8 a0 4)) (Int.toNat (IntKind.wrap .u8 ((shrI .u8 a0 4) + 1))))) ++ (str7943071a.extract (Int.toNat (Go.bits .and .u8 a0 15)) (Int.toNat (IntKind.wrap .u8 ((Go.bits .and .u8 a0 15) + 1))))))] ⟨rfl, trivial⟩ (fun f1 => ?_)
          refine wk_then ?_
          refine wc_ret ?_
          refine wk_blkR ?_
          refine wk_thenR ?_
          exact wk_ret1 (x := (((⟨#[82, 69, 83]⟩ : ByteArray) ++ (str7943071a.extract (Int.toNat (shrI .u8 a0 4)) (Int.toNat (IntKind.wrap .u8 ((shrI .u8 a0 4) + 1))))) ++ (str7943071a.extract (Int.toNat (Go.bits .and .u8 a0 15)) (Int.toNat (IntKind.wrap .u8 ((Go.bits .and .u8 a0 15) + 1)))))) rfl (by decide) rfl so h
        · refine wc_seq ?_
          refine wc_region ?_
          refine wl_val (at_move rfl) rfl ?_
          refine wl_val (at_eql rfl rfl) rfl ?_
          refine wl_val (at_assign rfl) rfl ?_
          refine wl_nil ?_
          refine wk_prune [(0, .int .u8 a0), (31, .bool (a0 == 196))] ⟨rfl, rfl, trivial⟩ (fun f1 => ?_)
          refine wk_then ?_
          refine wc_cond rfl h (fun h => ?_) (fun h => ?_)
          · refine wc_seq ?_
            refine wc_region ?_
            refine wl_val (at_assign rfl) rfl ?_
            refine wl_nil ?_
            refine wk_prune [(2, .string (⟨#[68, 72, 84]⟩ : ByteArray))] ⟨rfl, trivial⟩ (fun f1 => ?_)
            refine wk_then ?_
            refine wc_ret ?_
            refine wk_blkR ?_
            refine wk_thenR ?_
            exact wk_ret1 (x := (⟨#[68, 72, 84]⟩ : ByteArray)) rfl (by decide) rfl so h
          · refine wc_seq ?_
            refine wc_region ?_
            refine wl_val (at_move rfl) rfl ?_
            refine wl_val (at_eql rfl rfl) rfl ?_
            refine wl_val (at_assign rfl) rfl ?_
            refine wl_nil ?_
            refine wk_prune [(0, .int .u8 a0), (34, .bool (a0 == 200))] ⟨rfl, rfl, trivial⟩ (fun f1 => ?_)
            refine wk_then ?_
            refine wc_cond rfl h (fun h => ?_) (fun h => ?_)
            · refine wc_seq ?_
              refine wc_region ?_
              refine wl_val (at_assign rfl) rfl ?_
              refine wl_nil ?_
              refine wk_prune [(2, .string (⟨#[74, 80, 71]⟩ : ByteArray))] ⟨rfl, trivial⟩ (fun f1 => ?_)
              refine wk_then ?_
              refine wc_ret ?_
              refine wk_blkR ?_
              refine wk_thenR ?_
              exact wk_ret1 (x := (⟨#[74, 80, 71]⟩ : ByteArray)) rfl (by decide) rfl so h
            · refine wc_seq ?_
              refine wc_region ?_
              refine wl_val (at_move rfl) rfl ?_
              refine wl_val (at_eql rfl rfl) rfl ?_
              refine wl_val (at_assign rfl) rfl ?_
              refine wl_nil ?_
              refine wk_prune [(0, .int .u8 a0), (37, .bool (a0 == 204))] ⟨rfl, rfl, trivial⟩ (fun f1 => ?_)
              refine wk_then ?_
              refine wc_cond rfl h (fun h => ?_) (fun h => ?_)
              · refine wc_seq ?_
                refine wc_region ?_
                refine wl_val (at_assign rfl) rfl ?_
                refine wl_nil ?_
                refine wk_prune [(2, .string (⟨#[68, 65, 67]⟩ : ByteArray))] ⟨rfl, trivial⟩ (fun f1 => ?_)
                refine wk_then ?_
                refine wc_ret ?_
                refine wk_blkR ?_
                refine wk_thenR ?_
                exact wk_ret1 (x := (⟨#[68, 65, 67]⟩ : ByteArray)) rfl (by decide) rfl so h
              · refine wc_seq ?_
                refine wc_region ?_
                refine wl_val (at_move rfl) rfl ?_
                refine wl_val (at_lss rfl rfl) rfl ?_
                refine wl_val (at_assign rfl) rfl ?_
                refine wl_nil ?_
                refine wk_prune [(0, .int .u8 a0), (40, .bool (decide (a0 < 208)))] ⟨rfl, rfl, trivial⟩ (fun f1 => ?_)
                refine wk_then ?_
                refine wc_cond rfl h (fun h => ?_) (fun h => ?_)
                · refine wc_seq ?_
                  refine wc_region ?_
                  refine wl_val (at_move rfl) rfl ?_
                  refine wl_val (at_sub rfl rfl) rfl ?_
                  refine wl_callF (marker_numbered.calls _ _ _ _ h) enter27 rfl trivial so ?_; intro x13 w14 h so
                  refine wl_val (at_assign rfl) rfl ?_
                  refine wl_nil ?_
                  refine wk_prune [(2, .string x13)] ⟨rfl, trivial⟩ (fun f1 => ?_)
                  refine wk_then ?_
                  refine wc_ret ?_
                  refine wk_blkR ?_
                  refine wk_thenR ?_
                  exact wk_ret1 (x := x13) rfl (by decide) rfl so h
                · refine wc_seq ?_
                  refine wc_region ?_
                  refine wl_val (at_move rfl) rfl ?_
                  refine wl_val (at_lss rfl rfl) rfl ?_
                  refine wl_val (at_assign rfl) rfl ?_
                  refine wl_nil ?_
                  refine wk_prune [(0, .int .u8 a0), (46, .bool (decide (a0 < 216)))] ⟨rfl, rfl, trivial⟩ (fun f1 => ?_)
                  refine wk_then ?_
                  refine wc_cond rfl h (fun h => ?_) (fun h => ?_)
                  · refine wc_seq ?_
                    refine wc_region ?_
                    refine wl_val (at_move rfl) rfl ?_
                    refine wl_val (at_sub rfl rfl) rfl ?_
                    refine wl_callF (marker_numbered.calls _ _ _ _ h) enter27 rfl trivial so ?_; intro x15 w16 h so
                    refine wl_val (at_assign rfl) rfl ?_
                    refine wl_nil ?_
                    refine wk_prune [(2, .string x15)] ⟨rfl, trivial⟩ (fun f1 => ?_)
                    refine wk_then ?_
                    refine wc_ret ?_
                    refine wk_blkR ?_
                    refine wk_thenR ?_
                    exact wk_ret1 (x := x15) rfl (by decide) rfl so h
                  · refine wc_seq ?_
                    refine wc_region ?_
                    refine wl_val (at_move rfl) rfl ?_
                    refine wl_val (at_lss rfl rfl) rfl ?_
                    refine wl_val (at_assign rfl) rfl ?_
                    refine wl_nil ?_
                    refine wk_prune [(0, .int .u8 a0), (52, .bool (decide (a0 < 224)))] ⟨rfl, rfl, trivial⟩ (fun f1 => ?_)
                    refine wk_then ?_
                    refine wc_cond rfl h (fun h => ?_) (fun h => ?_)
                    · refine wc_seq ?_
                      refine wc_region ?_
                      refine wl_val (at_build (cs := (c51 (⟨#[83, 79, 73]⟩ : ByteArray) (⟨#[69, 79, 73]⟩ : ByteArray) (⟨#[83, 79, 83]⟩ : ByteArray) (⟨#[68, 81, 84]⟩ : ByteArray) (⟨#[68, 78, 76]⟩ : ByteArray) (⟨#[68, 82, 73]⟩ : ByteArray) (⟨#[68, 72, 80]⟩ : ByteArray) (⟨#[69, 88, 80]⟩ : ByteArray))) (ps := [(0, .string (⟨#[83, 79, 73]⟩ : ByteArray)), (1, .string (⟨#[69, 79, 73]⟩ : ByteArray)), (2, .string (⟨#[83, 79, 83]⟩ : ByteArray)), (3, .string (⟨#[68, 81, 84]⟩ : ByteArray)), (4, .string (⟨#[68, 78, 76]⟩ : ByteArray)), (5, .string (⟨#[68, 82, 73]⟩ : ByteArray)), (6, .string (⟨#[68, 72, 80]⟩ : ByteArray)), (7, .string (⟨#[69, 88, 80]⟩ : ByteArray))]) rfl (fun w => by simp [Instr.build, Instr.fill, go_sem, Tryd.underlying51, z51] <;> rfl)) rfl ?_
                      refine wl_newT (T := 51) (cs := (c51 ByteArray.empty ByteArray.empty ByteArray.empty ByteArray.empty ByteArray.empty ByteArray.empty ByteArray.empty ByteArray.empty)) (ef_alloc zero51 rfl) rfl so ?_; intro b17 w18 hb_b17 t_b17 k_b17 so
                      have g_b17 := Nat.le_of_eq hb_b17.symm
                      have hc := k_b17.ch (F := [])
                      refine wl_stWT (vs := (c51 (⟨#[83, 79, 73]⟩ : ByteArray) (⟨#[69, 79, 73]⟩ : ByteArray) (⟨#[83, 79, 83]⟩ : ByteArray) (⟨#[68, 81, 84]⟩ : ByteArray) (⟨#[68, 78, 76]⟩ : ByteArray) (⟨#[68, 82, 73]⟩ : ByteArray) (⟨#[68, 72, 80]⟩ : ByteArray) (⟨#[69, 88, 80]⟩ : ByteArray))) t_b17 (by first | (rw [len51, len51]) | (rw [len51]) | rfl) rfl so (fun q => ef_storeA (p := (⟨b17, 0, none⟩ : Addr)) (cs := (c51 (⟨#[83, 79, 73]⟩ : ByteArray) (⟨#[69, 79, 73]⟩ : ByteArray) (⟨#[83, 79, 83]⟩ : ByteArray) (⟨#[68, 81, 84]⟩ : ByteArray) (⟨#[68, 78, 76]⟩ : ByteArray) (⟨#[68, 82, 73]⟩ : ByteArray) (⟨#[68, 72, 80]⟩ : ByteArray) (⟨#[69, 88, 80]⟩ : ByteArray))) (by rw [len51]; exact sz51) rfl rfl (one51 _ _ _ _ _ _ _ _) q) ?_; intro w19 t_b17 s_w19 so
                      replace hc := ch_same hc s_w19 (.inr g_b17)
                      refine wl_nil ?_
                      refine wk_prune [(0, .int .u8 a0), (3, .pointer (some (⟨b17, 0, none⟩ : Addr)))] ⟨rfl, rfl, trivial⟩ (fun f1 => ?_)
                      refine wk_then ?_
                      refine wc_seq ?_
                      refine wc_region ?_
                      refine wl_val (at_move rfl) rfl ?_
                      refine wl_val (at_sub rfl rfl) rfl ?_
                      replace h := h b17 _ hc g_b17 t_b17.lt; clear hc
                      replace h := h t_b17
                      obtain ⟨q20, q21, h⟩ := h
                      refine wl_val (at_ixAddrA Tryd.underlying51 sz9 rfl rfl q20 q21) rfl ?_
                      obtain ⟨x22, q23, h⟩ := h
                      refine wl_val (at_load Tryd.underlying9 rfl rfl q23) rfl ?_
                      refine wl_val (at_assign rfl) rfl ?_
                      refine wl_nil ?_
                      refine wk_prune [(2, .string x22)] ⟨rfl, trivial⟩ (fun f1 => ?_)
                      refine wk_then ?_
                      refine wc_ret ?_
                      refine wk_blkR ?_
                      refine wk_thenR ?_
                      exact wk_ret1 (x := x22) rfl (by decide) rfl so h
                    · refine wc_seq ?_
                      refine wc_region ?_
                      refine wl_val (at_move rfl) rfl ?_
                      refine wl_val (at_lss rfl rfl) rfl ?_
                      refine wl_val (at_assign rfl) rfl ?_
                      refine wl_nil ?_
                      refine wk_prune [(0, .int .u8 a0), (60, .bool (decide (a0 < 240)))] ⟨rfl, rfl, trivial⟩ (fun f1 => ?_)
                      refine wk_then ?_
                      refine wc_cond rfl h (fun h => ?_) (fun h => ?_)
                      · refine wc_seq ?_
                        refine wc_region ?_
                        refine wl_val (at_move rfl) rfl ?_
                        refine wl_val (at_sub rfl rfl) rfl ?_
                        refine wl_callF (marker_numbered.calls _ _ _ _ h) enter27 rfl trivial so ?_; intro x24 w25 h so
                        refine wl_val (at_assign rfl) rfl ?_
                        refine wl_nil ?_
                        refine wk_prune [(2, .string x24)] ⟨rfl, trivial⟩ (fun f1 => ?_)
                        refine wk_then ?_
                        refine wc_ret ?_
                        refine wk_blkR ?_
                        refine wk_thenR ?_
                        exact wk_ret1 (x := x24) rfl (by decide) rfl so h
                      · refine wc_seq ?_
                        refine wc_region ?_
                        refine wl_val (at_move rfl) rfl ?_
                        refine wl_val (at_lss rfl rfl) rfl ?_
                        refine wl_val (at_assign rfl) rfl ?_
                        refine wl_nil ?_
                        refine wk_prune [(0, .int .u8 a0), (66, .bool (decide (a0 < 254)))] ⟨rfl, rfl, trivial⟩ (fun f1 => ?_)
                        refine wk_then ?_
                        refine wc_cond rfl h (fun h => ?_) (fun h => ?_)
                        · refine wc_seq ?_
                          refine wc_region ?_
                          refine wl_val (at_move rfl) rfl ?_
                          refine wl_val (at_sub rfl rfl) rfl ?_
                          refine wl_callF (marker_numbered.calls _ _ _ _ h) enter27 rfl trivial so ?_; intro x26 w27 h so
                          refine wl_val (at_assign rfl) rfl ?_
                          refine wl_nil ?_
                          refine wk_prune [(2, .string x26)] ⟨rfl, trivial⟩ (fun f1 => ?_)
                          refine wk_then ?_
                          refine wc_ret ?_
                          refine wk_blkR ?_
                          refine wk_thenR ?_
                          exact wk_ret1 (x := x26) rfl (by decide) rfl so h
                        · refine wc_skip ?_
                          refine wk_blkN ?_
                          refine wk_prune [] trivial (fun f1 => ?_)
                          refine wk_then ?_
                          refine wc_seq ?_
                          refine wc_region ?_
                          refine wl_val (at_assign rfl) rfl ?_
                          refine wl_nil ?_
                          refine wk_prune [(2, .string (⟨#[67, 79, 77]⟩ : ByteArray))] ⟨rfl, trivial⟩ (fun f1 => ?_)
                          refine wk_then ?_
                          refine wc_ret ?_
                          exact wk_ret1 (x := (⟨#[67, 79, 77]⟩ : ByteArray)) rfl (by decide) rfl so h
  · intro J1 h hJ1
    refine wc_region ?_
    refine wl_val (at_move rfl) rfl ?_
    refine wl_val (at_eql rfl rfl) rfl ?_
    refine wl_val (at_move rfl) rfl ?_
    refine bif_ h (fun hb h => ?_) (fun hb h => ?_)
    · refine wl_set (t := 7) (v := .bool true) (congrArg Value.bool hb) ?_; clear hb
      refine wl_off (t := 7) rfl (by decide) rfl ?_
      refine wl_off (t := 7) rfl (by decide) rfl ?_
      refine wl_val (at_pick_t rfl rfl) rfl ?_
      refine wl_val (at_assign rfl) rfl ?_
      refine wl_nil ?_
      exact wk_prune [(0, .int .u8 a0), (4, .bool true)] ⟨rfl, rfl, trivial⟩ (fun f1 => hJ1 (true) _ f1 h so)
    · refine wl_set (t := 7) (v := .bool false) (congrArg Value.bool hb) ?_; clear hb
      refine wl_on (t := 7) rfl (by decide) rfl ?_
      refine wl_val (at_move rfl) rfl ?_
      refine wl_on (t := 7) rfl (by decide) rfl ?_
      refine wl_val (at_eql rfl rfl) rfl ?_
      refine wl_val (at_pick_f rfl rfl) rfl ?_
      refine wl_val (at_assign rfl) rfl ?_
      refine wl_nil ?_
      exact wk_prune [(0, .int .u8 a0), (4, .bool (a0 == 255))] ⟨rfl, rfl, trivial⟩ (fun f1 => hJ1 ((a0 == 255)) _ f1 h so)
def marker_Code.enc : Int × Bool → Value := fun r => .tuple #[.int .u8 r.1, .bool r.2]
def marker_Kind.enc : Int → Value := fun r => .int .i8 r
def marker_Free.enc : Bool → Value := fun r => .bool r
def marker_Free.s (a0 : ByteArray) (H0 : Hp) (Q : Bool → Hp → Prop) : Prop :=
  strings_Count.s a0 (⟨#[255]⟩ : ByteArray) H0 (fun x1 H2 => strings_Count.s a0 (⟨#[255, 0]⟩ : ByteArray) H2 (fun x3 H4 => Q (x1 == x3) H4))
set_option maxRecDepth 20000 in
set_option maxHeartbeats 4000000 in
theorem marker_Free.calls (a0 : ByteArray) (w0 : World) (Q : Bool → Hp → Prop) (h : marker_Free.s a0 w0.heap Q) :
    Ca Tryd.prog 16 #[.string a0] w0 (Rt marker_Free.enc Q w0) := by
  refine ca_start (c := _) Tryd.func16 rfl Tryd.ntmps16 rfl ?_
  have so : Sm w0 w0 := Sm.refl w0
  unfold marker_Free.s at h
  refine wc_prune [(0, .string a0)] ⟨rfl, trivial⟩ (fun f1 => ?_)
  refine wc_seq ?_
  refine wc_region ?_
  refine wl_val (at_assign rfl) rfl ?_
  refine wl_nil ?_
  refine wk_prune [(0, .string a0)] ⟨rfl, trivial⟩ (fun f1 => ?_)
  refine wk_then ?_
  refine wc_seq ?_
  refine wc_region ?_
  refine wl_val (at_move rfl) rfl ?_
  refine wl_callF (strings_Count.calls _ _ _ _ h) enter29 rfl trivial so ?_; intro x1 w2 h so
  refine wl_val (at_move rfl) rfl ?_
  refine wl_callF (strings_Count.calls _ _ _ _ h) enter29 rfl trivial so ?_; intro x3 w4 h so
  refine wl_val (at_eql rfl rfl) rfl ?_
  refine wl_val (at_assign rfl) rfl ?_
  refine wl_nil ?_
  refine wk_prune [(2, .bool (x1 == x3))] ⟨rfl, trivial⟩ (fun f1 => ?_)
  refine wk_then ?_
  refine wc_ret ?_
  exact wk_ret1 (x := (x1 == x3)) rfl (by decide) rfl so h
def marker_Stuff.enc : ByteArray → Value := fun r => .string r
def marker_Stuff.s (a0 : ByteArray) (H0 : Hp) (Q : ByteArray → Hp → Prop) : Prop :=
  strings_ReplaceAll.s a0 (⟨#[255]⟩ : ByteArray) (⟨#[255, 0]⟩ : ByteArray) H0 (fun x1 H2 => Q x1 H2)
set_option maxRecDepth 20000 in
set_option maxHeartbeats 4000000 in
theorem marker_Stuff.calls (a0 : ByteArray) (w0 : World) (Q : ByteArray → Hp → Prop) (h : marker_Stuff.s a0 w0.heap Q) :
    Ca Tryd.prog 18 #[.string a0] w0 (Rt marker_Stuff.enc Q w0) := by
  refine ca_start (c := _) Tryd.func18 rfl Tryd.ntmps18 rfl ?_
  have so : Sm w0 w0 := Sm.refl w0
  unfold marker_Stuff.s at h
  refine wc_prune [(0, .string a0)] ⟨rfl, trivial⟩ (fun f1 => ?_)
  refine wc_seq ?_
  refine wc_region ?_
  refine wl_val (at_assign rfl) rfl ?_
  refine wl_nil ?_
  refine wk_prune [(0, .string a0)] ⟨rfl, trivial⟩ (fun f1 => ?_)
  refine wk_then ?_
  refine wc_seq ?_
  refine wc_region ?_
  refine wl_val (at_move rfl) rfl ?_
  refine wl_callF (strings_ReplaceAll.calls _ _ _ _ _ h) enter30 rfl trivial so ?_; intro x1 w2 h so
  refine wl_val (at_assign rfl) rfl ?_
  refine wl_nil ?_
  refine wk_prune [(2, .string x1)] ⟨rfl, trivial⟩ (fun f1 => ?_)
  refine wk_then ?_
  refine wc_ret ?_
  exact wk_ret1 (x := x1) rfl (by decide) rfl so h
def marker_Next.enc : Int × Int × Int × Bool → Value := fun r => .tuple #[.agg (c32 r.1 r.2.1 r.2.2.1).toArray, .bool r.2.2.2]
def marker_Next.s (a0 : ByteArray) (a1 : Int) (H0 : Hp) (Q : (Int × Int × Int × Bool) → Hp → Prop) : Prop :=
  Gn [] H0 (fun (b1 : Nat) (H2 : Hp) => Bk H2 b1 32 (c32 0 0 0) → (Join (fun (s4 : Unit) (H5 : Hp) => stA H5 (⟨b1, 0, none⟩ : Addr) (c32 0 0 0) (fun H6 => ∃ x8 : Int, ∃ x9 : Int, ∃ x10 : Int, ldA H6 (⟨b1, 0, none⟩ : Addr) (c32 x8 x9 x10) ∧ (Q (x8, x9, x10, false) H6))) (fun (J3 : Unit → Hp → Prop) => ∃ k11, Fix (fun (rec16 : Int → Hp → Prop) (s13 : Int) (H14 : Hp) => if decide (s13 < (IntKind.wrap .i64 ((a0.size : Int) - 1))) = true then (0 ≤ s13 ∧ s13 ≤ (a0.size : Int) ∧ (strings_IndexByte.s (a0.extract (Int.toNat s13) a0.size) 255 H14 (fun x19 H20 => Join (fun (s22 : Bool) (H23 : Hp) => if s22 = true then (J3 () H23) else (0 ≤ (IntKind.wrap .i64 ((IntKind.wrap .i64 (s13 + x19)) + 1)) ∧ (IntKind.wrap .i64 ((IntKind.wrap .i64 (s13 + x19)) + 1)) < (a0.size : Int) ∧ (Lt ((bt a0 (IntKind.wrap .i64 ((IntKind.wrap .i64 (s13 + x19)) + 1))) : Int) (fun x26 => Join (fun (s29 : Bool) (H30 : Hp) => if s29 = true then (stA H30 (⟨b1, 0, none⟩ : Addr) (c32 (IntKind.wrap .i64 (s13 + x19)) (IntKind.wrap .i64 ((IntKind.wrap .i64 (s13 + x19)) + 2)) x26) (fun H31 => ∃ x33 : Int, ∃ x34 : Int, ∃ x35 : Int, ldA H31 (⟨b1, 0, none⟩ : Addr) (c32 x33 x34 x35) ∧ (Q (x33, x34, x35, true) H31))) else (Lt ((IntKind.wrap .i64 ((IntKind.wrap .i64 (s13 + x19)) + 1)) : Int) (fun x36 => rec16 (x36) H30))) (fun (J28 : Bool → Hp → Prop) => if (x26 != 0) = true then (J28 ((x26 != 255)) H23) else (J28 (false) H23)))))) (fun (J21 : Bool → Hp → Prop) => if decide (x19 < 0) = true then (J21 (true) H20) else (J21 ((decide ((a0.size : Int) ≤ (IntKind.wrap .i64 ((IntKind.wrap .i64 (s13 + x19)) + 1))))) H20))))) else (J3 () H14)) k11 ((if a1 < 0 then 0 else a1)) H2)))
set_option maxRecDepth 20000 in
set_option maxHeartbeats 4000000 in
theorem marker_Next.calls (a0 : ByteArray) (a1 : Int) (w0 : World) (Q : (Int × Int × Int × Bool) → Hp → Prop) (h : marker_Next.s a0 a1 w0.heap Q) :
    Ca Tryd.prog 21 #[.string a0, .int .i64 a1] w0 (Rt marker_Next.enc Q w0) := by
  refine ca_start (c := _) Tryd.func21 rfl Tryd.ntmps21 rfl ?_
  have so : Sm w0 w0 := Sm.refl w0
  unfold marker_Next.s at h
  refine wc_prune [(0, .string a0), (1, .int .i64 a1)] ⟨rfl, rfl, trivial⟩ (fun f1 => ?_)
  refine wc_seq ?_
  refine wc_region ?_
  refine wl_newT (T := 32) (cs := (c32 0 0 0)) (ef_alloc zero32 rfl) rfl so ?_; intro b1 w2 hb_b1 t_b1 k_b1 so
  have g_b1 := Nat.le_of_eq hb_b1.symm
  have hc := k_b1.ch (F := [])
  refine wl_val (at_assign rfl) rfl ?_
  refine wl_nil ?_
  refine wk_prune [(0, .string a0), (1, .int .i64 a1), (4, .pointer (some (⟨b1, 0, none⟩ : Addr)))] ⟨rfl, rfl, rfl, trivial⟩ (fun f1 => ?_)
  refine wk_then ?_
  replace h := h b1 _ hc g_b1 t_b1.lt; clear hc
  replace h := h t_b1
  refine wc_seq ?_
  refine wc_join (w0 := w0) (fun (s4 : Unit) => [(4, .pointer (some (⟨b1, 0, none⟩ : Addr)))]) h ?_ ?_
  · rintro s4 w5 f1 h so; refine wk_then ?_
    refine wc_seq ?_
    refine wc_region ?_
    refine wl_val (at_build (cs := (c32 0 0 0)) (ps := []) rfl (fun w => by simp [Instr.build, Instr.fill, go_sem, Tryd.underlying32, z32] <;> rfl)) rfl ?_
    refine wl_stA h rfl so (fun q => ef_storeA (by rw [len32]; exact sz32) rfl rfl (one32 _ _ _) q) ?_; intro w6 h so
    refine wl_val (at_assign rfl) rfl ?_
    refine wl_nil ?_
    refine wk_prune [(4, .pointer (some (⟨b1, 0, none⟩ : Addr))), (5, .bool false)] ⟨rfl, rfl, trivial⟩ (fun f1 => ?_)
    refine wk_then ?_
    refine wc_ret ?_
    obtain ⟨x8, x9, x10, q7, h⟩ := h
    exact wk_retR2 (x := (x8, x9, x10, false)) rfl ⟨by decide, _, rfl, loadVar_agg (cs := (c32 x8 x9 x10)) Tryd.underlying32 rfl (by rw [len32]; exact sz32) q7⟩ ⟨by decide, rfl⟩ rfl so h
  · intro J3 h hJ3
    refine wc_seq ?_
    refine wc_region ?_
    refine wl_val (at_move rfl) rfl ?_
    refine wl_val (at_max rfl rfl) rfl ?_
    refine wl_val (at_assign rfl) rfl ?_
    refine wl_nil ?_
    refine wk_prune [(0, .string a0), (1, .int .i64 (if a1 < 0 then 0 else a1)), (4, .pointer (some (⟨b1, 0, none⟩ : Addr)))] ⟨rfl, rfl, rfl, trivial⟩ (fun f1 => ?_)
    refine wk_then ?_
    refine wc_block ?_
    obtain ⟨k11, h⟩ := h
    refine wc_loop (fun k a w => ∃ (s13 : Int) (f1 : Nat → Value), a = ac 51 (en f1 [(0, .string a0), (1, .int .i64 s13), (4, .pointer (some (⟨b1, 0, none⟩ : Addr)))]) [] ∧ Sm w0 w ∧ Fix _ k s13 w.heap) k11 ⟨((if a1 < 0 then 0 else a1)), _, ac_again ⟨rfl, rfl, rfl, trivial⟩, so, h⟩ ?_
    rintro k12 a15 w14 ⟨s13, f1, rfl, so, h⟩
    rcases k12 with _ | k12
    · exact h.elim
    replace h := Fix.un h; refine wc_in ?_
    refine wc_seq ?_
    refine wc_seq ?_
    refine wc_region ?_
    refine wl_val (at_move rfl) rfl ?_
    refine wl_val (at_move rfl) rfl ?_
    refine wl_val (at_lenS Tryd.underlying9 rfl) rfl ?_
    refine wl_val (at_sub rfl rfl) rfl ?_
    refine wl_val (at_lss rfl rfl) rfl ?_
    refine wl_nil ?_
    refine wk_prune [(0, .string a0), (1, .int .i64 s13), (4, .pointer (some (⟨b1, 0, none⟩ : Addr))), (14, .bool (decide (s13 < (IntKind.wrap .i64 ((a0.size : Int) - 1)))))] ⟨rfl, rfl, rfl, rfl, trivial⟩ (fun f1 => ?_)
    refine wk_then ?_
    refine wc_cond rfl h (fun h => ?_) (fun h => ?_)
    · refine wc_skip ?_
      refine wk_prune [(0, .string a0), (1, .int .i64 s13), (4, .pointer (some (⟨b1, 0, none⟩ : Addr)))] ⟨rfl, rfl, rfl, trivial⟩ (fun f1 => ?_)
      refine wk_then ?_
      refine wc_seq ?_
      refine wc_block ?_
      refine wc_seq ?_
      refine wc_region ?_
      refine wl_val (at_move rfl) rfl ?_
      refine wl_val (at_move rfl) rfl ?_
      obtain ⟨q17, q18, h⟩ := h
      refine wl_val (at_subSl Tryd.underlying9 rfl rfl q17 q18) rfl ?_
      refine wl_callF (strings_IndexByte.calls _ _ _ _ h) enter31 rfl trivial so ?_; intro x19 w20 h so
      refine wl_val (at_assign rfl) rfl ?_
      refine wl_nil ?_
      refine wk_prune [(0, .string a0), (1, .int .i64 s13), (4, .pointer (some (⟨b1, 0, none⟩ : Addr))), (6, .int .i64 x19)] ⟨rfl, rfl, rfl, rfl, trivial⟩ (fun f1 => ?_)
      refine wk_then ?_
      refine wc_seq ?_
      refine wc_seq ?_
      refine wc_join (w0 := w0) (fun (s22 : Bool) => [(0, .string a0), (1, .int .i64 s13), (4, .pointer (some (⟨b1, 0, none⟩ : Addr))), (6, .int .i64 x19), (31, .bool s22)]) h ?_ ?_
      · rintro s22 w23 f1 h so; refine wk_then ?_
        refine wc_cond rfl h (fun h => ?_) (fun h => ?_)
        · refine wc_exit ?_
          refine wk_thenE ?_
          refine wk_blkO (by decide) ?_
          refine wk_thenE ?_
          refine wk_thenE ?_
          refine wk_blkE ?_
          exact wk_prune [(4, .pointer (some (⟨b1, 0, none⟩ : Addr)))] ⟨rfl, trivial⟩ (fun f1 => hJ3 () _ f1 h so)
        · refine wc_skip ?_
          refine wk_prune [(0, .string a0), (1, .int .i64 s13), (4, .pointer (some (⟨b1, 0, none⟩ : Addr))), (6, .int .i64 x19)] ⟨rfl, rfl, rfl, rfl, trivial⟩ (fun f1 => ?_)
          refine wk_then ?_
          refine wc_seq ?_
          refine wc_region ?_
          refine wl_val (at_move rfl) rfl ?_
          refine wl_val (at_move rfl) rfl ?_
          refine wl_val (at_add rfl rfl) rfl ?_
          refine wl_val (at_assign rfl) rfl ?_
          refine wl_nil ?_
          refine wk_prune [(0, .string a0), (1, .int .i64 (IntKind.wrap .i64 (s13 + x19))), (4, .pointer (some (⟨b1, 0, none⟩ : Addr)))] ⟨rfl, rfl, rfl, trivial⟩ (fun f1 => ?_)
          refine wk_then ?_
          refine wc_seq ?_
          refine wc_region ?_
          refine wl_val (at_move rfl) rfl ?_
          refine wl_val (at_move rfl) rfl ?_
          refine wl_val (at_add rfl rfl) rfl ?_
          obtain ⟨q24, q25, h⟩ := h
          refine wl_val (at_ixS Tryd.underlying9 rfl rfl q24 q25) rfl ?_
          refine wl_val (at_assign rfl) rfl ?_
          obtain ⟨x26, e27⟩ : ∃ x : Int, x = (bt a0 (IntKind.wrap .i64 ((IntKind.wrap .i64 (s13 + x19)) + 1))) := ⟨_, rfl⟩; replace h := h x26 e27
          refine wl_set (t := 7) (v := .int .u8 x26) (congrArg (Value.int .u8) e27.symm) ?_
          refine wl_nil ?_
          refine wk_prune [(0, .string a0), (1, .int .i64 (IntKind.wrap .i64 (s13 + x19))), (4, .pointer (some (⟨b1, 0, none⟩ : Addr))), (7, .int .u8 x26)] ⟨rfl, rfl, rfl, rfl, trivial⟩ (fun f1 => ?_)
          refine wk_then ?_
          refine wc_seq ?_
          refine wc_join (w0 := w0) (fun (s29 : Bool) => [(0, .string a0), (1, .int .i64 (IntKind.wrap .i64 (s13 + x19))), (4, .pointer (some (⟨b1, 0, none⟩ : Addr))), (7, .int .u8 x26), (44, .bool s29)]) h ?_ ?_
          · rintro s29 w30 f1 h so; refine wk_then ?_
            refine wc_cond rfl h (fun h => ?_) (fun h => ?_)
            · refine wc_seq ?_
              refine wc_region ?_
              refine wl_val (at_move rfl) rfl ?_
              refine wl_val (at_move rfl) rfl ?_
              refine wl_val (at_add rfl rfl) rfl ?_
              refine wl_val (at_move rfl) rfl ?_
              refine wl_val (at_build (cs := (c32 (IntKind.wrap .i64 (s13 + x19)) (IntKind.wrap .i64 ((IntKind.wrap .i64 (s13 + x19)) + 2)) x26)) (ps := [(0, .int .i64 (IntKind.wrap .i64 (s13 + x19))), (1, .int .i64 (IntKind.wrap .i64 ((IntKind.wrap .i64 (s13 + x19)) + 2))), (2, .int .u8 x26)]) rfl (fun w => by simp [Instr.build, Instr.fill, go_sem, Tryd.underlying32, z32] <;> rfl)) rfl ?_
              refine wl_stA h rfl so (fun q => ef_storeA (by rw [len32]; exact sz32) rfl rfl (one32 _ _ _) q) ?_; intro w31 h so
              refine wl_val (at_assign rfl) rfl ?_
              refine wl_nil ?_
              refine wk_prune [(4, .pointer (some (⟨b1, 0, none⟩ : Addr))), (5, .bool true)] ⟨rfl, rfl, trivial⟩ (fun f1 => ?_)
              refine wk_then ?_
              refine wc_ret ?_
              refine wk_blkR ?_
              refine wk_thenR ?_
              refine wk_thenR ?_
              refine wk_blkR ?_
              refine wk_thenR ?_
              obtain ⟨x33, x34, x35, q32, h⟩ := h
              exact wk_retR2 (x := (x33, x34, x35, true)) rfl ⟨by decide, _, rfl, loadVar_agg (cs := (c32 x33 x34 x35)) Tryd.underlying32 rfl (by rw [len32]; exact sz32) q32⟩ ⟨by decide, rfl⟩ rfl so h
            · refine wc_skip ?_
              refine wk_blkN ?_
              refine wk_prune [(0, .string a0), (1, .int .i64 (IntKind.wrap .i64 (s13 + x19))), (4, .pointer (some (⟨b1, 0, none⟩ : Addr)))] ⟨rfl, rfl, rfl, trivial⟩ (fun f1 => ?_)
              refine wk_then ?_
              refine wc_region ?_
              refine wl_val (at_move rfl) rfl ?_
              refine wl_val (at_add rfl rfl) rfl ?_
              refine wl_val (at_assign rfl) rfl ?_
              obtain ⟨x36, e37⟩ : ∃ x : Int, x = (IntKind.wrap .i64 ((IntKind.wrap .i64 (s13 + x19)) + 1)) := ⟨_, rfl⟩; replace h := h x36 e37
              refine wl_set (t := 1) (v := .int .i64 x36) (congrArg (Value.int .i64) e37.symm) ?_
              refine wl_nil ?_
              exact wk_again ⟨(x36), _, ac_again ⟨rfl, rfl, rfl, trivial⟩, so, h⟩
          · intro J28 h hJ28
            refine wc_region ?_
            refine wl_val (at_move rfl) rfl ?_
            refine wl_val (at_neq rfl rfl) rfl ?_
            refine wl_val (at_move rfl) rfl ?_
            refine bif_ h (fun hb h => ?_) (fun hb h => ?_)
            · refine wl_set (t := 41) (v := .bool true) (congrArg Value.bool hb) ?_; clear hb
              refine wl_on (t := 41) rfl (by decide) rfl ?_
              refine wl_val (at_move rfl) rfl ?_
              refine wl_on (t := 41) rfl (by decide) rfl ?_
              refine wl_val (at_neq rfl rfl) rfl ?_
              refine wl_val (at_pick_t rfl rfl) rfl ?_
              refine wl_nil ?_
              exact wk_prune [(0, .string a0), (1, .int .i64 (IntKind.wrap .i64 (s13 + x19))), (4, .pointer (some (⟨b1, 0, none⟩ : Addr))), (7, .int .u8 x26), (44, .bool (x26 != 255))] ⟨rfl, rfl, rfl, rfl, rfl, trivial⟩ (fun f1 => hJ28 ((x26 != 255)) _ f1 h so)
            · refine wl_set (t := 41) (v := .bool false) (congrArg Value.bool hb) ?_; clear hb
              refine wl_off (t := 41) rfl (by decide) rfl ?_
              refine wl_off (t := 41) rfl (by decide) rfl ?_
              refine wl_val (at_pick_f rfl rfl) rfl ?_
              refine wl_nil ?_
              exact wk_prune [(0, .string a0), (1, .int .i64 (IntKind.wrap .i64 (s13 + x19))), (4, .pointer (some (⟨b1, 0, none⟩ : Addr))), (7, .int .u8 x26), (44, .bool false)] ⟨rfl, rfl, rfl, rfl, rfl, trivial⟩ (fun f1 => hJ28 (false) _ f1 h so)
      · intro J21 h hJ21
        refine wc_region ?_
        refine wl_val (at_move rfl) rfl ?_
        refine wl_val (at_lss rfl rfl) rfl ?_
        refine wl_val (at_move rfl) rfl ?_
        refine bif_ h (fun hb h => ?_) (fun hb h => ?_)
        · refine wl_set (t := 23) (v := .bool true) (congrArg Value.bool hb) ?_; clear hb
          refine wl_off (t := 23) rfl (by decide) rfl ?_
          refine wl_off (t := 23) rfl (by decide) rfl ?_
          refine wl_off (t := 23) rfl (by decide) rfl ?_
          refine wl_off (t := 23) rfl (by decide) rfl ?_
          refine wl_off (t := 23) rfl (by decide) rfl ?_
          refine wl_off (t := 23) rfl (by decide) rfl ?_
          refine wl_off (t := 23) rfl (by decide) rfl ?_
          refine wl_val (at_pick_t rfl rfl) rfl ?_
          refine wl_nil ?_
          exact wk_prune [(0, .string a0), (1, .int .i64 s13), (4, .pointer (some (⟨b1, 0, none⟩ : Addr))), (6, .int .i64 x19), (31, .bool true)] ⟨rfl, rfl, rfl, rfl, rfl, trivial⟩ (fun f1 => hJ21 (true) _ f1 h so)
        · refine wl_set (t := 23) (v := .bool false) (congrArg Value.bool hb) ?_; clear hb
          refine wl_on (t := 23) rfl (by decide) rfl ?_
          refine wl_val (at_move rfl) rfl ?_
          refine wl_on (t := 23) rfl (by decide) rfl ?_
          refine wl_val (at_move rfl) rfl ?_
          refine wl_on (t := 23) rfl (by decide) rfl ?_
          refine wl_val (at_add rfl rfl) rfl ?_
          refine wl_on (t := 23) rfl (by decide) rfl ?_
          refine wl_val (at_add rfl rfl) rfl ?_
          refine wl_on (t := 23) rfl (by decide) rfl ?_
          refine wl_val (at_move rfl) rfl ?_
          refine wl_on (t := 23) rfl (by decide) rfl ?_
          refine wl_val (at_lenS Tryd.underlying9 rfl) rfl ?_
          refine wl_on (t := 23) rfl (by decide) rfl ?_
          refine wl_val (at_geq rfl rfl) rfl ?_
          refine wl_val (at_pick_f rfl rfl) rfl ?_
          refine wl_nil ?_
          exact wk_prune [(0, .string a0), (1, .int .i64 s13), (4, .pointer (some (⟨b1, 0, none⟩ : Addr))), (6, .int .i64 x19), (31, .bool (decide ((a0.size : Int) ≤ (IntKind.wrap .i64 ((IntKind.wrap .i64 (s13 + x19)) + 1)))))] ⟨rfl, rfl, rfl, rfl, rfl, trivial⟩ (fun f1 => hJ21 ((decide ((a0.size : Int) ≤ (IntKind.wrap .i64 ((IntKind.wrap .i64 (s13 + x19)) + 1))))) _ f1 h so)
    · refine wc_exit ?_
      refine wk_thenE ?_
      refine wk_thenE ?_
      refine wk_blkE ?_
      exact wk_prune [(4, .pointer (some (⟨b1, 0, none⟩ : Addr)))] ⟨rfl, trivial⟩ (fun f1 => hJ3 () _ f1 h so)
def marker_All.enc : Addr → Value := fun r => .func (.func 32) #[] #[.pointer (some r)]
def marker_All.s (a0 : ByteArray) (H0 : Hp) (Q : Addr → Hp → Prop) : Prop :=
  Gn [] H0 (fun (b1 : Nat) (H2 : Hp) => Bk H2 b1 9 [.string a0] → (Q (⟨b1, 0, none⟩ : Addr) H2))
set_option maxRecDepth 20000 in
set_option maxHeartbeats 4000000 in
theorem marker_All.calls (a0 : ByteArray) (w0 : World) (Q : Addr → Hp → Prop) (h : marker_All.s a0 w0.heap Q) :
    Ca Tryd.prog 25 #[.string a0] w0 (Rt marker_All.enc Q w0) := by
  refine ca_start (c := _) Tryd.func25 rfl Tryd.ntmps25 rfl ?_
  have so : Sm w0 w0 := Sm.refl w0
  unfold marker_All.s at h
  refine wc_prune [(0, .string a0)] ⟨rfl, trivial⟩ (fun f1 => ?_)
  refine wc_seq ?_
  refine wc_region ?_
  refine wl_newT (T := 9) (cs := [.string a0]) (ef_box rfl rfl) rfl so ?_; intro b1 w2 hb_b1 t_b1 k_b1 so
  have g_b1 := Nat.le_of_eq hb_b1.symm
  have hc := k_b1.ch (F := [])
  refine wl_val (at_assign rfl) rfl ?_
  refine wl_nil ?_
  refine wk_prune [(1, .pointer (some (⟨b1, 0, none⟩ : Addr)))] ⟨rfl, trivial⟩ (fun f1 => ?_)
  refine wk_then ?_
  refine wc_seq ?_
  refine wc_region ?_
  replace h := h b1 _ hc g_b1 t_b1.lt; clear hc
  replace h := h t_b1
  refine wl_val (at_makeFunc (v1 := []) (v2 := [.pointer (some (⟨b1, 0, none⟩ : Addr))]) rfl rfl) rfl ?_
  refine wl_val (at_assign rfl) rfl ?_
  refine wl_nil ?_
  refine wk_prune [(2, .func (.func 32) #[] #[.pointer (some (⟨b1, 0, none⟩ : Addr))])] ⟨rfl, trivial⟩ (fun f1 => ?_)
  refine wk_then ?_
  refine wc_ret ?_
  exact wk_ret1 (x := (⟨b1, 0, none⟩ : Addr)) rfl (by decide) rfl so h
def marker_All_1.yenc : Int × Int × Int → Array Value := fun x => #[.agg (c32 x.1 x.2.1 x.2.2).toArray]
def marker_All_1.enc : Unit → Value := fun _ => .tuple #[]
def marker_All_1.s (Y0 : (Int × Int × Int) → Hp → (Bool → Hp → Prop) → Prop) (a1 : Addr) (H0 : Hp) (Q : Unit → Hp → Prop) : Prop :=
  ∃ k1, Fix (fun (rec6 : Int → Hp → Prop) (s3 : Int) (H4 : Hp) => ldS H4 a1 (fun x7 => marker_Next.s x7 s3 H4 (fun x9 H10 => Gn [] H10 (fun (b11 : Nat) (H13 : Hp) => Join (fun (s15 : Bool) (H16 : Hp) => if s15 = true then (Q () H16) else (rec6 (x9.2.1) H16)) (fun (J14 : Bool → Hp → Prop) => if (!x9.2.2.2) = true then (J14 (true) H13) else (Y0 (x9.1, x9.2.1, x9.2.2.1) H13 (fun b17 H18 => Pv [b11] H13 H18 ∧ (J14 ((!b17)) H18)))))))) k1 (0) H0
set_option maxRecDepth 20000 in
set_option maxHeartbeats 4000000 in
theorem marker_All_1.calls (yv0 : Value) (Y0 : (Int × Int × Int) → Hp → (Bool → Hp → Prop) → Prop) (hY0 : YOk Tryd.prog marker_All_1.yenc yv0 Y0) (a1 : Addr) (w0 : World) (Q : Unit → Hp → Prop) (h : marker_All_1.s Y0 a1 w0.heap Q) :
    Ca Tryd.prog 32 #[yv0, .pointer (some a1)] w0 (Rt marker_All_1.enc Q w0) := by
  refine ca_start (c := _) Tryd.func32 rfl Tryd.ntmps32 rfl ?_
  have so : Sm w0 w0 := Sm.refl w0
  unfold marker_All_1.s at h
  refine wc_prune [(0, yv0), (1, .pointer (some a1))] ⟨rfl, rfl, trivial⟩ (fun f1 => ?_)
  refine wc_seq ?_
  refine wc_region ?_
  refine wl_val (at_assign rfl) rfl ?_
  refine wl_nil ?_
  refine wk_prune [(0, yv0), (1, .pointer (some a1)), (3, .int .i64 0)] ⟨rfl, rfl, rfl, trivial⟩ (fun f1 => ?_)
  refine wk_then ?_
  refine wc_block ?_
  obtain ⟨k1, h⟩ := h
  refine wc_loop (fun k a w => ∃ (s3 : Int) (f1 : Nat → Value), a = ac 22 (en f1 [(0, yv0), (1, .pointer (some a1)), (3, .int .i64 s3)]) [] ∧ Sm w0 w ∧ Fix _ k s3 w.heap) k1 ⟨(0), _, ac_again ⟨rfl, rfl, rfl, trivial⟩, so, h⟩ ?_
  rintro k2 a5 w4 ⟨s3, f1, rfl, so, h⟩
  rcases k2 with _ | k2
  · exact h.elim
  replace h := Fix.un h; refine wc_in ?_
  refine wc_block ?_
  refine wc_seq ?_
  refine wc_region ?_
  obtain ⟨x7, q8, h⟩ := h
  refine wl_val (at_load Tryd.underlying9 rfl rfl q8) rfl ?_
  refine wl_val (at_move rfl) rfl ?_
  refine wl_callF (marker_Next.calls _ _ _ _ h) enter21 rfl trivial so ?_; intro x9 w10 h so
  refine wl_val (at_move rfl) rfl ?_
  refine wl_val (at_extract rfl rfl) rfl ?_
  refine wl_val (at_extract rfl rfl) rfl ?_
  refine wl_newT (T := 32) (cs := (c32 0 0 0)) (ef_alloc zero32 rfl) rfl so ?_; intro b11 w12 hb_b11 t_b11 k_b11 so
  have g_b11 := Nat.le_of_eq hb_b11.symm
  have hc := k_b11.ch (F := [])
  refine wl_stWT (vs := (c32 x9.1 x9.2.1 x9.2.2.1)) t_b11 (by first | (rw [len32, len32]) | (rw [len32]) | rfl) rfl so (fun q => ef_storeA (p := (⟨b11, 0, none⟩ : Addr)) (cs := (c32 x9.1 x9.2.1 x9.2.2.1)) (by rw [len32]; exact sz32) rfl rfl (one32 _ _ _) q) ?_; intro w13 t_b11 s_w13 so
  replace hc := ch_same hc s_w13 (.inr g_b11)
  refine wl_val (at_assign rfl) rfl ?_
  refine wl_nil ?_
  refine wk_prune [(0, yv0), (1, .pointer (some a1)), (4, .pointer (some (⟨b11, 0, none⟩ : Addr))), (5, .bool x9.2.2.2)] ⟨rfl, rfl, rfl, rfl, trivial⟩ (fun f1 => ?_)
  refine wk_then ?_
  refine wc_seq ?_
  replace h := h b11 _ hc g_b11 t_b11.lt; clear hc
  refine wc_seq ?_
  refine wc_joinG (w0 := w0) (fun (H : Hp) => Bk H b11 32 (c32 x9.1 x9.2.1 x9.2.2.1) ∧ True) (fun (s15 : Bool) => [(0, yv0), (1, .pointer (some a1)), (4, .pointer (some (⟨b11, 0, none⟩ : Addr))), (19, .bool s15)]) (fun (s15 : Bool) => []) h ?_ ?_
  · rintro s15 w16 f1 h ⟨t_b11, _⟩ so; refine wk_then ?_
    refine wc_cond rfl h (fun h => ?_) (fun h => ?_)
    · refine wc_ret ?_
      refine wk_thenR ?_
      refine wk_blkR ?_
      refine wk_thenR ?_
      refine wk_blkR ?_
      exact wk_ret0 (x := ()) rfl rfl so h
    · refine wc_skip ?_
      refine wk_prune [(0, yv0), (1, .pointer (some a1)), (4, .pointer (some (⟨b11, 0, none⟩ : Addr)))] ⟨rfl, rfl, rfl, trivial⟩ (fun f1 => ?_)
      refine wk_then ?_
      refine wc_region ?_
      refine wl_val (at_fieldAddr Tryd.underlying32 rfl rfl sz3 (by decide) rfl) rfl ?_
      refine wl_val (at_load (v := .int .i64 x9.2.1) Tryd.underlying3 rfl rfl ((t_b11.cell 1).trans (by first | rfl | simp [List.getElem?_append, ints_len, bools_len]))) rfl ?_
      refine wl_val (at_assign rfl) rfl ?_
      refine wl_nil ?_
      refine wk_blkN ?_
      exact wk_again ⟨(x9.2.1), _, ac_again ⟨rfl, rfl, rfl, trivial⟩, so, h⟩
  · intro J14 h hJ14
    refine wc_region ?_
    refine wl_val (at_move rfl) rfl ?_
    refine wl_val (at_not rfl) rfl ?_
    refine wl_val (at_move rfl) rfl ?_
    refine bif_ h (fun hb h => ?_) (fun hb h => ?_)
    · refine wl_set (t := 14) (v := .bool true) (congrArg Value.bool hb) ?_; clear hb
      refine wl_off (t := 14) rfl (by decide) rfl ?_
      refine wl_off (t := 14) rfl (by decide) rfl ?_
      refine wl_off (t := 14) rfl (by decide) rfl ?_
      refine wl_off (t := 14) rfl (by decide) rfl ?_
      refine wl_val (at_pick_t rfl rfl) rfl ?_
      refine wl_nil ?_
      exact wk_prune [(0, yv0), (1, .pointer (some a1)), (4, .pointer (some (⟨b11, 0, none⟩ : Addr))), (19, .bool true)] ⟨rfl, rfl, rfl, rfl, trivial⟩ (fun f1 => hJ14 (true) _ f1 h ⟨t_b11, trivial⟩ so)
    · refine wl_set (t := 14) (v := .bool false) (congrArg Value.bool hb) ?_; clear hb
      refine wl_on (t := 14) rfl (by decide) rfl ?_
      refine wl_val (at_move rfl) rfl ?_
      refine wl_on (t := 14) rfl (by decide) rfl ?_
      refine wl_val (at_loadA (cs := (c32 x9.1 x9.2.1 x9.2.2.1)) Tryd.underlying32 rfl (by rw [len32]; exact sz32) rfl (ldA_full t_b11)) rfl ?_
      refine wl_on (t := 14) rfl (by decide) rfl ?_
      refine wl_yield (a := (x9.1, x9.2.1, x9.2.2.1)) hY0 rfl rfl rfl h so ?_; intro b17 w18 h so
      obtain ⟨q19, h⟩ := h
      replace t_b11 := pv_bk q19 t_b11 (by simp)
      refine wl_on (t := 14) rfl (by decide) rfl ?_
      refine wl_val (at_not rfl) rfl ?_
      refine wl_val (at_pick_f rfl rfl) rfl ?_
      refine wl_nil ?_
      exact wk_prune [(0, yv0), (1, .pointer (some a1)), (4, .pointer (some (⟨b11, 0, none⟩ : Addr))), (19, .bool (!b17))] ⟨rfl, rfl, rfl, rfl, trivial⟩ (fun f1 => hJ14 ((!b17)) _ f1 h ⟨t_b11, trivial⟩ so)
end Go.Proofs.YtkplpbnifinlbaaDoor.G
