import Derived.Test.YthblohaffipkhaaGF
namespace Go.Proofs.Ythblohaffipkhaa.G
open Go.RowKit
set_option linter.unusedVariables false
set_option linter.unusedSimpArgs false
/-- math/bits.Len64 -/
def bits_Len64.enc : Int → Value := fun r => .int .i64 r
def bits_Len64.s (a0 : Int) (H0 : Hp) (Q : Int → Hp → Prop) : Prop :=
  Join (fun (s2 : Int × Int) (H3 : Hp) => Join (fun (s5 : Int × Int) (H6 : Hp) => Join (fun (s8 : Int × Int) (H9 : Hp) => 0 ≤ (IntKind.wrap .u8 s8.1) ∧ (IntKind.wrap .u8 s8.1) < (strb4f36e89.size : Int) ∧ (Lt ((IntKind.wrap .i64 (s8.2 + (IntKind.wrap .i64 (bt strb4f36e89 (IntKind.wrap .u8 s8.1))))) : Int) (fun x12 => Q x12 H9))) (fun (J7 : (Int × Int) → Hp → Prop) => if decide ((256 : Int) ≤ s5.1) = true then (J7 ((shrI .u64 s5.1 8), (IntKind.wrap .i64 (s5.2 + 8))) H6) else (J7 (s5.1, s5.2) H6))) (fun (J4 : (Int × Int) → Hp → Prop) => if decide ((65536 : Int) ≤ s2.1) = true then (J4 ((shrI .u64 s2.1 16), (IntKind.wrap .i64 (s2.2 + 16))) H3) else (J4 (s2.1, s2.2) H3))) (fun (J1 : (Int × Int) → Hp → Prop) => if decide ((4294967296 : Int) ≤ a0) = true then (J1 ((shrI .u64 a0 32), 32) H0) else (J1 (a0, 0) H0))
set_option maxRecDepth 20000 in
set_option maxHeartbeats 4000000 in
theorem bits_Len64.calls (a0 : Int) (w0 : World) (Q : Int → Hp → Prop) (h : bits_Len64.s a0 w0.heap Q) :
    Ca Try.prog 40 #[.int .u64 a0] w0 (Rt bits_Len64.enc Q w0) := by
  refine ca_start (c := _) Try.func40 rfl Try.ntmps40 rfl ?_
  have so : Sm w0 w0 := Sm.refl w0
  unfold bits_Len64.s at h
  refine wc_prune [(0, .int .u64 a0)] ⟨rfl, trivial⟩ (fun f1 => ?_)
  refine wc_seq ?_
  refine wc_region ?_
  refine wl_val (at_assign rfl) rfl ?_
  refine wl_nil ?_
  refine wk_prune [(0, .int .u64 a0), (2, .int .i64 0)] ⟨rfl, rfl, trivial⟩ (fun f1 => ?_)
  refine wk_then ?_
  refine wc_seq ?_
  refine wc_join (w0 := w0) (fun (s2 : Int × Int) => [(0, .int .u64 s2.1), (2, .int .i64 s2.2)]) h ?_ ?_
  · rintro s2 w3 f1 h so; refine wk_then ?_
    refine wc_seq ?_
    refine wc_join (w0 := w0) (fun (s5 : Int × Int) => [(0, .int .u64 s5.1), (2, .int .i64 s5.2)]) h ?_ ?_
    · rintro s5 w6 f1 h so; refine wk_then ?_
      refine wc_seq ?_
      refine wc_join (w0 := w0) (fun (s8 : Int × Int) => [(0, .int .u64 s8.1), (2, .int .i64 s8.2)]) h ?_ ?_
      · rintro s8 w9 f1 h so; refine wk_then ?_
        refine wc_seq ?_
        refine wc_region ?_
        refine wl_val (at_move rfl) rfl ?_
        refine wl_val (at_move rfl) rfl ?_
        refine wl_val (at_conv Try.underlying75 Try.underlying5 rfl) rfl ?_
        obtain ⟨q10, q11, h⟩ := h
        refine wl_val (at_ixS Try.underlying9 rfl rfl q10 q11) rfl ?_
        refine wl_val (at_conv Try.underlying5 Try.underlying3 rfl) rfl ?_
        refine wl_val (at_add rfl rfl) rfl ?_
        refine wl_val (at_assign rfl) rfl ?_
        obtain ⟨x12, e13⟩ : ∃ x : Int, x = (IntKind.wrap .i64 (s8.2 + (IntKind.wrap .i64 (bt strb4f36e89 (IntKind.wrap .u8 s8.1))))) := ⟨_, rfl⟩; replace h := h x12 e13
        refine wl_set (t := 2) (v := .int .i64 x12) (congrArg (Value.int .i64) e13.symm) ?_
        refine wl_nil ?_
        refine wk_prune [(2, .int .i64 x12)] ⟨rfl, trivial⟩ (fun f1 => ?_)
        refine wk_then ?_
        refine wc_ret ?_
        exact wk_ret1 (x := x12) rfl (by decide) rfl so h
      · intro J7 h hJ7
        refine wc_seq ?_
        refine wc_region ?_
        refine wl_val (at_move rfl) rfl ?_
        refine wl_val (at_geq rfl rfl) rfl ?_
        refine wl_nil ?_
        refine wk_prune [(0, .int .u64 s5.1), (2, .int .i64 s5.2), (14, .bool (decide ((256 : Int) ≤ s5.1)))] ⟨rfl, rfl, rfl, trivial⟩ (fun f1 => ?_)
        refine wk_then ?_
        refine wc_cond rfl h (fun h => ?_) (fun h => ?_)
        · refine wc_seq ?_
          refine wc_region ?_
          refine wl_val (at_move rfl) rfl ?_
          refine wl_val (at_shr rfl rfl (by decide)) rfl ?_
          refine wl_val (at_assign rfl) rfl ?_
          refine wl_nil ?_
          refine wk_prune [(0, .int .u64 (shrI .u64 s5.1 8)), (2, .int .i64 s5.2)] ⟨rfl, rfl, trivial⟩ (fun f1 => ?_)
          refine wk_then ?_
          refine wc_region ?_
          refine wl_val (at_move rfl) rfl ?_
          refine wl_val (at_add rfl rfl) rfl ?_
          refine wl_val (at_assign rfl) rfl ?_
          refine wl_nil ?_
          exact wk_prune [(0, .int .u64 (shrI .u64 s5.1 8)), (2, .int .i64 (IntKind.wrap .i64 (s5.2 + 8)))] ⟨rfl, rfl, trivial⟩ (fun f1 => hJ7 ((shrI .u64 s5.1 8), (IntKind.wrap .i64 (s5.2 + 8))) _ f1 h so)
        · refine wc_skip ?_
          exact wk_prune [(0, .int .u64 s5.1), (2, .int .i64 s5.2)] ⟨rfl, rfl, trivial⟩ (fun f1 => hJ7 (s5.1, s5.2) _ f1 h so)
    · intro J4 h hJ4
      refine wc_seq ?_
      refine wc_region ?_
      refine wl_val (at_move rfl) rfl ?_
      refine wl_val (at_geq rfl rfl) rfl ?_
      refine wl_nil ?_
      refine wk_prune [(0, .int .u64 s2.1), (2, .int .i64 s2.2), (8, .bool (decide ((65536 : Int) ≤ s2.1)))] ⟨rfl, rfl, rfl, trivial⟩ (fun f1 => ?_)
      refine wk_then ?_
      refine wc_cond rfl h (fun h => ?_) (fun h => ?_)
      · refine wc_seq ?_
        refine wc_region ?_
        refine wl_val (at_move rfl) rfl ?_
        refine wl_val (at_shr rfl rfl (by decide)) rfl ?_
        refine wl_val (at_assign rfl) rfl ?_
        refine wl_nil ?_
        refine wk_prune [(0, .int .u64 (shrI .u64 s2.1 16)), (2, .int .i64 s2.2)] ⟨rfl, rfl, trivial⟩ (fun f1 => ?_)
        refine wk_then ?_
        refine wc_region ?_
        refine wl_val (at_move rfl) rfl ?_
        refine wl_val (at_add rfl rfl) rfl ?_
        refine wl_val (at_assign rfl) rfl ?_
        refine wl_nil ?_
        exact wk_prune [(0, .int .u64 (shrI .u64 s2.1 16)), (2, .int .i64 (IntKind.wrap .i64 (s2.2 + 16)))] ⟨rfl, rfl, trivial⟩ (fun f1 => hJ4 ((shrI .u64 s2.1 16), (IntKind.wrap .i64 (s2.2 + 16))) _ f1 h so)
      · refine wc_skip ?_
        exact wk_prune [(0, .int .u64 s2.1), (2, .int .i64 s2.2)] ⟨rfl, rfl, trivial⟩ (fun f1 => hJ4 (s2.1, s2.2) _ f1 h so)
  · intro J1 h hJ1
    refine wc_seq ?_
    refine wc_region ?_
    refine wl_val (at_move rfl) rfl ?_
    refine wl_val (at_geq rfl rfl) rfl ?_
    refine wl_nil ?_
    refine wk_prune [(0, .int .u64 a0), (2, .int .i64 0), (4, .bool (decide ((4294967296 : Int) ≤ a0)))] ⟨rfl, rfl, rfl, trivial⟩ (fun f1 => ?_)
    refine wk_then ?_
    refine wc_cond rfl h (fun h => ?_) (fun h => ?_)
    · refine wc_seq ?_
      refine wc_region ?_
      refine wl_val (at_move rfl) rfl ?_
      refine wl_val (at_shr rfl rfl (by decide)) rfl ?_
      refine wl_val (at_assign rfl) rfl ?_
      refine wl_nil ?_
      refine wk_prune [(0, .int .u64 (shrI .u64 a0 32))] ⟨rfl, trivial⟩ (fun f1 => ?_)
      refine wk_then ?_
      refine wc_region ?_
      refine wl_val (at_assign rfl) rfl ?_
      refine wl_nil ?_
      exact wk_prune [(0, .int .u64 (shrI .u64 a0 32)), (2, .int .i64 32)] ⟨rfl, rfl, trivial⟩ (fun f1 => hJ1 ((shrI .u64 a0 32), 32) _ f1 h so)
    · refine wc_skip ?_
      exact wk_prune [(0, .int .u64 a0), (2, .int .i64 0)] ⟨rfl, rfl, trivial⟩ (fun f1 => hJ1 (a0, 0) _ f1 h so)
end Go.Proofs.Ythblohaffipkhaa.G
