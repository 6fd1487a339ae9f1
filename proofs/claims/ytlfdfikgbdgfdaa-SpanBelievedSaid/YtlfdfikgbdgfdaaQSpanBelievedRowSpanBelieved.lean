/- Proved: SpanBelieved answers true for every input, does not panic, and what came in reads as it did. Conditions: those of the given statement alone. (Joined of two stages by a program of mine.) -/
import Derived.Test.YtlfdfikgbdgfdaaRows
import Derived.Test.YtlfdfikgbdgfdaaQSpanBelievedZ17t
import Derived.Test.YtlfdfikgbdgfdaaQSpanBelievedGT
import Derived.WalkKit
import Derived.ProofKit
import Derived.OpenShut
import Derived.ChangeOld
import Derived.Below
import Derived.SizedLaws
import Derived.Deep.CondSized
namespace Go.Proofs.Ytlfdfikgbdgfdaa.spanBelieved
open Go.ChangeShapes Go.WideShapes Go.ChangeAt Go.RowKit
set_option linter.unusedVariables false
theorem own : ownKnob Try.prog.godebug = none := by kernel_rfl
set_option maxRecDepth 100000 in
theorem lifted (os : Os) (started : os.Started) (H : Type) (enc : TypeId × Value → H) :
    ReturnsInHanded {} Try.checked os 7 .any (Rows.spanBelievedSpec.pre6 enc Try.prog Try.f7 Rows.spanBelievedRow.domain false) (Rows.spanBelievedSpec.post enc Try.prog Try.f7 false true false false) := by
  refine returnsInHanded_of_change_sized (C := Try.checked) own started (by kernel_rfl) Try.func7
    (ChangeSpec.witness6 (enc := enc) (C := Try.checked) false ⟨#[], #[.string ⟨#[]⟩, .int .i64 0, .int .i64 0, .agg #[.int .u8 0, .int .i64 0, .int .i64 0, .slice none 0 0, .slice none 0 0, .int .u8 0, .int .u8 0, .int .u8 0, .int .u8 0, .int .u8 0, .int .u8 0, .int .u8 0, .int .u8 0, .int .u8 0, .int .u8 0, .int .u8 0, .int .u8 0, .int .u8 0, .int .u8 0, .int .u8 0, .int .u8 0, .slice none 0 0, .int .u8 0, .int .u8 0, .int .u8 0, .int .u8 0, .int .u8 0, .int .u8 0, .int .u8 0, .int .u8 0, .int .u8 0, .int .u8 0, .int .u8 0, .int .u8 0, .int .u8 0, .int .u8 0, .int .u8 0, .int .u8 0, .slice none 0 0, .int .u8 0, .int .u8 0, .int .u8 0, .int .u8 0, .int .u8 0, .int .u8 0, .int .u8 0, .int .u8 0, .int .u8 0, .int .u8 0, .int .u8 0, .int .u8 0, .int .u8 0, .int .u8 0, .int .u8 0, .int .u8 0, .slice none 0 0, .int .u8 0, .int .u8 0, .int .u8 0, .int .u8 0, .int .u8 0, .int .u8 0, .int .u8 0, .int .u8 0, .int .u8 0, .int .u8 0, .int .u8 0, .int .u8 0, .int .u8 0, .int .u8 0, .int .u8 0, .int .u8 0, .slice none 0 0, .int .u8 0, .int .u8 0, .int .u8 0, .int .u8 0, .int .u8 0, .int .u8 0, .int .u8 0, .int .u8 0, .int .u8 0, .int .u8 0, .int .u8 0, .int .u8 0, .int .u8 0, .int .u8 0, .int .u8 0, .int .u8 0, .slice none 0 0, .int .u8 0, .int .u8 0, .int .u8 0, .int .u8 0, .int .u8 0, .int .u8 0, .int .u8 0, .int .u8 0, .int .u8 0, .int .u8 0, .int .u8 0, .int .u8 0, .int .u8 0, .int .u8 0, .int .u8 0, .int .u8 0, .slice none 0 0, .int .u8 0, .int .u8 0, .int .u8 0, .int .u8 0, .int .u8 0, .int .u8 0, .int .u8 0, .int .u8 0, .int .u8 0, .int .u8 0, .int .u8 0, .int .u8 0, .int .u8 0, .int .u8 0, .int .u8 0, .int .u8 0, .slice none 0 0, .int .u8 0, .int .u8 0, .int .u8 0, .int .u8 0, .int .u8 0, .int .u8 0, .int .u8 0, .int .u8 0, .int .u8 0, .int .u8 0, .int .u8 0, .int .u8 0, .int .u8 0, .int .u8 0, .int .u8 0, .int .u8 0, .slice none 0 0, .int .i64 0, .int .i64 0]], []⟩ 8 (by kernel_rfl) (by kernel_rfl) (by kernel_rfl) (by kernel_rfl)) ?_
  intro W base args ds gs before hval0 hW hcnd hsz0 _
  have hsz : (DataW.weightsEach Try.prog (Try.f7.params.toList ++ Rows.spanBelievedSpec.plain.varTypes Try.prog) (ds ++ gs)).all (· ≤ reachBytes) = true := hsz0
  have hval : ∀ (j : Nat) t v, Try.f7.params[j]? = some t → args[j]? = some v → Value.okWide Try.prog W .any base t v := hval0
  have hW' := hW
  obtain ⟨p, q, hA0, hV, rfl, hfz, hnd⟩ := hW
  have hA : DataW.TrodAll enc Try.prog W 0 (fun _ => true) true Try.f7.params.toList args.toList ds p := hA0
  rw [Try.params7] at hA hval hsz
  have hA1 := hA
  obtain ⟨v0, vs0, d0, ds0, p0, q0, hargs, rfl, rfl, h0, r0⟩ := trodAll_cons hA
  obtain ⟨v1, vs1, d1, ds1, p1, q1, rfl, rfl, rfl, h1, r1⟩ := trodAll_cons r0
  obtain ⟨v2, vs2, d2, ds2, p2, q2, rfl, rfl, rfl, h2, r2⟩ := trodAll_cons r1
  obtain ⟨v3, vs3, d3, ds3, p3, q3, rfl, rfl, rfl, h3, r3⟩ := trodAll_cons r2
  obtain ⟨rfl, rfl, rfl⟩ := trodAll_nil r3
  obtain rfl : args = #[v0, v1, v2, v3] := by cases args; simp_all
  obtain ⟨rfl, rfl⟩ := trodVars_none hV
  have hz : ∀ (j : Nat) (t : TypeId) d, ([9, 3, 3, 32] : List TypeId)[j]? = some t → [d0, d1, d2, d3][j]? = some d → G.Sz none Try.prog t d := fun j t d ht hd => G.sz_each hsz rfl j t d ht hd
  obtain ⟨a0_0, e0, b0_0⟩ := G.op9 (G.Rd.of h0 (hz 0 9 d0 rfl rfl))
  have e0' := G.open_scal Try.underlying9 rfl (hval 0 9 v0 rfl rfl) e0; subst e0'
  have b0_0' : a0_0.size < 140737488355328 := Nat.lt_of_le_of_lt (show a0_0.size ≤ reachBytes from b0_0) reachBytes_lt
  obtain ⟨a1_0, e1, b1_0⟩ := G.op3 (G.Rd.of h1 (hz 1 3 d1 rfl rfl))
  have e1' := G.open_scal Try.underlying3 rfl (hval 1 3 v1 rfl rfl) e1; subst e1'
  obtain ⟨a2_0, e2, b2_0⟩ := G.op3 (G.Rd.of h2 (hz 2 3 d2 rfl rfl))
  have e2' := G.open_scal Try.underlying3 rfl (hval 2 3 v2 rfl rfl) e2; subst e2'
  obtain ⟨a3_0, a3_1, a3_2, a3_3, a3_4, a3_5, a3_6, a3_7, a3_8, a3_9, a3_10, a3_11, a3_12, a3_13, a3_14, a3_15, a3_16, a3_17, a3_18, a3_19, a3_20, a3_21, a3_22, e3, b3_0, b3_1, b3_2, b3_3, b3_4, b3_5, b3_6, b3_7, b3_8, b3_9, b3_10, b3_11, b3_12, b3_13, b3_14, b3_15, b3_16, b3_17, b3_18, b3_19, b3_20, b3_21, b3_22⟩ := G.op32 (G.Rd.of h3 (hz 3 32 d3 rfl rfl))
  have e3' := G.open_agg Try.underlying32 rfl (hval 3 32 v3 rfl rfl) e3; subst e3'
  have hs : G.mosaiclaw17_SpanBelieved.s a0_0 a1_0 a2_0 a3_0 a3_1 a3_2 a3_3 a3_4 a3_5 a3_6 a3_7 a3_8 a3_9 a3_10 a3_11 a3_12 a3_13 a3_14 a3_15 a3_16 a3_17 a3_18 a3_19 a3_20 a3_21 a3_22 W.heap (fun r H' => r = true ∧ G.Keep W.heap H') := G.SpanBelieved_row a0_0 a1_0 a2_0 a3_0 a3_1 a3_2 a3_3 a3_4 a3_5 a3_6 a3_7 a3_8 a3_9 a3_10 a3_11 a3_12 a3_13 a3_14 a3_15 a3_16 a3_17 a3_18 a3_19 a3_20 a3_21 a3_22 W b0_0' b1_0 b2_0 b3_0 b3_1 b3_2 b3_3 b3_4 b3_5 b3_6 b3_7 b3_8 b3_9 b3_10 b3_11 b3_12 b3_13 b3_14 b3_15 b3_16 b3_17 b3_18 b3_19 b3_20 b3_21 b3_22
  refine (G.mosaiclaw17_SpanBelieved.calls a0_0 a1_0 a2_0 a3_0 a3_1 a3_2 a3_3 a3_4 a3_5 a3_6 a3_7 a3_8 a3_9 a3_10 a3_11 a3_12 a3_13 a3_14 a3_15 a3_16 a3_17 a3_18 a3_19 a3_20 a3_21 a3_22 W _ hs).calls.mono fun e W' ⟨r, he, ⟨hr, hk⟩, so⟩ => ?_
  subst hr
  have he : e = .returned (.bool true) := he
  subst he
  have bel : Below W.heap.size W W' := hk.below so
  exact ⟨_, rfl, _, _, _, [], _, [], hW', trodAll_mk1 (shut_bool Try.underlying4 _), G.trodAll_below (by kernel_rfl) bel _ _ _ _ (by kernel_rfl) hA1, rfl, bel.frame _, fun h => by cases h⟩
theorem over : Rows.spanBelievedRow.holds Try.pinned (OpenSpec.ofChange Rows.spanBelievedSpec) :=
  OpenClaim.holds_of_wide 7 Try.f7 rfl rfl rfl rfl rfl rfl rfl ⟨rfl, rfl, rfl, rfl, rfl⟩ rfl rfl rfl rfl rfl (by kernel_rfl) Try.func7 (by kernel_rfl)
    (of_decide_eq_true (by kernel_rfl)) (by unfold Func.isWrapper; first | (rw [if_pos (by decide +kernel)]; kernel_rfl) | (rw [if_neg (by decide +kernel)]; exact ⟨rfl, rfl⟩))
    (fun os started H enc _ => lifted os started H enc)
theorem proved : Rows.SpanBelievedSaid := over
#print axioms proved
end Go.Proofs.Ytlfdfikgbdgfdaa.spanBelieved
namespace Go.Proofs.Ytlfdfikgbdgfdaa
theorem spanBelieved_holds : Rows.SpanBelievedSaid := spanBelieved.proved
end Go.Proofs.Ytlfdfikgbdgfdaa
