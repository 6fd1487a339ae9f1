/- The row of RunsOnce, from the two stages. Printed by a program of mine. -/
import Derived.Test.YthblohaffipkhaaRows
import Derived.Test.YthblohaffipkhaaZ07i
import Derived.Test.YthblohaffipkhaaGT
import Derived.WalkKit
import Derived.ProofKit
import Derived.OpenShut
import Derived.ChangeOld
import Derived.Below
import Derived.SizedLaws
import Derived.Deep.CondSized
namespace Go.Proofs.Ythblohaffipkhaa.runsOnce
open Go.ChangeShapes Go.WideShapes Go.ChangeAt Go.RowKit
set_option linter.unusedVariables false
theorem own : ownKnob Try.prog.godebug = none := by kernel_rfl
set_option maxRecDepth 100000 in
theorem lifted (os : Os) (started : os.Started) (H : Type) (enc : TypeId × Value → H) :
    ReturnsInHanded {} Try.checked os 8 .any (Rows.runsOnceSpec.pre6 enc Try.prog Try.f8 Rows.runsOnceRow.domain false) (Rows.runsOnceSpec.post enc Try.prog Try.f8 false true false false) := by
  refine returnsInHanded_of_change_sized (C := Try.checked) own started (by kernel_rfl) Try.func8
    (ChangeSpec.witness6 (enc := enc) (C := Try.checked) false ⟨#[], #[.slice none 0 0, .int .i16 0, .int .i64 0, .agg #[.int .u8 0, .int .i8 0, .int .u16 0]], []⟩ 8 (by kernel_rfl) (by kernel_rfl) (by kernel_rfl) (by kernel_rfl)) ?_
  intro W base args ds gs before hval0 hW hcnd hsz0 _
  have hsz : (DataW.weightsEach Try.prog (Try.f8.params.toList ++ Rows.runsOnceSpec.plain.varTypes Try.prog) (ds ++ gs)).all (· ≤ reachBytes) = true := hsz0
  have hval : ∀ (j : Nat) t v, Try.f8.params[j]? = some t → args[j]? = some v → Value.okWide Try.prog W .any base t v := hval0
  have hW' := hW
  obtain ⟨p, q, hA0, hV, rfl, hfz, hnd⟩ := hW
  have hA : DataW.TrodAll enc Try.prog W 0 (fun _ => true) true Try.f8.params.toList args.toList ds p := hA0
  rw [Try.params8] at hA hval hsz
  have hA1 := hA
  obtain ⟨v0, vs0, d0, ds0, p0, q0, hargs, rfl, rfl, h0, r0⟩ := trodAll_cons hA
  obtain ⟨v1, vs1, d1, ds1, p1, q1, rfl, rfl, rfl, h1, r1⟩ := trodAll_cons r0
  obtain ⟨v2, vs2, d2, ds2, p2, q2, rfl, rfl, rfl, h2, r2⟩ := trodAll_cons r1
  obtain ⟨v3, vs3, d3, ds3, p3, q3, rfl, rfl, rfl, h3, r3⟩ := trodAll_cons r2
  obtain ⟨rfl, rfl, rfl⟩ := trodAll_nil r3
  obtain rfl : args = #[v0, v1, v2, v3] := by cases args; simp_all
  obtain ⟨rfl, rfl⟩ := trodVars_none hV
  have hz : ∀ (j : Nat) (t : TypeId) d, ([25, 22, 3, 42] : List TypeId)[j]? = some t → [d0, d1, d2, d3][j]? = some d → G.Sz none Try.prog t d := fun j t d ht hd => G.sz_each hsz rfl j t d ht hd
  obtain ⟨a0_0, e0, b0_0⟩ := G.op25 (G.Rd.of h0 (hz 0 25 d0 rfl rfl))
  have e0' := G.open_scal Try.underlying25 rfl (hval 0 25 v0 rfl rfl) e0; subst e0'
  obtain ⟨a1_0, e1, b1_0⟩ := G.op22 (G.Rd.of h1 (hz 1 22 d1 rfl rfl))
  have e1' := G.open_scal Try.underlying22 rfl (hval 1 22 v1 rfl rfl) e1; subst e1'
  obtain ⟨a2_0, e2, b2_0⟩ := G.op3 (G.Rd.of h2 (hz 2 3 d2 rfl rfl))
  have e2' := G.open_scal Try.underlying3 rfl (hval 2 3 v2 rfl rfl) e2; subst e2'
  obtain ⟨a3_0, a3_1, a3_2, e3, b3_0, b3_1, b3_2⟩ := G.op42 (G.Rd.of h3 (hz 3 42 d3 rfl rfl))
  have e3' := G.open_agg Try.underlying42 rfl (hval 3 42 v3 rfl rfl) e3; subst e3'
  have hs : G.mosaiclaw07_RunsOnce.s a0_0 a1_0 a2_0 a3_0 a3_1 a3_2 W.heap (fun r H' => r = true ∧ G.Keep W.heap H') := G.RunsOnce_row a0_0 a1_0 a2_0 a3_0 a3_1 a3_2 W b0_0 b1_0 b2_0 b3_0 b3_1 b3_2
  refine (G.mosaiclaw07_RunsOnce.calls a0_0 a1_0 a2_0 a3_0 a3_1 a3_2 W _ hs).calls.mono fun e W' ⟨r, he, ⟨hr, hk⟩, so⟩ => ?_
  subst hr
  have he : e = .returned (.bool true) := he
  subst he
  have bel : Below W.heap.size W W' := hk.below so
  exact ⟨_, rfl, _, _, _, [], _, [], hW', trodAll_mk1 (shut_bool Try.underlying4 _), G.trodAll_below (by kernel_rfl) bel _ _ _ _ (by kernel_rfl) hA1, rfl, bel.frame _, fun h => by cases h⟩
theorem over : Rows.runsOnceRow.holds Try.pinned (OpenSpec.ofChange Rows.runsOnceSpec) :=
  OpenClaim.holds_of_wide 8 Try.f8 rfl rfl rfl rfl rfl rfl rfl ⟨rfl, rfl, rfl, rfl, rfl⟩ rfl rfl rfl rfl rfl (by kernel_rfl) Try.func8 (by kernel_rfl)
    (of_decide_eq_true (by kernel_rfl)) (by unfold Func.isWrapper; first | (rw [if_pos (by decide +kernel)]; kernel_rfl) | (rw [if_neg (by decide +kernel)]; exact ⟨rfl, rfl⟩))
    (fun os started H enc _ => lifted os started H enc)
theorem proved : Rows.RunsOnceSaid := over
#print axioms proved
end Go.Proofs.Ythblohaffipkhaa.runsOnce
namespace Go.Proofs.Ythblohaffipkhaa
/-- The row, under a short name, for the claim. -/
theorem runsOnce_holds : Rows.RunsOnceSaid := runsOnce.proved
end Go.Proofs.Ythblohaffipkhaa
