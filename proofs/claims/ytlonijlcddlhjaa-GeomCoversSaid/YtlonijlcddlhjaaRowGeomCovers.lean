/- The row of GeomCovers, from the two stages. Printed by a program of mine. -/
import Derived.Test.YtlonijlcddlhjaaRows
import Derived.Test.YtlonijlcddlhjaaZ14e
import Derived.Test.YtlonijlcddlhjaaGT
import Derived.WalkKit
import Derived.ProofKit
import Derived.OpenShut
import Derived.ChangeOld
import Derived.Below
import Derived.SizedLaws
import Derived.Deep.CondSized
namespace Go.Proofs.Ytlonijlcddlhjaa.geomCovers
open Go.ChangeShapes Go.WideShapes Go.ChangeAt Go.RowKit
set_option linter.unusedVariables false
theorem own : ownKnob Try.prog.godebug = none := by kernel_rfl
set_option maxRecDepth 100000 in
theorem lifted (os : Os) (started : os.Started) (H : Type) (enc : TypeId × Value → H) :
    ReturnsInHanded {} Try.checked os 6 .any (Rows.geomCoversSpec.pre6 enc Try.prog Try.f6 Rows.geomCoversRow.domain false) (Rows.geomCoversSpec.post enc Try.prog Try.f6 false true false false) := by
  refine returnsInHanded_of_change_sized (C := Try.checked) own started (by kernel_rfl) Try.func6
    (ChangeSpec.witness6 (enc := enc) (C := Try.checked) false ⟨#[], #[.agg #[.int .u8 0, .int .i64 0, .int .i64 0, .slice none 0 0], .slice none 0 0], []⟩ 8 (by kernel_rfl) (by kernel_rfl) (by kernel_rfl) (by kernel_rfl)) ?_
  intro W base args ds gs before hval0 hW hcnd hsz0 _
  have hsz : (DataW.weightsEach Try.prog (Try.f6.params.toList ++ Rows.geomCoversSpec.plain.varTypes Try.prog) (ds ++ gs)).all (· ≤ reachBytes) = true := hsz0
  have hval : ∀ (j : Nat) t v, Try.f6.params[j]? = some t → args[j]? = some v → Value.okWide Try.prog W .any base t v := hval0
  have hW' := hW
  obtain ⟨p, q, hA0, hV, rfl, hfz, hnd⟩ := hW
  have hA : DataW.TrodAll enc Try.prog W 0 (fun _ => true) true Try.f6.params.toList args.toList ds p := hA0
  rw [Try.params6] at hA hval hsz
  have hA1 := hA
  obtain ⟨v0, vs0, d0, ds0, p0, q0, hargs, rfl, rfl, h0, r0⟩ := trodAll_cons hA
  obtain ⟨v1, vs1, d1, ds1, p1, q1, rfl, rfl, rfl, h1, r1⟩ := trodAll_cons r0
  obtain ⟨rfl, rfl, rfl⟩ := trodAll_nil r1
  obtain rfl : args = #[v0, v1] := by cases args; simp_all
  obtain ⟨rfl, rfl⟩ := trodVars_none hV
  have hz : ∀ (j : Nat) (t : TypeId) d, ([26, 32] : List TypeId)[j]? = some t → [d0, d1][j]? = some d → G.Sz none Try.prog t d := fun j t d ht hd => G.sz_each hsz rfl j t d ht hd
  obtain ⟨a0_0, a0_1, a0_2, a0_3, e0, b0_0, b0_1, b0_2, b0_3⟩ := G.op26 (G.Rd.of h0 (hz 0 26 d0 rfl rfl))
  have e0' := G.open_agg Try.underlying26 rfl (hval 0 26 v0 rfl rfl) e0; subst e0'
  obtain ⟨a1_0, e1, b1_0⟩ := G.op32 (G.Rd.of h1 (hz 1 32 d1 rfl rfl))
  have e1' := G.open_scal Try.underlying32 rfl (hval 1 32 v1 rfl rfl) e1; subst e1'
  have hs : G.mosaiclaw14_GeomCovers.s a0_0 a0_1 a0_2 a0_3 a1_0 W.heap (fun r H' => r = true ∧ G.Keep W.heap H') := G.GeomCovers_row a0_0 a0_1 a0_2 a0_3 a1_0 W b0_0 b0_1 b0_2 b0_3 b1_0
  refine (G.mosaiclaw14_GeomCovers.calls a0_0 a0_1 a0_2 a0_3 a1_0 W _ hs).calls.mono fun e W' ⟨r, he, ⟨hr, hk⟩, so⟩ => ?_
  subst hr
  have he : e = .returned (.bool true) := he
  subst he
  have bel : Below W.heap.size W W' := hk.below so
  exact ⟨_, rfl, _, _, _, [], _, [], hW', trodAll_mk1 (shut_bool Try.underlying4 _), G.trodAll_below (by kernel_rfl) bel _ _ _ _ (by kernel_rfl) hA1, rfl, bel.frame _, fun h => by cases h⟩
theorem over : Rows.geomCoversRow.holds Try.pinned (OpenSpec.ofChange Rows.geomCoversSpec) :=
  OpenClaim.holds_of_wide 6 Try.f6 rfl rfl rfl rfl rfl rfl rfl ⟨rfl, rfl, rfl, rfl, rfl⟩ rfl rfl rfl rfl rfl (by kernel_rfl) Try.func6 (by kernel_rfl)
    (of_decide_eq_true (by kernel_rfl)) (by unfold Func.isWrapper; first | (rw [if_pos (by decide +kernel)]; kernel_rfl) | (rw [if_neg (by decide +kernel)]; exact ⟨rfl, rfl⟩))
    (fun os started H enc _ => lifted os started H enc)
theorem proved : Rows.GeomCoversSaid := over
#print axioms proved
end Go.Proofs.Ytlonijlcddlhjaa.geomCovers
namespace Go.Proofs.Ytlonijlcddlhjaa
/-- The row, under a short name, for the claim. -/
theorem geomCovers_holds : Rows.GeomCoversSaid := geomCovers.proved
end Go.Proofs.Ytlonijlcddlhjaa
