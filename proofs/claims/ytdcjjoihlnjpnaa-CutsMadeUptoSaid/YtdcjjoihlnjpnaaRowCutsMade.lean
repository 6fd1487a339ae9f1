/- Proved: CutsMade answers true for every input of bulk at most 1048576, does not panic, and what came in reads as it did. Conditions: those of the given statement alone. (Joined of two stages by a program of mine.) -/
import Derived.Test.YtdcjjoihlnjpnaaRows
import Derived.Test.YtdcjjoihlnjpnaaZ19f
import Derived.Test.YtdcjjoihlnjpnaaGT
import Derived.WalkKit
import Derived.ProofKit
import Derived.OpenShut
import Derived.ChangeOld
import Derived.Below
import Derived.SizedLaws
import Derived.Deep.CondSized
namespace Go.Proofs.Ytdcjjoihlnjpnaa.cutsMade
open Go.ChangeShapes Go.WideShapes Go.ChangeAt Go.RowKit
set_option linter.unusedVariables false
theorem own : ownKnob Try.prog.godebug = none := by kernel_rfl
set_option maxRecDepth 100000 in
theorem lifted (os : Os) (started : os.Started) (H : Type) (enc : TypeId × Value → H) (F : Stop.Interp) :
    ReturnsInHanded {} Try.checked os 5 .any ((Rows.OpenSpec.upto Rows.cutsMadeSpec).pre6 enc Try.prog Try.f5 Rows.cutsMadeUptoRow.domain false) (((Rows.OpenSpec.upto Rows.cutsMadeSpec).at F).post enc Try.prog Try.f5 false true false false) := by
  refine returnsInHanded_of_cond (C := Try.checked) (s := Rows.OpenSpec.upto Rows.cutsMadeSpec) (k := Rows.uptoSmall) rfl own started (by kernel_rfl) Try.func5
    (OpenSpec.witness (enc := enc) (C := Try.checked) (s := Rows.OpenSpec.upto Rows.cutsMadeSpec) (k := Rows.uptoSmall) rfl false ⟨#[], #[.string ⟨#[]⟩, .slice none 0 0, .agg #[.string ⟨#[]⟩, .int .i64 0, .int .i64 0], .int .u8 0, .string ⟨#[]⟩], []⟩ 8 (by kernel_rfl) (by kernel_rfl) (by kernel_rfl)
      (x := ([.lit (.string []), .nil, .agg [.lit (.string []), .lit (.int .i64 0), .lit (.int .i64 0)], .lit (.int .u8 0), .lit (.string [])], [], [])) (by kernel_rfl) rfl (by kernel_rfl)) ?_
  intro W base args ds gs before hval0 hW _ hsz _
  have hval : ∀ (j : Nat) t v, Try.f5.params[j]? = some t → args[j]? = some v → Value.okWide Try.prog W .any base t v := hval0
  have hW' := hW
  obtain ⟨p, q, hA0, hV, rfl, hfz, hnd⟩ := hW
  have hA : DataW.TrodAll enc Try.prog W 0 (fun _ => true) true Try.f5.params.toList args.toList ds p := hA0
  rw [Try.params5] at hA hval
  have hA1 := hA
  obtain ⟨v0, vs0, d0, ds0, p0, q0, hargs, rfl, rfl, h0, r0⟩ := trodAll_cons hA
  obtain ⟨v1, vs1, d1, ds1, p1, q1, rfl, rfl, rfl, h1, r1⟩ := trodAll_cons r0
  obtain ⟨v2, vs2, d2, ds2, p2, q2, rfl, rfl, rfl, h2, r2⟩ := trodAll_cons r1
  obtain ⟨v3, vs3, d3, ds3, p3, q3, rfl, rfl, rfl, h3, r3⟩ := trodAll_cons r2
  obtain ⟨v4, vs4, d4, ds4, p4, q4, rfl, rfl, rfl, h4, r4⟩ := trodAll_cons r3
  obtain ⟨rfl, rfl, rfl⟩ := trodAll_nil r4
  obtain rfl : args = #[v0, v1, v2, v3, v4] := by cases args; simp_all
  obtain ⟨rfl, rfl⟩ := trodVars_none hV
  have hz : ∀ (j : Nat) (t : TypeId) d, ([9, 38, 40, 5, 9] : List TypeId)[j]? = some t → [d0, d1, d2, d3, d4][j]? = some d → G.Sz (some 1048576) Try.prog t d := fun j t d _ hd => G.sz_upto hsz j t d hd
  obtain ⟨a0_0, e0, b0_0⟩ := G.op9 (G.Rd.of h0 (hz 0 9 d0 rfl rfl))
  have e0' := G.open_scal Try.underlying9 rfl (hval 0 9 v0 rfl rfl) e0; subst e0'
  have b0_0' : a0_0.size ≤ 1048576 := Nat.le_of_succ_le b0_0
  obtain ⟨a1_0, e1, b1_0⟩ := G.op38 (G.Rd.of h1 (hz 1 38 d1 rfl rfl))
  have e1' := G.open_scal Try.underlying38 rfl (hval 1 38 v1 rfl rfl) e1; subst e1'
  obtain ⟨a2_0, a2_1, a2_2, e2, b2_0, b2_1, b2_2⟩ := G.op40 (G.Rd.of h2 (hz 2 40 d2 rfl rfl))
  have e2' := G.open_agg Try.underlying40 rfl (hval 2 40 v2 rfl rfl) e2; subst e2'
  have b2_0' : a2_0.size ≤ 1048576 := Nat.le_of_succ_le b2_0
  obtain ⟨a3_0, e3, b3_0⟩ := G.op5 (G.Rd.of h3 (hz 3 5 d3 rfl rfl))
  have e3' := G.open_scal Try.underlying5 rfl (hval 3 5 v3 rfl rfl) e3; subst e3'
  obtain ⟨a4_0, e4, b4_0⟩ := G.op9 (G.Rd.of h4 (hz 4 9 d4 rfl rfl))
  have e4' := G.open_scal Try.underlying9 rfl (hval 4 9 v4 rfl rfl) e4; subst e4'
  have b4_0' : a4_0.size ≤ 1048576 := Nat.le_of_succ_le b4_0
  have hs : G.mosaiclaw19_CutsMade.s a0_0 a1_0 a2_0 a2_1 a2_2 a3_0 a4_0 W.heap (fun r H' => r = true ∧ G.Keep W.heap H') := G.CutsMade_row a0_0 a1_0 a2_0 a2_1 a2_2 a3_0 a4_0 W b0_0' b1_0 b2_0' b2_1 b2_2 b3_0 b4_0'
  refine (G.mosaiclaw19_CutsMade.calls a0_0 a1_0 a2_0 a2_1 a2_2 a3_0 a4_0 W _ hs).calls.mono fun e W' ⟨r, he, ⟨hr, hk⟩, so⟩ => ?_
  subst hr
  have he : e = .returned (.bool true) := he
  subst he
  have bel : Below W.heap.size W W' := hk.below so
  exact ⟨_, rfl, _, _, _, [], _, [], hW', trodAll_mk1 (shut_bool Try.underlying4 _), G.trodAll_below (by kernel_rfl) bel _ _ _ _ (by kernel_rfl) hA1, rfl, bel.frame _, fun h => by cases h⟩
theorem over : Rows.cutsMadeUptoRow.holds Try.pinned (Rows.OpenSpec.upto Rows.cutsMadeSpec) :=
  OpenClaim.holds_of_cond 5 Try.f5 rfl rfl rfl rfl rfl rfl rfl ⟨rfl, rfl, rfl, rfl, rfl⟩ rfl rfl rfl rfl rfl (by kernel_rfl) Try.func5 (by kernel_rfl)
    (of_decide_eq_true (by kernel_rfl)) (by unfold Func.isWrapper; first | (rw [if_pos (by decide +kernel)]; kernel_rfl) | (rw [if_neg (by decide +kernel)]; exact ⟨rfl, rfl⟩))
    (fun os started H enc _ F => lifted os started H enc F)
theorem proved : Rows.CutsMadeUptoSaid := over
#print axioms proved
end Go.Proofs.Ytdcjjoihlnjpnaa.cutsMade
namespace Go.Proofs.Ytdcjjoihlnjpnaa
/-- The row, under a short name, for the claim. -/
theorem cutsMade_holds : Rows.CutsMadeUptoSaid := cutsMade.proved
end Go.Proofs.Ytdcjjoihlnjpnaa
