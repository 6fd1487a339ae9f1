/- Proved: CutsPieces answers true for every input of bulk at most 1048576, does not panic, and what came in reads as it did. Conditions: those of the given statement alone. (Joined of two stages by a program of mine.) -/
import Derived.Test.YtdcjjoihlnjpnaaRows
import Derived.Test.YtdcjjoihlnjpnaaZ19g
import Derived.Test.YtdcjjoihlnjpnaaGT
import Derived.WalkKit
import Derived.ProofKit
import Derived.OpenShut
import Derived.ChangeOld
import Derived.Below
import Derived.SizedLaws
import Derived.Deep.CondSized
namespace Go.Proofs.Ytdcjjoihlnjpnaa.cutsPieces
open Go.ChangeShapes Go.WideShapes Go.ChangeAt Go.RowKit
set_option linter.unusedVariables false
theorem own : ownKnob Try.prog.godebug = none := by kernel_rfl
set_option maxRecDepth 100000 in
theorem lifted (os : Os) (started : os.Started) (H : Type) (enc : TypeId × Value → H) (F : Stop.Interp) :
    ReturnsInHanded {} Try.checked os 4 .any ((Rows.OpenSpec.upto Rows.cutsPiecesSpec).pre6 enc Try.prog Try.f4 Rows.cutsPiecesUptoRow.domain false) (((Rows.OpenSpec.upto Rows.cutsPiecesSpec).at F).post enc Try.prog Try.f4 false true false false) := by
  refine returnsInHanded_of_cond (C := Try.checked) (s := Rows.OpenSpec.upto Rows.cutsPiecesSpec) (k := Rows.uptoSmall) rfl own started (by kernel_rfl) Try.func4
    (OpenSpec.witness (enc := enc) (C := Try.checked) (s := Rows.OpenSpec.upto Rows.cutsPiecesSpec) (k := Rows.uptoSmall) rfl false ⟨#[], #[.string ⟨#[]⟩, .int .i64 0, .int .i64 0, .string ⟨#[]⟩], []⟩ 8 (by kernel_rfl) (by kernel_rfl) (by kernel_rfl)
      (x := ([.lit (.string []), .lit (.int .i64 0), .lit (.int .i64 0), .lit (.string [])], [], [])) (by kernel_rfl) rfl (by kernel_rfl)) ?_
  intro W base args ds gs before hval0 hW _ hsz _
  have hval : ∀ (j : Nat) t v, Try.f4.params[j]? = some t → args[j]? = some v → Value.okWide Try.prog W .any base t v := hval0
  have hW' := hW
  obtain ⟨p, q, hA0, hV, rfl, hfz, hnd⟩ := hW
  have hA : DataW.TrodAll enc Try.prog W 0 (fun _ => true) true Try.f4.params.toList args.toList ds p := hA0
  rw [Try.params4] at hA hval
  have hA1 := hA
  obtain ⟨v0, vs0, d0, ds0, p0, q0, hargs, rfl, rfl, h0, r0⟩ := trodAll_cons hA
  obtain ⟨v1, vs1, d1, ds1, p1, q1, rfl, rfl, rfl, h1, r1⟩ := trodAll_cons r0
  obtain ⟨v2, vs2, d2, ds2, p2, q2, rfl, rfl, rfl, h2, r2⟩ := trodAll_cons r1
  obtain ⟨v3, vs3, d3, ds3, p3, q3, rfl, rfl, rfl, h3, r3⟩ := trodAll_cons r2
  obtain ⟨rfl, rfl, rfl⟩ := trodAll_nil r3
  obtain rfl : args = #[v0, v1, v2, v3] := by cases args; simp_all
  obtain ⟨rfl, rfl⟩ := trodVars_none hV
  have hz : ∀ (j : Nat) (t : TypeId) d, ([9, 3, 3, 9] : List TypeId)[j]? = some t → [d0, d1, d2, d3][j]? = some d → G.Sz (some 1048576) Try.prog t d := fun j t d _ hd => G.sz_upto hsz j t d hd
  obtain ⟨a0_0, e0, b0_0⟩ := G.op9 (G.Rd.of h0 (hz 0 9 d0 rfl rfl))
  have e0' := G.open_scal Try.underlying9 rfl (hval 0 9 v0 rfl rfl) e0; subst e0'
  have b0_0' : a0_0.size ≤ 1048576 := Nat.le_of_succ_le b0_0
  obtain ⟨a1_0, e1, b1_0⟩ := G.op3 (G.Rd.of h1 (hz 1 3 d1 rfl rfl))
  have e1' := G.open_scal Try.underlying3 rfl (hval 1 3 v1 rfl rfl) e1; subst e1'
  obtain ⟨a2_0, e2, b2_0⟩ := G.op3 (G.Rd.of h2 (hz 2 3 d2 rfl rfl))
  have e2' := G.open_scal Try.underlying3 rfl (hval 2 3 v2 rfl rfl) e2; subst e2'
  obtain ⟨a3_0, e3, b3_0⟩ := G.op9 (G.Rd.of h3 (hz 3 9 d3 rfl rfl))
  have e3' := G.open_scal Try.underlying9 rfl (hval 3 9 v3 rfl rfl) e3; subst e3'
  have b3_0' : a3_0.size ≤ 1048576 := Nat.le_of_succ_le b3_0
  have hs : G.mosaiclaw19_CutsPieces.s a0_0 a1_0 a2_0 a3_0 W.heap (fun r H' => r = true ∧ G.Keep W.heap H') := G.CutsPieces_row a0_0 a1_0 a2_0 a3_0 W b0_0' b1_0 b2_0 b3_0'
  refine (G.mosaiclaw19_CutsPieces.calls a0_0 a1_0 a2_0 a3_0 W _ hs).calls.mono fun e W' ⟨r, he, ⟨hr, hk⟩, so⟩ => ?_
  subst hr
  have he : e = .returned (.bool true) := he
  subst he
  have bel : Below W.heap.size W W' := hk.below so
  exact ⟨_, rfl, _, _, _, [], _, [], hW', trodAll_mk1 (shut_bool Try.underlying4 _), G.trodAll_below (by kernel_rfl) bel _ _ _ _ (by kernel_rfl) hA1, rfl, bel.frame _, fun h => by cases h⟩
theorem over : Rows.cutsPiecesUptoRow.holds Try.pinned (Rows.OpenSpec.upto Rows.cutsPiecesSpec) :=
  OpenClaim.holds_of_cond 4 Try.f4 rfl rfl rfl rfl rfl rfl rfl ⟨rfl, rfl, rfl, rfl, rfl⟩ rfl rfl rfl rfl rfl (by kernel_rfl) Try.func4 (by kernel_rfl)
    (of_decide_eq_true (by kernel_rfl)) (by unfold Func.isWrapper; first | (rw [if_pos (by decide +kernel)]; kernel_rfl) | (rw [if_neg (by decide +kernel)]; exact ⟨rfl, rfl⟩))
    (fun os started H enc _ F => lifted os started H enc F)
theorem proved : Rows.CutsPiecesUptoSaid := over
#print axioms proved
end Go.Proofs.Ytdcjjoihlnjpnaa.cutsPieces
namespace Go.Proofs.Ytdcjjoihlnjpnaa
/-- The row, under a short name, for the claim. -/
theorem cutsPieces_holds : Rows.CutsPiecesUptoSaid := cutsPieces.proved
end Go.Proofs.Ytdcjjoihlnjpnaa
