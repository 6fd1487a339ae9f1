/- Proved: MarkerFree answers true for every input of bulk at most 1048576, does not panic, and what came in reads as it did. Conditions: those of the given statement alone. (Joined of two stages by a program of mine.) -/
import Derived.Test.YtkplpbnifinlbaaDoorRows
import Derived.Test.YtkplpbnifinlbaaDoorQMarkerFreeZ02x
import Derived.Test.YtkplpbnifinlbaaDoorQMarkerFreeGT
import Derived.WalkKit
import Derived.ProofKit
import Derived.OpenShut
import Derived.ChangeOld
import Derived.Below
import Derived.SizedLaws
import Derived.Deep.CondSized
import Derived.Test.YtkplpbnifinlbaaDoorTie
import Derived.Test.YtkplpbnifinlbaaDoorCards
import Derived.ChangeVars
import Derived.JoinedOf
import Derived.LaidLaws
import Derived.LaidHandle
import Derived.Lay
import Derived.SevenTiedAt
import Derived.Deep.DeepHandedRow
import Derived.Shelf.Vars
import Derived.JoinedCond
namespace Go.Proofs.YtkplpbnifinlbaaDoor.markerFree
open Go.ChangeShapes Go.WideShapes Go.ChangeAt Go.RowKit
set_option linter.unusedVariables false
theorem own : ownKnob Tryd.prog.godebug = none := by kernel_rfl
set_option maxRecDepth 100000 in
theorem lifted (os : Os) (started : os.Started) (H : Type) (enc : TypeId × Value → H) (F : Stop.Interp) :
    ReturnsInHanded {} Tryd.checked os 7 .any ((Rows.OpenSpec.upto Rows.markerFreeSpec).preRow enc Tryd.prog Tryd.f7 Rows.markerFreeUptoRow.domain false Rows.markerFreeUptoRow.laid) (((Rows.OpenSpec.upto Rows.markerFreeSpec).at F).post enc Tryd.prog Tryd.f7 false true false false) := by
  have hok : Input.okWideB Tryd.prog ((World.laidAll Tryd.prog os Rows.markerFreeUptoRow.laid).forCall (fun _ _ => 0) ⟨#[], #[.string ⟨#[]⟩, .string ⟨#[]⟩], []⟩) 7 ⟨#[], #[.string ⟨#[]⟩, .string ⟨#[]⟩], []⟩ = true := by kernel_rfl
  refine returnsInHanded_of_row (C := Tryd.checked) own started (by kernel_rfl) Tryd.func7
    ⟨World.laidAll Tryd.prog os Rows.markerFreeUptoRow.laid, fun _ _ => 0, ⟨#[], #[.string ⟨#[]⟩, .string ⟨#[]⟩], []⟩, World.laidAll_os _ _ _, World.shaped_of_ZipB (by kernel_rfl) (by kernel_rfl), rfl, (Input.okWide_of_okWideB (base := 0) hok).2, ⟨⟨?_, ?_⟩, ?_⟩, ?_⟩ ?_
  · exact (OpenSpec.pre_some (s := (Rows.OpenSpec.upto Rows.markerFreeSpec)) (k := Rows.uptoSmall) rfl _ _ _ _).2 ⟨[.lit (.string []), .lit (.string [])], [], [], DataW.Whole_of_whole (fuel := 8) (x := ([.lit (.string []), .lit (.string [])], [], [])) (by kernel_rfl), by rfl, by kernel_rfl⟩
  · exact laidMetH_of_parts (by rw [show (Rows.markerFreeUptoRow.laid.filter fun x => x.2.handleName?.isNone) = Rows.markerFreeUptoRow.laid from rfl]; exact laidMet_laidAll _ (by kernel_rfl) (by kernel_rfl)) (by kernel_rfl)
  · exact sizedMet_of_sizedB (s := (Rows.OpenSpec.upto Rows.markerFreeSpec).bare) (fuel := 8) (by kernel_rfl)
  · simp only [Assume.holds]
    exact ⟨by simp, by simp, fun _ => Modest.zero, by simp, by simp⟩
  intro W base args ds gs before hval0 hW hcnd hkc hsz0 _ hsh _
  have hsz : Rows.uptoSmall H (ds ++ gs) = true := hkc _ rfl
  have hm : G.Mx W.heap := Proofs.cell_of_shapedOpen_int (P := Tryd.prog) (g := 0) (t := 3) (zero := #[.int .i64 0]) (k := .i64) hsh (of_decide_eq_true (by kernel_rfl)) (by kernel_rfl) rfl (by kernel_rfl) (by kernel_rfl) (by kernel_rfl)
  have hval : ∀ (j : Nat) t v, Tryd.f7.params[j]? = some t → args[j]? = some v → Value.okWide Tryd.prog W .any base t v := hval0
  have hW' := hW
  obtain ⟨p, q, hA0, hV, rfl, hfz, hnd⟩ := hW
  have hA : DataW.TrodAll enc Tryd.prog W 0 (fun _ => true) true Tryd.f7.params.toList args.toList ds p := hA0
  rw [Tryd.params7] at hA hval
  have hA1 := hA
  obtain ⟨v0, vs0, d0, ds0, p0, q0, hargs, rfl, rfl, h0, r0⟩ := trodAll_cons hA
  obtain ⟨v1, vs1, d1, ds1, p1, q1, rfl, rfl, rfl, h1, r1⟩ := trodAll_cons r0
  obtain ⟨rfl, rfl, rfl⟩ := trodAll_nil r1
  obtain rfl : args = #[v0, v1] := by cases args; simp_all
  obtain ⟨rfl, rfl⟩ := trodVars_none hV
  have hz : ∀ (j : Nat) (t : TypeId) d, ([9, 9] : List TypeId)[j]? = some t → [d0, d1][j]? = some d → G.Sz (some 1048576) Tryd.prog t d := fun j t d _ hd => G.sz_upto hsz j t d hd
  obtain ⟨a0_0, e0, b0_0⟩ := G.op9 (G.Rd.of h0 (hz 0 9 d0 rfl rfl))
  have e0' := G.open_scal Tryd.underlying9 rfl (hval 0 9 v0 rfl rfl) e0; subst e0'
  have b0_0' : a0_0.size ≤ 1048576 := Nat.le_of_succ_le b0_0
  obtain ⟨a1_0, e1, b1_0⟩ := G.op9 (G.Rd.of h1 (hz 1 9 d1 rfl rfl))
  have e1' := G.open_scal Tryd.underlying9 rfl (hval 1 9 v1 rfl rfl) e1; subst e1'
  have b1_0' : a1_0.size ≤ 1048576 := Nat.le_of_succ_le b1_0
  have hs : G.mosaiclaw02_MarkerFree.s a0_0 a1_0 W.heap (fun r H' => r = true ∧ G.Keep W.heap H') := G.MarkerFree_row a0_0 a1_0 W b0_0' b1_0' hm
  refine (G.mosaiclaw02_MarkerFree.calls a0_0 a1_0 W _ hs).calls.mono fun e W' ⟨r, he, ⟨hr, hk⟩, so⟩ => ?_
  subst hr
  have he : e = .returned (.bool true) := he
  subst he
  have bel : Below W.heap.size W W' := hk.below so
  exact ⟨_, rfl, _, _, _, [], _, [], hW', trodAll_mk1 (shut_bool Tryd.underlying4 _), G.trodAll_below (by kernel_rfl) bel _ _ _ _ (by kernel_rfl) hA1, rfl, bel.frame _, fun h => by cases h⟩
theorem over : Rows.markerFreeUptoRow.holds Tryd.pinned (Rows.OpenSpec.upto Rows.markerFreeSpec) :=
  OpenClaim.holds_of_cond 7 Tryd.f7 rfl rfl rfl rfl rfl rfl rfl ⟨rfl, rfl, rfl, rfl, rfl⟩ rfl rfl rfl rfl rfl (by kernel_rfl) Tryd.func7 (by kernel_rfl)
    (of_decide_eq_true (by kernel_rfl)) (by unfold Func.isWrapper; first | (rw [if_pos (by decide +kernel)]; kernel_rfl) | (rw [if_neg (by decide +kernel)]; exact ⟨rfl, rfl⟩))
    (fun os started H enc _ F => by rw [OpenClaim.pre_eq_preRow]; exact lifted os started H enc F)
theorem proved : Rows.MarkerFreeUptoCardSaid :=
  Claim7.holds_tied_plain_at .later [] [.data, .data, .data, .data, .pinned] true (true, "b7ba535c8873fee6a8480e219f6752128f3bdbfcb12dbdb19a713d3f2fc5c23e") false
    over (fun _ h => by cases h) (by kernel_rfl) (fun _ h => by cases h) markerFreeUpto_row_tie rfl ⟨rfl, rfl⟩ (by kernel_rfl) rfl
    (fun f fn hf hfn => by
      obtain rfl : f = 7 := Option.some.inj ((show Tryd.prog.funcNamed "mosaic/mosaiclaw02.MarkerFree" = some 7 by kernel_rfl).symm.trans hf) |>.symm
      obtain rfl : fn = Tryd.f7 := (Option.some.inj (Tryd.func7.symm.trans hfn)).symm
      exact ⟨by kernel_rfl, fun j t ht => by
        rw [Tryd.params7] at ht
        have h3 : t ∈ ([9, 9] : List TypeId) := by
          have := List.mem_of_getElem? (by simpa using ht : ([9, 9] : List TypeId)[j]? = some t)
          exact this
        have hall : ∀ t ∈ ([9, 9] : List TypeId), Tryd.prog.wantsStandIn t = false := by
          intro t ht
          simp only [List.mem_cons, List.mem_nil_iff, or_false] at ht
          rcases ht with rfl | rfl
          · exact (show Tryd.prog.wantsStandIn 9 = false by kernel_rfl)
          · exact (show Tryd.prog.wantsStandIn 9 = false by kernel_rfl)
        exact hall t h3⟩)
    (by kernel_rfl)
#print axioms proved
end Go.Proofs.YtkplpbnifinlbaaDoor.markerFree
namespace Go.Proofs.YtkplpbnifinlbaaDoor
theorem markerFree_holds : Rows.MarkerFreeUptoCardSaid := markerFree.proved
end Go.Proofs.YtkplpbnifinlbaaDoor
