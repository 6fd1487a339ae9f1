/- Proved: MarkerTells answers true for every input, does not panic, and what came in reads as it did. Conditions: those of the given statement alone. (Joined of two stages by a program of mine.) -/
import Derived.Test.YtkplpbnifinlbaaDoorRows
import Derived.Test.YtkplpbnifinlbaaDoorQMarkerTellsZ02u
import Derived.Test.YtkplpbnifinlbaaDoorQMarkerTellsGT
import Derived.WalkKit
import Derived.ProofKit
import Derived.OpenShut
import Derived.ChangeOld
import Derived.Below
import Derived.SizedLaws
import Derived.Deep.CondSized
import Derived.Test.YtkplpbnifinlbaaDoorTie
import Derived.Test.YtkplpbnifinlbaaDoorCards
import Derived.ChangeVars
import Derived.JoinedOf
import Derived.LaidLaws
import Derived.LaidHandle
import Derived.Lay
import Derived.SevenTiedAt
namespace Go.Proofs.YtkplpbnifinlbaaDoor.markerTells
open Go.ChangeShapes Go.WideShapes Go.ChangeAt Go.RowKit
set_option linter.unusedVariables false
theorem own : ownKnob Tryd.prog.godebug = none := by kernel_rfl
set_option maxRecDepth 100000 in
theorem lifted (os : Os) (started : os.Started) (H : Type) (enc : TypeId × Value → H) :
    ReturnsInHanded {} Tryd.checked os 4 .any (fun w args => (Rows.markerTellsSpec.pre enc Tryd.prog Tryd.f4 Rows.markerTellsRow.domain false w args ∧ laidMetH Tryd.prog Rows.markerTellsRow.laid w) ∧ sizedMet enc Tryd.prog Tryd.f4 (OpenSpec.ofChange Rows.markerTellsSpec) false w args) (Rows.markerTellsSpec.post enc Tryd.prog Tryd.f4 false true false false) := by
  refine returnsInHanded_of_change_and (C := Tryd.checked) (X := fun w _ => laidMetH Tryd.prog Rows.markerTellsRow.laid w) (fun _ _ _ hh h => h.of_heap hh) own started (by kernel_rfl) Tryd.func4
    (ChangeSpec.witness_shaped (enc := enc) (C := Tryd.checked) (os := os) (X := fun w _ => laidMetH Tryd.prog Rows.markerTellsRow.laid w) false (World.laidAll Tryd.prog os Rows.markerTellsRow.laid) #[.int .u8 0] 8 (World.laidAll_os _ _ _) (World.shaped_of_ZipB (by kernel_rfl) (by kernel_rfl)) (by kernel_rfl) (by kernel_rfl) (by kernel_rfl)
      (laidMetH_of_parts (by rw [show (Rows.markerTellsRow.laid.filter fun x => x.2.handleName?.isNone) = Rows.markerTellsRow.laid from rfl]; exact laidMet_laidAll _ (by kernel_rfl) (by kernel_rfl)) (by kernel_rfl))) ?_
  intro W base args ds gs before hval0 hW hcnd hsz0 _ _
  have hsz : (DataW.weightsEach Tryd.prog (Tryd.f4.params.toList ++ Rows.markerTellsSpec.plain.varTypes Tryd.prog) (ds ++ gs)).all (· ≤ reachBytes) = true := hsz0
  have hval : ∀ (j : Nat) t v, Tryd.f4.params[j]? = some t → args[j]? = some v → Value.okWide Tryd.prog W .any base t v := hval0
  have hW' := hW
  obtain ⟨p, q, hA0, hV, rfl, hfz, hnd⟩ := hW
  have hA : DataW.TrodAll enc Tryd.prog W 0 (fun _ => true) true Tryd.f4.params.toList args.toList ds p := hA0
  rw [Tryd.params4] at hA hval hsz
  have hA1 := hA
  obtain ⟨v0, vs0, d0, ds0, p0, q0, hargs, rfl, rfl, h0, r0⟩ := trodAll_cons hA
  obtain ⟨rfl, rfl, rfl⟩ := trodAll_nil r0
  obtain rfl : args = #[v0] := by cases args; simp_all
  obtain ⟨rfl, rfl⟩ := trodVars_none hV
  have hz : ∀ (j : Nat) (t : TypeId) d, ([5] : List TypeId)[j]? = some t → [d0][j]? = some d → G.Sz none Tryd.prog t d := fun j t d ht hd => G.sz_each hsz rfl j t d ht hd
  obtain ⟨a0_0, e0, b0_0⟩ := G.op5 (G.Rd.of h0 (hz 0 5 d0 rfl rfl))
  have e0' := G.open_scal Tryd.underlying5 rfl (hval 0 5 v0 rfl rfl) e0; subst e0'
  have hs : G.mosaiclaw02_MarkerTells.s a0_0 W.heap (fun r H' => r = true ∧ G.Keep W.heap H') := G.MarkerTells_row a0_0 W b0_0
  refine (G.mosaiclaw02_MarkerTells.calls a0_0 W _ hs).calls.mono fun e W' ⟨r, he, ⟨hr, hk⟩, so⟩ => ?_
  subst hr
  have he : e = .returned (.bool true) := he
  subst he
  have bel : Below W.heap.size W W' := hk.below so
  exact ⟨_, rfl, _, _, _, [], _, [], hW', trodAll_mk1 (shut_bool Tryd.underlying4 _), G.trodAll_below (by kernel_rfl) bel _ _ _ _ (by kernel_rfl) hA1, rfl, bel.frame _, fun h => by cases h⟩
theorem over : Rows.markerTellsRow.holds Tryd.pinned (OpenSpec.ofChange Rows.markerTellsSpec) :=
  OpenClaim.holds_of_wide 4 Tryd.f4 rfl rfl rfl rfl rfl rfl rfl ⟨rfl, rfl, rfl, rfl, rfl⟩ rfl rfl rfl rfl rfl (by kernel_rfl) Tryd.func4 (by kernel_rfl)
    (of_decide_eq_true (by kernel_rfl)) (by unfold Func.isWrapper; first | (rw [if_pos (by decide +kernel)]; kernel_rfl) | (rw [if_neg (by decide +kernel)]; exact ⟨rfl, rfl⟩))
    (fun os started H enc _ => lifted os started H enc)
theorem proved : Rows.MarkerTellsCardSaid :=
  Claim7.holds_tied_plain_at .later [] [.data, .data, .data] true (true, "b7ba535c8873fee6a8480e219f6752128f3bdbfcb12dbdb19a713d3f2fc5c23e") false
    over (fun _ h => by cases h) (by kernel_rfl) (fun _ h => by cases h) markerTells_row_tie rfl ⟨rfl, rfl⟩ (by kernel_rfl) rfl
    (fun f fn hf hfn => by
      obtain rfl : f = 4 := Option.some.inj ((show Tryd.prog.funcNamed "mosaic/mosaiclaw02.MarkerTells" = some 4 by kernel_rfl).symm.trans hf) |>.symm
      obtain rfl : fn = Tryd.f4 := (Option.some.inj (Tryd.func4.symm.trans hfn)).symm
      exact ⟨by kernel_rfl, fun j t ht => by
        rw [Tryd.params4] at ht
        have h3 : t ∈ ([5] : List TypeId) := by
          have := List.mem_of_getElem? (by simpa using ht : ([5] : List TypeId)[j]? = some t)
          exact this
        have hall : ∀ t ∈ ([5] : List TypeId), Tryd.prog.wantsStandIn t = false := by
          intro t ht
          simp only [List.mem_cons, List.mem_nil_iff, or_false] at ht
          subst ht
          · exact (show Tryd.prog.wantsStandIn 5 = false by kernel_rfl)
        exact hall t h3⟩)
    (by kernel_rfl)
#print axioms proved
end Go.Proofs.YtkplpbnifinlbaaDoor.markerTells
namespace Go.Proofs.YtkplpbnifinlbaaDoor
theorem markerTells_holds : Rows.MarkerTellsCardSaid := markerTells.proved
end Go.Proofs.YtkplpbnifinlbaaDoor
