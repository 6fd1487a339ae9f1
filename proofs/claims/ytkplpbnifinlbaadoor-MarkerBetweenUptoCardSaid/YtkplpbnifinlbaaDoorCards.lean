/-
  DERIVED. GIVEN WITH THE SEED: THE CARDS: each row of YtkplpbnifinlbaaDoorRows.lean that lists a variable, with what it lists TIED to the program's text (the seventh form; the later family's looks); each row that meets fmt, with fmt's text TOLD by the authors' own Lean function (tested against real Go, not proved from fmt's source: count such statements apart). THE CARD IS WHAT COUNTS. Prove the row's statement (the work); the ties are given (YtkplpbnifinlbaaDoorTie.lean); close each card by the builder's one call (the guide's Derived/Test/ToyasCard.lean, 'card_holds'). Laid BY PROGRAM, IN A SANDBOX (cutbox-door.mjs). By AI agents, Wed Nov 11 2026. No macro, syntax, notation, axiom, sorry.
-/
import Derived.Test.YtkplpbnifinlbaaDoorRows
import GoSem.ClaimSeven
namespace Go.Proofs.YtkplpbnifinlbaaDoor
namespace Rows

/-- THE TIED CARD OF 'mosaiclaw02.MarkerCodes'. -/
def markerCodesCard : Claim7 := { stood := { row := markerCodesRow, standIns := [], harness := (true, "b7ba535c8873fee6a8480e219f6752128f3bdbfcb12dbdb19a713d3f2fc5c23e"), looks := false }, kinds := [], alts := [], laidByText := true, laidKinds := [.data, .data, .data], laidTests := true, laidLooks := .later }
def MarkerCodesCardSaid : Prop := Claim7.holds Tryd.pinned (.plain (OpenSpec.ofChange markerCodesSpec)) markerCodesCard

/-- THE TIED CARD OF 'mosaiclaw02.MarkerTells'. -/
def markerTellsCard : Claim7 := { stood := { row := markerTellsRow, standIns := [], harness := (true, "b7ba535c8873fee6a8480e219f6752128f3bdbfcb12dbdb19a713d3f2fc5c23e"), looks := false }, kinds := [], alts := [], laidByText := true, laidKinds := [.data, .data, .data], laidTests := true, laidLooks := .later }
def MarkerTellsCardSaid : Prop := Claim7.holds Tryd.pinned (.plain (OpenSpec.ofChange markerTellsSpec)) markerTellsCard

/-- THE TIED CARD OF 'mosaiclaw02.MarkerStuffs'. -/
def markerStuffsCard : Claim7 := { stood := { row := markerStuffsRow, standIns := [], harness := (true, "b7ba535c8873fee6a8480e219f6752128f3bdbfcb12dbdb19a713d3f2fc5c23e"), looks := false }, kinds := [], alts := [], laidByText := true, laidKinds := [.data, .pinned], laidTests := true, laidLooks := .later }
def MarkerStuffsCardSaid : Prop := Claim7.holds Tryd.pinned (.plain (OpenSpec.ofChange markerStuffsSpec)) markerStuffsCard

/-- THE TIED CARD OF 'mosaiclaw02.MarkerRises'. -/
def markerRisesCard : Claim7 := { stood := { row := markerRisesRow, standIns := [], harness := (true, "b7ba535c8873fee6a8480e219f6752128f3bdbfcb12dbdb19a713d3f2fc5c23e"), looks := false }, kinds := [], alts := [], laidByText := true, laidKinds := [.data, .data, .data, .data, .pinned], laidTests := true, laidLooks := .later }
def MarkerRisesCardSaid : Prop := Claim7.holds Tryd.pinned (.plain (OpenSpec.ofChange markerRisesSpec)) markerRisesCard

/-- THE TIED CARD OF 'mosaiclaw02.MarkerFree'. -/
def markerFreeCard : Claim7 := { stood := { row := markerFreeRow, standIns := [], harness := (true, "b7ba535c8873fee6a8480e219f6752128f3bdbfcb12dbdb19a713d3f2fc5c23e"), looks := false }, kinds := [], alts := [], laidByText := true, laidKinds := [.data, .data, .data, .data, .pinned], laidTests := true, laidLooks := .later }
def MarkerFreeCardSaid : Prop := Claim7.holds Tryd.pinned (.plain (OpenSpec.ofChange markerFreeSpec)) markerFreeCard

/-- THE TIED CARD OF 'mosaiclaw02.MarkerApart'. -/
def markerApartCard : Claim7 := { stood := { row := markerApartRow, standIns := [], harness := (true, "b7ba535c8873fee6a8480e219f6752128f3bdbfcb12dbdb19a713d3f2fc5c23e"), looks := false }, kinds := [], alts := [], laidByText := true, laidKinds := [.data, .data, .data, .data, .pinned], laidTests := true, laidLooks := .later }
def MarkerApartCardSaid : Prop := Claim7.holds Tryd.pinned (.plain (OpenSpec.ofChange markerApartSpec)) markerApartCard

/-- THE TIED CARD OF 'mosaiclaw02.MarkerBetween'. -/
def markerBetweenCard : Claim7 := { stood := { row := markerBetweenRow, standIns := [], harness := (true, "b7ba535c8873fee6a8480e219f6752128f3bdbfcb12dbdb19a713d3f2fc5c23e"), looks := false }, kinds := [], alts := [], laidByText := true, laidKinds := [.data, .data, .data, .data, .pinned], laidTests := true, laidLooks := .later }
def MarkerBetweenCardSaid : Prop := Claim7.holds Tryd.pinned (.plain (OpenSpec.ofChange markerBetweenSpec)) markerBetweenCard

/-- THE SECOND FORM's CARD OF 'mosaiclaw02.MarkerCodes'. -/
def markerCodesUptoCard : Claim7 := { stood := { row := markerCodesUptoRow, standIns := [], harness := (true, "b7ba535c8873fee6a8480e219f6752128f3bdbfcb12dbdb19a713d3f2fc5c23e"), looks := false }, kinds := [], alts := [], laidByText := true, laidKinds := [.data, .data, .data], laidTests := true, laidLooks := .later }
def MarkerCodesUptoCardSaid : Prop := Claim7.holds Tryd.pinned (.plain (OpenSpec.upto markerCodesSpec)) markerCodesUptoCard

/-- THE SECOND FORM's CARD OF 'mosaiclaw02.MarkerTells'. -/
def markerTellsUptoCard : Claim7 := { stood := { row := markerTellsUptoRow, standIns := [], harness := (true, "b7ba535c8873fee6a8480e219f6752128f3bdbfcb12dbdb19a713d3f2fc5c23e"), looks := false }, kinds := [], alts := [], laidByText := true, laidKinds := [.data, .data, .data], laidTests := true, laidLooks := .later }
def MarkerTellsUptoCardSaid : Prop := Claim7.holds Tryd.pinned (.plain (OpenSpec.upto markerTellsSpec)) markerTellsUptoCard

/-- THE SECOND FORM's CARD OF 'mosaiclaw02.MarkerStuffs'. -/
def markerStuffsUptoCard : Claim7 := { stood := { row := markerStuffsUptoRow, standIns := [], harness := (true, "b7ba535c8873fee6a8480e219f6752128f3bdbfcb12dbdb19a713d3f2fc5c23e"), looks := false }, kinds := [], alts := [], laidByText := true, laidKinds := [.data, .pinned], laidTests := true, laidLooks := .later }
def MarkerStuffsUptoCardSaid : Prop := Claim7.holds Tryd.pinned (.plain (OpenSpec.upto markerStuffsSpec)) markerStuffsUptoCard

/-- THE SECOND FORM's CARD OF 'mosaiclaw02.MarkerRises'. -/
def markerRisesUptoCard : Claim7 := { stood := { row := markerRisesUptoRow, standIns := [], harness := (true, "b7ba535c8873fee6a8480e219f6752128f3bdbfcb12dbdb19a713d3f2fc5c23e"), looks := false }, kinds := [], alts := [], laidByText := true, laidKinds := [.data, .data, .data, .data, .pinned], laidTests := true, laidLooks := .later }
def MarkerRisesUptoCardSaid : Prop := Claim7.holds Tryd.pinned (.plain (OpenSpec.upto markerRisesSpec)) markerRisesUptoCard

/-- THE SECOND FORM's CARD OF 'mosaiclaw02.MarkerFree'. -/
def markerFreeUptoCard : Claim7 := { stood := { row := markerFreeUptoRow, standIns := [], harness := (true, "b7ba535c8873fee6a8480e219f6752128f3bdbfcb12dbdb19a713d3f2fc5c23e"), looks := false }, kinds := [], alts := [], laidByText := true, laidKinds := [.data, .data, .data, .data, .pinned], laidTests := true, laidLooks := .later }
def MarkerFreeUptoCardSaid : Prop := Claim7.holds Tryd.pinned (.plain (OpenSpec.upto markerFreeSpec)) markerFreeUptoCard

/-- THE SECOND FORM's CARD OF 'mosaiclaw02.MarkerApart'. -/
def markerApartUptoCard : Claim7 := { stood := { row := markerApartUptoRow, standIns := [], harness := (true, "b7ba535c8873fee6a8480e219f6752128f3bdbfcb12dbdb19a713d3f2fc5c23e"), looks := false }, kinds := [], alts := [], laidByText := true, laidKinds := [.data, .data, .data, .data, .pinned], laidTests := true, laidLooks := .later }
def MarkerApartUptoCardSaid : Prop := Claim7.holds Tryd.pinned (.plain (OpenSpec.upto markerApartSpec)) markerApartUptoCard

/-- THE SECOND FORM's CARD OF 'mosaiclaw02.MarkerBetween'. -/
def markerBetweenUptoCard : Claim7 := { stood := { row := markerBetweenUptoRow, standIns := [], harness := (true, "b7ba535c8873fee6a8480e219f6752128f3bdbfcb12dbdb19a713d3f2fc5c23e"), looks := false }, kinds := [], alts := [], laidByText := true, laidKinds := [.data, .data, .data, .data, .pinned], laidTests := true, laidLooks := .later }
def MarkerBetweenUptoCardSaid : Prop := Claim7.holds Tryd.pinned (.plain (OpenSpec.upto markerBetweenSpec)) markerBetweenUptoCard
end Rows
end Go.Proofs.YtkplpbnifinlbaaDoor
