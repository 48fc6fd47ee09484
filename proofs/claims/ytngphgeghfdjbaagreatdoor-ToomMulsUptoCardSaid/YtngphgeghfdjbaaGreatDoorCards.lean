/-
  DERIVED. GIVEN WITH THE SEED: THE CARDS: each row of YtngphgeghfdjbaaGreatDoorRows.lean that lists a variable, with what it lists TIED to the program's text (the seventh form; the later family's looks); each row that meets fmt, with fmt's text TOLD by the authors' own Lean function (tested against real Go, not proved from fmt's source: count such statements apart). THE CARD IS WHAT COUNTS. Prove the row's statement (the work); the ties are given (YtngphgeghfdjbaaGreatDoorTie.lean); close each card by the builder's one call (the guide's Derived/Test/ToyasCard.lean, 'card_holds'). Laid BY PROGRAM, IN A SANDBOX (cutbox-door.mjs). By AI agents, Wed Nov 11 2026. No macro, syntax, notation, axiom, sorry.
-/
import Derived.Test.YtngphgeghfdjbaaGreatDoorRows
import GoSem.ClaimSeven
namespace Go.Proofs.YtngphgeghfdjbaaGreatDoor
namespace Rows

/-- THE TIED CARD OF 'anvillaw22.ToomMuls'. -/
def toomMulsCard : Claim7 := { stood := { row := toomMulsRow, standIns := [], harness := (true, "1aaaecf0579e77878cf1c2d3bebdf769d6189d8dd5579b384a9684b621240257"), looks := false }, kinds := [], alts := [], laidByText := true, laidKinds := [.data, .data, .data, .pinned], laidTests := true, laidLooks := .later }
def ToomMulsCardSaid : Prop := Claim7.holds Tryz.pinned (.plain (OpenSpec.ofChange toomMulsSpec)) toomMulsCard

/-- THE TIED CARD OF 'anvillaw22.ToomNews'. -/
def toomNewsCard : Claim7 := { stood := { row := toomNewsRow, standIns := [], harness := (true, "1aaaecf0579e77878cf1c2d3bebdf769d6189d8dd5579b384a9684b621240257"), looks := false }, kinds := [], alts := [], laidByText := true, laidKinds := [.data, .data, .data, .pinned], laidTests := true, laidLooks := .later }
def ToomNewsCardSaid : Prop := Claim7.holds Tryz.pinned (.plain (OpenSpec.ofChange toomNewsSpec)) toomNewsCard

/-- THE TIED CARD OF 'anvillaw22.ToomLevels'. -/
def toomLevelsCard : Claim7 := { stood := { row := toomLevelsRow, standIns := [], harness := (true, "1aaaecf0579e77878cf1c2d3bebdf769d6189d8dd5579b384a9684b621240257"), looks := false }, kinds := [], alts := [], laidByText := true, laidKinds := [.data, .data, .data, .pinned], laidTests := true, laidLooks := .later }
def ToomLevelsCardSaid : Prop := Claim7.holds Tryz.pinned (.plain (OpenSpec.ofChange toomLevelsSpec)) toomLevelsCard

/-- THE TIED CARD OF 'anvillaw22.ToomForetells'. -/
def toomForetellsCard : Claim7 := { stood := { row := toomForetellsRow, standIns := [], harness := (true, "1aaaecf0579e77878cf1c2d3bebdf769d6189d8dd5579b384a9684b621240257"), looks := false }, kinds := [], alts := [], laidByText := true, laidKinds := [.data, .data, .data, .pinned], laidTests := true, laidLooks := .later }
def ToomForetellsCardSaid : Prop := Claim7.holds Tryz.pinned (.plain (OpenSpec.ofChange toomForetellsSpec)) toomForetellsCard

/-- THE TIED CARD OF 'anvillaw22.ToomAlike'. -/
def toomAlikeCard : Claim7 := { stood := { row := toomAlikeRow, standIns := [], harness := (true, "1aaaecf0579e77878cf1c2d3bebdf769d6189d8dd5579b384a9684b621240257"), looks := false }, kinds := [], alts := [], laidByText := true, laidKinds := [.data, .data, .data, .pinned], laidTests := true, laidLooks := .later }
def ToomAlikeCardSaid : Prop := Claim7.holds Tryz.pinned (.plain (OpenSpec.ofChange toomAlikeSpec)) toomAlikeCard

/-- THE TIED CARD OF 'anvillaw22.ToomCounts'. -/
def toomCountsCard : Claim7 := { stood := { row := toomCountsRow, standIns := [], harness := (true, "1aaaecf0579e77878cf1c2d3bebdf769d6189d8dd5579b384a9684b621240257"), looks := false }, kinds := [], alts := [], laidByText := true, laidKinds := [.data, .data, .data, .pinned], laidTests := true, laidLooks := .later }
def ToomCountsCardSaid : Prop := Claim7.holds Tryz.pinned (.plain (OpenSpec.ofChange toomCountsSpec)) toomCountsCard

/-- THE TIED CARD OF 'anvillaw22.ToomClosed'. -/
def toomClosedCard : Claim7 := { stood := { row := toomClosedRow, standIns := [], harness := (true, "1aaaecf0579e77878cf1c2d3bebdf769d6189d8dd5579b384a9684b621240257"), looks := false }, kinds := [], alts := [], laidByText := true, laidKinds := [.data, .data, .data, .pinned], laidTests := true, laidLooks := .later }
def ToomClosedCardSaid : Prop := Claim7.holds Tryz.pinned (.plain (OpenSpec.ofChange toomClosedSpec)) toomClosedCard

/-- THE TIED CARD OF 'anvillaw26.NumberMuls'. -/
def numberMulsCard : Claim7 := { stood := { row := numberMulsRow, standIns := [], harness := (true, "1aaaecf0579e77878cf1c2d3bebdf769d6189d8dd5579b384a9684b621240257"), looks := false }, kinds := [], alts := [], laidByText := true, laidKinds := [.data, .data, .data, .pinned], laidTests := true, laidLooks := .later }
def NumberMulsCardSaid : Prop := Claim7.holds Tryz.pinned (.plain (OpenSpec.ofChange numberMulsSpec)) numberMulsCard

/-- THE TIED CARD OF 'anvillaw26.NumberBack'. -/
def numberBackCard : Claim7 := { stood := { row := numberBackRow, standIns := [], harness := (true, "1aaaecf0579e77878cf1c2d3bebdf769d6189d8dd5579b384a9684b621240257"), looks := false }, kinds := [], alts := [], laidByText := true, laidKinds := [.data, .data, .data, .pinned], laidTests := true, laidLooks := .later }
def NumberBackCardSaid : Prop := Claim7.holds Tryz.pinned (.plain (OpenSpec.ofChange numberBackSpec)) numberBackCard

/-- THE TIED CARD OF 'anvillaw26.NumberCuts'. -/
def numberCutsCard : Claim7 := { stood := { row := numberCutsRow, standIns := [], harness := (true, "1aaaecf0579e77878cf1c2d3bebdf769d6189d8dd5579b384a9684b621240257"), looks := false }, kinds := [], alts := [], laidByText := true, laidKinds := [.data, .data, .data, .pinned], laidTests := true, laidLooks := .later }
def NumberCutsCardSaid : Prop := Claim7.holds Tryz.pinned (.plain (OpenSpec.ofChange numberCutsSpec)) numberCutsCard

/-- THE TIED CARD OF 'anvillaw26.NumberPows'. -/
def numberPowsCard : Claim7 := { stood := { row := numberPowsRow, standIns := [], harness := (true, "1aaaecf0579e77878cf1c2d3bebdf769d6189d8dd5579b384a9684b621240257"), looks := false }, kinds := [], alts := [], laidByText := true, laidKinds := [.data, .data, .data, .pinned], laidTests := true, laidLooks := .later }
def NumberPowsCardSaid : Prop := Claim7.holds Tryz.pinned (.plain (OpenSpec.ofChange numberPowsSpec)) numberPowsCard

/-- THE TIED CARD OF 'anvillaw26.NumberProduct'. -/
def numberProductCard : Claim7 := { stood := { row := numberProductRow, standIns := [], harness := (true, "1aaaecf0579e77878cf1c2d3bebdf769d6189d8dd5579b384a9684b621240257"), looks := false }, kinds := [], alts := [], laidByText := true, laidKinds := [.data, .data, .data, .pinned], laidTests := true, laidLooks := .later }
def NumberProductCardSaid : Prop := Claim7.holds Tryz.pinned (.plain (OpenSpec.ofChange numberProductSpec)) numberProductCard

/-- THE TIED CARD OF 'anvillaw26.NumberPower'. -/
def numberPowerCard : Claim7 := { stood := { row := numberPowerRow, standIns := [], harness := (true, "1aaaecf0579e77878cf1c2d3bebdf769d6189d8dd5579b384a9684b621240257"), looks := false }, kinds := [], alts := [], laidByText := true, laidKinds := [.data, .data, .data, .pinned], laidTests := true, laidLooks := .later }
def NumberPowerCardSaid : Prop := Claim7.holds Tryz.pinned (.plain (OpenSpec.ofChange numberPowerSpec)) numberPowerCard

/-- THE SECOND FORM's CARD OF 'anvillaw22.ToomMuls'. -/
def toomMulsUptoCard : Claim7 := { stood := { row := toomMulsUptoRow, standIns := [], harness := (true, "1aaaecf0579e77878cf1c2d3bebdf769d6189d8dd5579b384a9684b621240257"), looks := false }, kinds := [], alts := [], laidByText := true, laidKinds := [.data, .data, .data, .pinned], laidTests := true, laidLooks := .later }
def ToomMulsUptoCardSaid : Prop := Claim7.holds Tryz.pinned (.plain (OpenSpec.upto toomMulsSpec)) toomMulsUptoCard

/-- THE SECOND FORM's CARD OF 'anvillaw22.ToomNews'. -/
def toomNewsUptoCard : Claim7 := { stood := { row := toomNewsUptoRow, standIns := [], harness := (true, "1aaaecf0579e77878cf1c2d3bebdf769d6189d8dd5579b384a9684b621240257"), looks := false }, kinds := [], alts := [], laidByText := true, laidKinds := [.data, .data, .data, .pinned], laidTests := true, laidLooks := .later }
def ToomNewsUptoCardSaid : Prop := Claim7.holds Tryz.pinned (.plain (OpenSpec.upto toomNewsSpec)) toomNewsUptoCard

/-- THE SECOND FORM's CARD OF 'anvillaw22.ToomLevels'. -/
def toomLevelsUptoCard : Claim7 := { stood := { row := toomLevelsUptoRow, standIns := [], harness := (true, "1aaaecf0579e77878cf1c2d3bebdf769d6189d8dd5579b384a9684b621240257"), looks := false }, kinds := [], alts := [], laidByText := true, laidKinds := [.data, .data, .data, .pinned], laidTests := true, laidLooks := .later }
def ToomLevelsUptoCardSaid : Prop := Claim7.holds Tryz.pinned (.plain (OpenSpec.upto toomLevelsSpec)) toomLevelsUptoCard

/-- THE SECOND FORM's CARD OF 'anvillaw22.ToomForetells'. -/
def toomForetellsUptoCard : Claim7 := { stood := { row := toomForetellsUptoRow, standIns := [], harness := (true, "1aaaecf0579e77878cf1c2d3bebdf769d6189d8dd5579b384a9684b621240257"), looks := false }, kinds := [], alts := [], laidByText := true, laidKinds := [.data, .data, .data, .pinned], laidTests := true, laidLooks := .later }
def ToomForetellsUptoCardSaid : Prop := Claim7.holds Tryz.pinned (.plain (OpenSpec.upto toomForetellsSpec)) toomForetellsUptoCard

/-- THE SECOND FORM's CARD OF 'anvillaw22.ToomAlike'. -/
def toomAlikeUptoCard : Claim7 := { stood := { row := toomAlikeUptoRow, standIns := [], harness := (true, "1aaaecf0579e77878cf1c2d3bebdf769d6189d8dd5579b384a9684b621240257"), looks := false }, kinds := [], alts := [], laidByText := true, laidKinds := [.data, .data, .data, .pinned], laidTests := true, laidLooks := .later }
def ToomAlikeUptoCardSaid : Prop := Claim7.holds Tryz.pinned (.plain (OpenSpec.upto toomAlikeSpec)) toomAlikeUptoCard

/-- THE SECOND FORM's CARD OF 'anvillaw22.ToomCounts'. -/
def toomCountsUptoCard : Claim7 := { stood := { row := toomCountsUptoRow, standIns := [], harness := (true, "1aaaecf0579e77878cf1c2d3bebdf769d6189d8dd5579b384a9684b621240257"), looks := false }, kinds := [], alts := [], laidByText := true, laidKinds := [.data, .data, .data, .pinned], laidTests := true, laidLooks := .later }
def ToomCountsUptoCardSaid : Prop := Claim7.holds Tryz.pinned (.plain (OpenSpec.upto toomCountsSpec)) toomCountsUptoCard

/-- THE SECOND FORM's CARD OF 'anvillaw22.ToomClosed'. -/
def toomClosedUptoCard : Claim7 := { stood := { row := toomClosedUptoRow, standIns := [], harness := (true, "1aaaecf0579e77878cf1c2d3bebdf769d6189d8dd5579b384a9684b621240257"), looks := false }, kinds := [], alts := [], laidByText := true, laidKinds := [.data, .data, .data, .pinned], laidTests := true, laidLooks := .later }
def ToomClosedUptoCardSaid : Prop := Claim7.holds Tryz.pinned (.plain (OpenSpec.upto toomClosedSpec)) toomClosedUptoCard

/-- THE SECOND FORM's CARD OF 'anvillaw26.NumberMuls'. -/
def numberMulsUptoCard : Claim7 := { stood := { row := numberMulsUptoRow, standIns := [], harness := (true, "1aaaecf0579e77878cf1c2d3bebdf769d6189d8dd5579b384a9684b621240257"), looks := false }, kinds := [], alts := [], laidByText := true, laidKinds := [.data, .data, .data, .pinned], laidTests := true, laidLooks := .later }
def NumberMulsUptoCardSaid : Prop := Claim7.holds Tryz.pinned (.plain (OpenSpec.upto numberMulsSpec)) numberMulsUptoCard

/-- THE SECOND FORM's CARD OF 'anvillaw26.NumberBack'. -/
def numberBackUptoCard : Claim7 := { stood := { row := numberBackUptoRow, standIns := [], harness := (true, "1aaaecf0579e77878cf1c2d3bebdf769d6189d8dd5579b384a9684b621240257"), looks := false }, kinds := [], alts := [], laidByText := true, laidKinds := [.data, .data, .data, .pinned], laidTests := true, laidLooks := .later }
def NumberBackUptoCardSaid : Prop := Claim7.holds Tryz.pinned (.plain (OpenSpec.upto numberBackSpec)) numberBackUptoCard

/-- THE SECOND FORM's CARD OF 'anvillaw26.NumberCuts'. -/
def numberCutsUptoCard : Claim7 := { stood := { row := numberCutsUptoRow, standIns := [], harness := (true, "1aaaecf0579e77878cf1c2d3bebdf769d6189d8dd5579b384a9684b621240257"), looks := false }, kinds := [], alts := [], laidByText := true, laidKinds := [.data, .data, .data, .pinned], laidTests := true, laidLooks := .later }
def NumberCutsUptoCardSaid : Prop := Claim7.holds Tryz.pinned (.plain (OpenSpec.upto numberCutsSpec)) numberCutsUptoCard

/-- THE SECOND FORM's CARD OF 'anvillaw26.NumberPows'. -/
def numberPowsUptoCard : Claim7 := { stood := { row := numberPowsUptoRow, standIns := [], harness := (true, "1aaaecf0579e77878cf1c2d3bebdf769d6189d8dd5579b384a9684b621240257"), looks := false }, kinds := [], alts := [], laidByText := true, laidKinds := [.data, .data, .data, .pinned], laidTests := true, laidLooks := .later }
def NumberPowsUptoCardSaid : Prop := Claim7.holds Tryz.pinned (.plain (OpenSpec.upto numberPowsSpec)) numberPowsUptoCard

/-- THE SECOND FORM's CARD OF 'anvillaw26.NumberProduct'. -/
def numberProductUptoCard : Claim7 := { stood := { row := numberProductUptoRow, standIns := [], harness := (true, "1aaaecf0579e77878cf1c2d3bebdf769d6189d8dd5579b384a9684b621240257"), looks := false }, kinds := [], alts := [], laidByText := true, laidKinds := [.data, .data, .data, .pinned], laidTests := true, laidLooks := .later }
def NumberProductUptoCardSaid : Prop := Claim7.holds Tryz.pinned (.plain (OpenSpec.upto numberProductSpec)) numberProductUptoCard

/-- THE SECOND FORM's CARD OF 'anvillaw26.NumberPower'. -/
def numberPowerUptoCard : Claim7 := { stood := { row := numberPowerUptoRow, standIns := [], harness := (true, "1aaaecf0579e77878cf1c2d3bebdf769d6189d8dd5579b384a9684b621240257"), looks := false }, kinds := [], alts := [], laidByText := true, laidKinds := [.data, .data, .data, .pinned], laidTests := true, laidLooks := .later }
def NumberPowerUptoCardSaid : Prop := Claim7.holds Tryz.pinned (.plain (OpenSpec.upto numberPowerSpec)) numberPowerUptoCard
end Rows
end Go.Proofs.YtngphgeghfdjbaaGreatDoor
