/-
  DERIVED. GIVEN WITH THE SEED: THE CARDS: each row of YtkdelpdbjfpgmaaGreatDoorRows.lean that lists a variable, with what it lists TIED to the program's text (the seventh form; the later family's looks); each row that meets fmt, with fmt's text TOLD by the authors' own Lean function (tested against real Go, not proved from fmt's source: count such statements apart). THE CARD IS WHAT COUNTS. Prove the row's statement (the work); the ties are given (YtkdelpdbjfpgmaaGreatDoorTie.lean); close each card by the builder's one call (the guide's Derived/Test/ToyasCard.lean, 'card_holds'). Laid BY PROGRAM, IN A SANDBOX (cutbox-door.mjs). By AI agents, Wed Nov 11 2026. No macro, syntax, notation, axiom, sorry.
-/
import Derived.Test.YtkdelpdbjfpgmaaGreatDoorRows
import GoSem.ClaimSeven
namespace Go.Proofs.YtkdelpdbjfpgmaaGreatDoor
namespace Rows

/-- THE TIED CARD OF 'anvillaw18.CheckUnits'. -/
def checkUnitsCard : Claim7 := { stood := { row := checkUnitsRow, standIns := [], harness := (true, "50220713841f633524ba5ad9a117c17cec0653f1e5868315b33fc5fdb61f5e7c"), looks := false }, kinds := [], alts := [], laidByText := true, laidKinds := [.data, .data], laidTests := true, laidLooks := .later }
def CheckUnitsCardSaid : Prop := Claim7.holds Tryz.pinned (.plain (OpenSpec.ofChange checkUnitsSpec)) checkUnitsCard

/-- THE TIED CARD OF 'anvillaw18.CheckAccepts'. -/
def checkAcceptsCard : Claim7 := { stood := { row := checkAcceptsRow, standIns := [], harness := (true, "50220713841f633524ba5ad9a117c17cec0653f1e5868315b33fc5fdb61f5e7c"), looks := false }, kinds := [], alts := [], laidByText := true, laidKinds := [.data, .data], laidTests := true, laidLooks := .later }
def CheckAcceptsCardSaid : Prop := Claim7.holds Tryz.pinned (.plain (OpenSpec.ofChange checkAcceptsSpec)) checkAcceptsCard

/-- THE TIED CARD OF 'anvillaw18.CheckKnown'. -/
def checkKnownCard : Claim7 := { stood := { row := checkKnownRow, standIns := [], harness := (true, "50220713841f633524ba5ad9a117c17cec0653f1e5868315b33fc5fdb61f5e7c"), looks := false }, kinds := [], alts := [], laidByText := true, laidKinds := [.data, .data], laidTests := true, laidLooks := .later }
def CheckKnownCardSaid : Prop := Claim7.holds Tryz.pinned (.plain (OpenSpec.ofChange checkKnownSpec)) checkKnownCard

/-- THE TIED CARD OF 'anvillaw18.CheckCompiles'. -/
def checkCompilesCard : Claim7 := { stood := { row := checkCompilesRow, standIns := [], harness := (true, "50220713841f633524ba5ad9a117c17cec0653f1e5868315b33fc5fdb61f5e7c"), looks := false }, kinds := [], alts := [], laidByText := true, laidKinds := [.data, .data], laidTests := true, laidLooks := .later }
def CheckCompilesCardSaid : Prop := Claim7.holds Tryz.pinned (.plain (OpenSpec.ofChange checkCompilesSpec)) checkCompilesCard

/-- THE TIED CARD OF 'anvillaw18.CheckRuns'. -/
def checkRunsCard : Claim7 := { stood := { row := checkRunsRow, standIns := [], harness := (true, "50220713841f633524ba5ad9a117c17cec0653f1e5868315b33fc5fdb61f5e7c"), looks := false }, kinds := [], alts := [], laidByText := true, laidKinds := [.data, .data], laidTests := true, laidLooks := .later }
def CheckRunsCardSaid : Prop := Claim7.holds Tryz.pinned (.plain (OpenSpec.ofChange checkRunsSpec)) checkRunsCard

/-- THE TIED CARD OF 'anvillaw18.CheckKept'. -/
def checkKeptCard : Claim7 := { stood := { row := checkKeptRow, standIns := [], harness := (true, "50220713841f633524ba5ad9a117c17cec0653f1e5868315b33fc5fdb61f5e7c"), looks := false }, kinds := [], alts := [], laidByText := true, laidKinds := [.data, .data], laidTests := true, laidLooks := .later }
def CheckKeptCardSaid : Prop := Claim7.holds Tryz.pinned (.plain (OpenSpec.ofChange checkKeptSpec)) checkKeptCard

/-- THE TIED CARD OF 'anvillaw18.CheckPassed'. -/
def checkPassedCard : Claim7 := { stood := { row := checkPassedRow, standIns := [], harness := (true, "50220713841f633524ba5ad9a117c17cec0653f1e5868315b33fc5fdb61f5e7c"), looks := false }, kinds := [], alts := [], laidByText := true, laidKinds := [.data, .data], laidTests := true, laidLooks := .later }
def CheckPassedCardSaid : Prop := Claim7.holds Tryz.pinned (.plain (OpenSpec.ofChange checkPassedSpec)) checkPassedCard

/-- THE SECOND FORM's CARD OF 'anvillaw18.CheckUnits'. -/
def checkUnitsUptoCard : Claim7 := { stood := { row := checkUnitsUptoRow, standIns := [], harness := (true, "50220713841f633524ba5ad9a117c17cec0653f1e5868315b33fc5fdb61f5e7c"), looks := false }, kinds := [], alts := [], laidByText := true, laidKinds := [.data, .data], laidTests := true, laidLooks := .later }
def CheckUnitsUptoCardSaid : Prop := Claim7.holds Tryz.pinned (.plain (OpenSpec.upto checkUnitsSpec)) checkUnitsUptoCard

/-- THE SECOND FORM's CARD OF 'anvillaw18.CheckAccepts'. -/
def checkAcceptsUptoCard : Claim7 := { stood := { row := checkAcceptsUptoRow, standIns := [], harness := (true, "50220713841f633524ba5ad9a117c17cec0653f1e5868315b33fc5fdb61f5e7c"), looks := false }, kinds := [], alts := [], laidByText := true, laidKinds := [.data, .data], laidTests := true, laidLooks := .later }
def CheckAcceptsUptoCardSaid : Prop := Claim7.holds Tryz.pinned (.plain (OpenSpec.upto checkAcceptsSpec)) checkAcceptsUptoCard

/-- THE SECOND FORM's CARD OF 'anvillaw18.CheckKnown'. -/
def checkKnownUptoCard : Claim7 := { stood := { row := checkKnownUptoRow, standIns := [], harness := (true, "50220713841f633524ba5ad9a117c17cec0653f1e5868315b33fc5fdb61f5e7c"), looks := false }, kinds := [], alts := [], laidByText := true, laidKinds := [.data, .data], laidTests := true, laidLooks := .later }
def CheckKnownUptoCardSaid : Prop := Claim7.holds Tryz.pinned (.plain (OpenSpec.upto checkKnownSpec)) checkKnownUptoCard

/-- THE SECOND FORM's CARD OF 'anvillaw18.CheckCompiles'. -/
def checkCompilesUptoCard : Claim7 := { stood := { row := checkCompilesUptoRow, standIns := [], harness := (true, "50220713841f633524ba5ad9a117c17cec0653f1e5868315b33fc5fdb61f5e7c"), looks := false }, kinds := [], alts := [], laidByText := true, laidKinds := [.data, .data], laidTests := true, laidLooks := .later }
def CheckCompilesUptoCardSaid : Prop := Claim7.holds Tryz.pinned (.plain (OpenSpec.upto checkCompilesSpec)) checkCompilesUptoCard

/-- THE SECOND FORM's CARD OF 'anvillaw18.CheckRuns'. -/
def checkRunsUptoCard : Claim7 := { stood := { row := checkRunsUptoRow, standIns := [], harness := (true, "50220713841f633524ba5ad9a117c17cec0653f1e5868315b33fc5fdb61f5e7c"), looks := false }, kinds := [], alts := [], laidByText := true, laidKinds := [.data, .data], laidTests := true, laidLooks := .later }
def CheckRunsUptoCardSaid : Prop := Claim7.holds Tryz.pinned (.plain (OpenSpec.upto checkRunsSpec)) checkRunsUptoCard

/-- THE SECOND FORM's CARD OF 'anvillaw18.CheckKept'. -/
def checkKeptUptoCard : Claim7 := { stood := { row := checkKeptUptoRow, standIns := [], harness := (true, "50220713841f633524ba5ad9a117c17cec0653f1e5868315b33fc5fdb61f5e7c"), looks := false }, kinds := [], alts := [], laidByText := true, laidKinds := [.data, .data], laidTests := true, laidLooks := .later }
def CheckKeptUptoCardSaid : Prop := Claim7.holds Tryz.pinned (.plain (OpenSpec.upto checkKeptSpec)) checkKeptUptoCard

/-- THE SECOND FORM's CARD OF 'anvillaw18.CheckPassed'. -/
def checkPassedUptoCard : Claim7 := { stood := { row := checkPassedUptoRow, standIns := [], harness := (true, "50220713841f633524ba5ad9a117c17cec0653f1e5868315b33fc5fdb61f5e7c"), looks := false }, kinds := [], alts := [], laidByText := true, laidKinds := [.data, .data], laidTests := true, laidLooks := .later }
def CheckPassedUptoCardSaid : Prop := Claim7.holds Tryz.pinned (.plain (OpenSpec.upto checkPassedSpec)) checkPassedUptoCard
end Rows
end Go.Proofs.YtkdelpdbjfpgmaaGreatDoor
