/-
  DERIVED. GIVEN WITH THE SEED: THE CARDS: each row of YteopmbmglienmaaGreatDoorRows.lean that lists a variable, with what it lists TIED to the program's text (the seventh form; the later family's looks); each row that meets fmt, with fmt's text TOLD by the authors' own Lean function (tested against real Go, not proved from fmt's source: count such statements apart). THE CARD IS WHAT COUNTS. Prove the row's statement (the work); the ties are given (YteopmbmglienmaaGreatDoorTie.lean); close each card by the builder's one call (the guide's Derived/Test/ToyasCard.lean, 'card_holds'). Laid BY PROGRAM, IN A SANDBOX (cutbox-door.mjs). By AI agents, Wed Nov 11 2026. No macro, syntax, notation, axiom, sorry.
-/
import Derived.Test.YteopmbmglienmaaGreatDoorRows
import GoSem.ClaimSeven
namespace Go.Proofs.YteopmbmglienmaaGreatDoor
namespace Rows

/-- THE TIED CARD OF 'anvillaw22.ToomKnown'. -/
def toomKnownCard : Claim7 := { stood := { row := toomKnownRow, standIns := [], harness := (true, "3990859b43f06db2a7de8fb84c767375bc58e14ad29246adf36789c152ecff3b"), looks := false }, kinds := [], alts := [], laidByText := true, laidKinds := [.data, .data, .data, .pinned], laidTests := true, laidLooks := .later }
def ToomKnownCardSaid : Prop := Claim7.holds Tryz.pinned (.plain (OpenSpec.ofChange toomKnownSpec)) toomKnownCard

/-- THE TIED CARD OF 'anvillaw26.NumberKnown'. -/
def numberKnownCard : Claim7 := { stood := { row := numberKnownRow, standIns := [], harness := (true, "3990859b43f06db2a7de8fb84c767375bc58e14ad29246adf36789c152ecff3b"), looks := false }, kinds := [], alts := [], laidByText := true, laidKinds := [.data, .data, .data, .pinned], laidTests := true, laidLooks := .later }
def NumberKnownCardSaid : Prop := Claim7.holds Tryz.pinned (.plain (OpenSpec.ofChange numberKnownSpec)) numberKnownCard

/-- THE SECOND FORM's CARD OF 'anvillaw22.ToomKnown'. -/
def toomKnownUptoCard : Claim7 := { stood := { row := toomKnownUptoRow, standIns := [], harness := (true, "3990859b43f06db2a7de8fb84c767375bc58e14ad29246adf36789c152ecff3b"), looks := false }, kinds := [], alts := [], laidByText := true, laidKinds := [.data, .data, .data, .pinned], laidTests := true, laidLooks := .later }
def ToomKnownUptoCardSaid : Prop := Claim7.holds Tryz.pinned (.plain (OpenSpec.upto toomKnownSpec)) toomKnownUptoCard

/-- THE SECOND FORM's CARD OF 'anvillaw26.NumberKnown'. -/
def numberKnownUptoCard : Claim7 := { stood := { row := numberKnownUptoRow, standIns := [], harness := (true, "3990859b43f06db2a7de8fb84c767375bc58e14ad29246adf36789c152ecff3b"), looks := false }, kinds := [], alts := [], laidByText := true, laidKinds := [.data, .data, .data, .pinned], laidTests := true, laidLooks := .later }
def NumberKnownUptoCardSaid : Prop := Claim7.holds Tryz.pinned (.plain (OpenSpec.upto numberKnownSpec)) numberKnownUptoCard
end Rows
end Go.Proofs.YteopmbmglienmaaGreatDoor
