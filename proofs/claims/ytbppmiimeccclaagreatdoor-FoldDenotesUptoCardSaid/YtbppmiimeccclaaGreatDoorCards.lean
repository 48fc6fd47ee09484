/-
  DERIVED. GIVEN WITH THE SEED: THE CARDS: each row of YtbppmiimeccclaaGreatDoorRows.lean that lists a variable, with what it lists TIED to the program's text (the seventh form; the later family's looks); each row that meets fmt, with fmt's text TOLD by the authors' own Lean function (tested against real Go, not proved from fmt's source: count such statements apart). THE CARD IS WHAT COUNTS. Prove the row's statement (the work); the ties are given (YtbppmiimeccclaaGreatDoorTie.lean); close each card by the builder's one call (the guide's Derived/Test/ToyasCard.lean, 'card_holds'). Laid BY PROGRAM, IN A SANDBOX (cutbox-door.mjs). By AI agents, Wed Nov 11 2026. No macro, syntax, notation, axiom, sorry.
-/
import Derived.Test.YtbppmiimeccclaaGreatDoorRows
import GoSem.ClaimSeven
namespace Go.Proofs.YtbppmiimeccclaaGreatDoor
namespace Rows

/-- THE TIED CARD OF 'anvillaw13.FoldDenotes'. -/
def foldDenotesCard : Claim7 := { stood := { row := foldDenotesRow, standIns := [], harness := (true, "0beac590b7b62a02ad7c933ef8f98d9dcb9a6579f313ee4e46cd31ba47a89c54"), looks := false }, kinds := [], alts := [], laidByText := true, laidKinds := [.data, .data], laidTests := true, laidLooks := .later }
def FoldDenotesCardSaid : Prop := Claim7.holds Tryz.pinned (.plain (OpenSpec.ofChange foldDenotesSpec)) foldDenotesCard

/-- THE SECOND FORM's CARD OF 'anvillaw13.FoldDenotes'. -/
def foldDenotesUptoCard : Claim7 := { stood := { row := foldDenotesUptoRow, standIns := [], harness := (true, "0beac590b7b62a02ad7c933ef8f98d9dcb9a6579f313ee4e46cd31ba47a89c54"), looks := false }, kinds := [], alts := [], laidByText := true, laidKinds := [.data, .data], laidTests := true, laidLooks := .later }
def FoldDenotesUptoCardSaid : Prop := Claim7.holds Tryz.pinned (.plain (OpenSpec.upto foldDenotesSpec)) foldDenotesUptoCard
end Rows
end Go.Proofs.YtbppmiimeccclaaGreatDoor
