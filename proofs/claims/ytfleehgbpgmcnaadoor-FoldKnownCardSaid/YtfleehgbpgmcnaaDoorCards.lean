/-
  DERIVED. GIVEN WITH THE SEED: THE CARDS: each row of YtfleehgbpgmcnaaDoorRows.lean that lists a variable, with what it lists TIED to the program's text (the seventh form; the later family's looks); each row that meets fmt, with fmt's text TOLD by the authors' own Lean function (tested against real Go, not proved from fmt's source: count such statements apart). THE CARD IS WHAT COUNTS. Prove the row's statement (the work); the ties are given (YtfleehgbpgmcnaaDoorTie.lean); close each card by the builder's one call (the guide's Derived/Test/ToyasCard.lean, 'card_holds'). Laid BY PROGRAM, IN A SANDBOX (cutbox-door.mjs). By AI agents, Wed Nov 11 2026. No macro, syntax, notation, axiom, sorry.
-/
import Derived.Test.YtfleehgbpgmcnaaDoorRows
import GoSem.ClaimSeven
namespace Go.Proofs.YtfleehgbpgmcnaaDoor
namespace Rows

/-- THE TIED CARD OF 'anvillaw13.FoldPasses'. -/
def foldPassesCard : Claim7 := { stood := { row := foldPassesRow, standIns := [], harness := (true, "b85f69d72258150881f507afbe7ef87d132d9df4acf457331ed80d0dce600a08"), looks := false }, kinds := [], alts := [], laidByText := true, laidKinds := [.data, .data], laidTests := true, laidLooks := .later }
def FoldPassesCardSaid : Prop := Claim7.holds Tryd.pinned (.plain (OpenSpec.ofChange foldPassesSpec)) foldPassesCard

/-- THE TIED CARD OF 'anvillaw13.FoldKnown'. -/
def foldKnownCard : Claim7 := { stood := { row := foldKnownRow, standIns := [], harness := (true, "b85f69d72258150881f507afbe7ef87d132d9df4acf457331ed80d0dce600a08"), looks := false }, kinds := [], alts := [], laidByText := true, laidKinds := [.data, .data], laidTests := true, laidLooks := .later }
def FoldKnownCardSaid : Prop := Claim7.holds Tryd.pinned (.plain (OpenSpec.ofChange foldKnownSpec)) foldKnownCard

/-- THE TIED CARD OF 'anvillaw13.FoldPlains'. -/
def foldPlainsCard : Claim7 := { stood := { row := foldPlainsRow, standIns := [], harness := (true, "b85f69d72258150881f507afbe7ef87d132d9df4acf457331ed80d0dce600a08"), looks := false }, kinds := [], alts := [], laidByText := true, laidKinds := [.data, .data], laidTests := true, laidLooks := .later }
def FoldPlainsCardSaid : Prop := Claim7.holds Tryd.pinned (.plain (OpenSpec.ofChange foldPlainsSpec)) foldPlainsCard

/-- THE TIED CARD OF 'anvillaw13.FoldAgain'. -/
def foldAgainCard : Claim7 := { stood := { row := foldAgainRow, standIns := [], harness := (true, "b85f69d72258150881f507afbe7ef87d132d9df4acf457331ed80d0dce600a08"), looks := false }, kinds := [], alts := [], laidByText := true, laidKinds := [.data, .data], laidTests := true, laidLooks := .later }
def FoldAgainCardSaid : Prop := Claim7.holds Tryd.pinned (.plain (OpenSpec.ofChange foldAgainSpec)) foldAgainCard

/-- THE SECOND FORM's CARD OF 'anvillaw13.FoldPasses'. -/
def foldPassesUptoCard : Claim7 := { stood := { row := foldPassesUptoRow, standIns := [], harness := (true, "b85f69d72258150881f507afbe7ef87d132d9df4acf457331ed80d0dce600a08"), looks := false }, kinds := [], alts := [], laidByText := true, laidKinds := [.data, .data], laidTests := true, laidLooks := .later }
def FoldPassesUptoCardSaid : Prop := Claim7.holds Tryd.pinned (.plain (OpenSpec.upto foldPassesSpec)) foldPassesUptoCard

/-- THE SECOND FORM's CARD OF 'anvillaw13.FoldKnown'. -/
def foldKnownUptoCard : Claim7 := { stood := { row := foldKnownUptoRow, standIns := [], harness := (true, "b85f69d72258150881f507afbe7ef87d132d9df4acf457331ed80d0dce600a08"), looks := false }, kinds := [], alts := [], laidByText := true, laidKinds := [.data, .data], laidTests := true, laidLooks := .later }
def FoldKnownUptoCardSaid : Prop := Claim7.holds Tryd.pinned (.plain (OpenSpec.upto foldKnownSpec)) foldKnownUptoCard

/-- THE SECOND FORM's CARD OF 'anvillaw13.FoldPlains'. -/
def foldPlainsUptoCard : Claim7 := { stood := { row := foldPlainsUptoRow, standIns := [], harness := (true, "b85f69d72258150881f507afbe7ef87d132d9df4acf457331ed80d0dce600a08"), looks := false }, kinds := [], alts := [], laidByText := true, laidKinds := [.data, .data], laidTests := true, laidLooks := .later }
def FoldPlainsUptoCardSaid : Prop := Claim7.holds Tryd.pinned (.plain (OpenSpec.upto foldPlainsSpec)) foldPlainsUptoCard

/-- THE SECOND FORM's CARD OF 'anvillaw13.FoldAgain'. -/
def foldAgainUptoCard : Claim7 := { stood := { row := foldAgainUptoRow, standIns := [], harness := (true, "b85f69d72258150881f507afbe7ef87d132d9df4acf457331ed80d0dce600a08"), looks := false }, kinds := [], alts := [], laidByText := true, laidKinds := [.data, .data], laidTests := true, laidLooks := .later }
def FoldAgainUptoCardSaid : Prop := Claim7.holds Tryd.pinned (.plain (OpenSpec.upto foldAgainSpec)) foldAgainUptoCard
end Rows
end Go.Proofs.YtfleehgbpgmcnaaDoor
