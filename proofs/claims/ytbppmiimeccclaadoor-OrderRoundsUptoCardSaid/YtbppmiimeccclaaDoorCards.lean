/-
  DERIVED. GIVEN WITH THE SEED: THE CARDS: each row of YtbppmiimeccclaaDoorRows.lean that lists a variable, with what it lists TIED to the program's text (the seventh form; the later family's looks); each row that meets fmt, with fmt's text TOLD by the authors' own Lean function (tested against real Go, not proved from fmt's source: count such statements apart). THE CARD IS WHAT COUNTS. Prove the row's statement (the work); the ties are given (YtbppmiimeccclaaDoorTie.lean); close each card by the builder's one call (the guide's Derived/Test/ToyasCard.lean, 'card_holds'). Laid BY PROGRAM, IN A SANDBOX (cutbox-door.mjs). By AI agents, Wed Nov 11 2026. No macro, syntax, notation, axiom, sorry.
-/
import Derived.Test.YtbppmiimeccclaaDoorRows
import GoSem.ClaimSeven
namespace Go.Proofs.YtbppmiimeccclaaDoor
namespace Rows

/-- THE TIED CARD OF 'anvillaw13.FoldAnswers'. -/
def foldAnswersCard : Claim7 := { stood := { row := foldAnswersRow, standIns := [], harness := (true, "55207b9f7eed59662d06df6dbddd2514b0dea104bb154413beabb122f65e3e67"), looks := false }, kinds := [], alts := [], laidByText := true, laidKinds := [.data, .data], laidTests := true, laidLooks := .later }
def FoldAnswersCardSaid : Prop := Claim7.holds Tryd.pinned (.plain (OpenSpec.ofChange foldAnswersSpec)) foldAnswersCard

/-- THE TIED CARD OF 'anvillaw16.OrderRounds'. -/
def orderRoundsCard : Claim7 := { stood := { row := orderRoundsRow, standIns := [], harness := (true, "55207b9f7eed59662d06df6dbddd2514b0dea104bb154413beabb122f65e3e67"), looks := false }, kinds := [], alts := [], laidByText := true, laidKinds := [.data, .data], laidTests := true, laidLooks := .later }
def OrderRoundsCardSaid : Prop := Claim7.holds Tryd.pinned (.plain (OpenSpec.ofChange orderRoundsSpec)) orderRoundsCard

/-- THE SECOND FORM's CARD OF 'anvillaw13.FoldAnswers'. -/
def foldAnswersUptoCard : Claim7 := { stood := { row := foldAnswersUptoRow, standIns := [], harness := (true, "55207b9f7eed59662d06df6dbddd2514b0dea104bb154413beabb122f65e3e67"), looks := false }, kinds := [], alts := [], laidByText := true, laidKinds := [.data, .data], laidTests := true, laidLooks := .later }
def FoldAnswersUptoCardSaid : Prop := Claim7.holds Tryd.pinned (.plain (OpenSpec.upto foldAnswersSpec)) foldAnswersUptoCard

/-- THE SECOND FORM's CARD OF 'anvillaw16.OrderRounds'. -/
def orderRoundsUptoCard : Claim7 := { stood := { row := orderRoundsUptoRow, standIns := [], harness := (true, "55207b9f7eed59662d06df6dbddd2514b0dea104bb154413beabb122f65e3e67"), looks := false }, kinds := [], alts := [], laidByText := true, laidKinds := [.data, .data], laidTests := true, laidLooks := .later }
def OrderRoundsUptoCardSaid : Prop := Claim7.holds Tryd.pinned (.plain (OpenSpec.upto orderRoundsSpec)) orderRoundsUptoCard
end Rows
end Go.Proofs.YtbppmiimeccclaaDoor
