/-
  No cell of these rows narrows 'for every input' (looked for: loops, veiled, ifaces, maps, wideKeys, modest, calm, conditions, laid).
  DERIVED. THE GIVEN ROWS OF THIS SEAT. 3 by the template 'for every input the law returns true; each argument reads behind the call as it read before'; 0 by the template 'total and deterministic' (their statements: YtbppmiimeccclaaGreatTotals.lean).
  GIVEN WITH THE SEED: the statements are not yours to turn. If you find one false, say at which input.
  Laid BY PROGRAM, IN A SANDBOX (cutbox-rows.mjs): the forced cells as the released guide's own fill.sh prints them over the translation b6eedeab04b49dc0… (all of the seat's roots in one cut). By AI agents, Wed Nov 11 2026. No macro, syntax, notation, axiom, sorry.
-/
import Derived.Test.YtbppmiimeccclaaGreatChecked
import GoSem.Claim
import GoSem.ClaimJoined
import GoSem.ClaimMapViews
import Derived.JoinedTies
import Derived.KernelRfl
namespace Go.Proofs.YtbppmiimeccclaaGreat
/- THE CELL 'sum', in the pinned program and in every row, IS THE sha256 OF THE DUMP (.gsa) THAT YtbppmiimeccclaaGreatProg.lean LOADS. Nothing in Lean hashes anything: it is a label: what it is worth is what the hold of that sum in a sandbox is worth. -/
noncomputable def Tryz.pinned : Pinned := { name := "ytbppmiimeccclaagreat", sum := "b6eedeab04b49dc0d40a485de69274dae50f2f4dc93f5f4b8d937d52edb0269f", checked := Tryz.checked }
namespace Rows
def none {H : Type} : Left H := { results := [], args := [] }

/-- 'anvillaw12.SynthJudges': WHATEVER THE INPUT: true; the input reads as it did. -/
def synthJudgesSpec : ChangeSpec := { name := "synthJudges", fn := fun _ => fun
  | [d1, d2] => { results := [.lit (.bool true)], args := [d1, d2] }
  | _ => none }
def synthJudgesRow : OpenClaim := { program := "ytbppmiimeccclaagreat", sum := "b6eedeab04b49dc0d40a485de69274dae50f2f4dc93f5f4b8d937d52edb0269f", func := "anvil/anvillaw12.SynthJudges", spec := "synthJudges", unfollowed := true, recurses := true, apart := false }
def SynthJudgesSaid : Prop := synthJudgesRow.holds Tryz.pinned (OpenSpec.ofChange synthJudgesSpec)

/-- ITS FALSE NEIGHBOUR: 'it returns false'. Refute it at one input. -/
def synthJudgesWrong : ChangeSpec := { name := "synthJudges", fn := fun _ => fun
  | [d1, d2] => { results := [.lit (.bool false)], args := [d1, d2] }
  | _ => none }
def SynthJudgesWrongFalsely : Prop := synthJudgesRow.holds Tryz.pinned (OpenSpec.ofChange synthJudgesWrong)

/-- 'anvillaw12.SynthBest': WHATEVER THE INPUT: true; the input reads as it did. -/
def synthBestSpec : ChangeSpec := { name := "synthBest", fn := fun _ => fun
  | [d] => { results := [.lit (.bool true)], args := [d] }
  | _ => none }
def synthBestRow : OpenClaim := { program := "ytbppmiimeccclaagreat", sum := "b6eedeab04b49dc0d40a485de69274dae50f2f4dc93f5f4b8d937d52edb0269f", func := "anvil/anvillaw12.SynthBest", spec := "synthBest", unfollowed := true, recurses := true, apart := false }
def SynthBestSaid : Prop := synthBestRow.holds Tryz.pinned (OpenSpec.ofChange synthBestSpec)

/-- ITS FALSE NEIGHBOUR: 'it returns false'. Refute it at one input. -/
def synthBestWrong : ChangeSpec := { name := "synthBest", fn := fun _ => fun
  | [d] => { results := [.lit (.bool false)], args := [d] }
  | _ => none }
def SynthBestWrongFalsely : Prop := synthBestRow.holds Tryz.pinned (OpenSpec.ofChange synthBestWrong)

/-- 'anvillaw15.DeadAnswers': WHATEVER THE INPUT: true; the input reads as it did. -/
def deadAnswersSpec : ChangeSpec := { name := "deadAnswers", fn := fun _ => fun
  | [d1, d2, d3] => { results := [.lit (.bool true)], args := [d1, d2, d3] }
  | _ => none }
def deadAnswersRow : OpenClaim := { program := "ytbppmiimeccclaagreat", sum := "b6eedeab04b49dc0d40a485de69274dae50f2f4dc93f5f4b8d937d52edb0269f", func := "anvil/anvillaw15.DeadAnswers", spec := "deadAnswers", unfollowed := true, recurses := true, apart := false }
def DeadAnswersSaid : Prop := deadAnswersRow.holds Tryz.pinned (OpenSpec.ofChange deadAnswersSpec)

/-- ITS FALSE NEIGHBOUR: 'it returns false'. Refute it at one input. -/
def deadAnswersWrong : ChangeSpec := { name := "deadAnswers", fn := fun _ => fun
  | [d1, d2, d3] => { results := [.lit (.bool false)], args := [d1, d2, d3] }
  | _ => none }
def DeadAnswersWrongFalsely : Prop := deadAnswersRow.holds Tryz.pinned (OpenSpec.ofChange deadAnswersWrong)

/- THE SECOND FORM. 'bulk': how many values and letters a reading holds, each counted each time it is reached (what is shared counts as often as it is met; a slice's spare places count too). A statement '..UptoSaid' is the law's where the arguments, and the package variables that the reading takes, are together of bulk at most 1048576: NARROWER than '..Said'. Prove '..Said' where nothing that the law and all that it calls make is longer than what came in: it says more and counts as full. Else prove '..UptoSaid'. A law counts once. -/
mutual
def uptoBulk {H : Type} : DataW H → Nat
  | .lit (.string bytes) => bytes.length + 1
  | .lit _ => 1
  | .nil => 1
  | .ptr d => uptoBulk d + 1
  | .slice elems spare => uptoBulkAll elems + uptoBulkAll spare + 1
  | .agg parts => uptoBulkAll parts + 1
  | .iface _ d => uptoBulk d + 1
  | .map entries => uptoBulkEntries entries + 1
  | .held _ => 1
def uptoBulkAll {H : Type} : List (DataW H) → Nat
  | [] => 0
  | d :: r => uptoBulk d + uptoBulkAll r
def uptoBulkEntries {H : Type} : List (Lit × DataW H) → Nat
  | [] => 0
  | x :: r => uptoBulkEntry x + uptoBulkEntries r
def uptoBulkEntry {H : Type} : Lit × DataW H → Nat
  | (.string bytes, d) => bytes.length + uptoBulk d + 1
  | (_, d) => uptoBulk d + 1
 end
def uptoSmall : (H : Type) → List (DataW H) → Bool := fun _ ds => decide (uptoBulkAll ds ≤ 1048576)
def OpenSpec.upto (s : _root_.Go.ChangeSpec) : _root_.Go.OpenSpec := { _root_.Go.OpenSpec.ofChange s with cond := some uptoSmall }

/-- 'anvillaw12.SynthJudges', WHERE WHAT IT READS IS OF BULK AT MOST 1048576: true; the input reads as it did. -/
def synthJudgesUptoRow : OpenClaim := { program := "ytbppmiimeccclaagreat", sum := "b6eedeab04b49dc0d40a485de69274dae50f2f4dc93f5f4b8d937d52edb0269f", func := "anvil/anvillaw12.SynthJudges", spec := "synthJudges", unfollowed := true, recurses := true, apart := false, narrowed := true }
def SynthJudgesUptoSaid : Prop := synthJudgesUptoRow.holds Tryz.pinned (OpenSpec.upto synthJudgesSpec)

/-- 'anvillaw12.SynthBest', WHERE WHAT IT READS IS OF BULK AT MOST 1048576: true; the input reads as it did. -/
def synthBestUptoRow : OpenClaim := { program := "ytbppmiimeccclaagreat", sum := "b6eedeab04b49dc0d40a485de69274dae50f2f4dc93f5f4b8d937d52edb0269f", func := "anvil/anvillaw12.SynthBest", spec := "synthBest", unfollowed := true, recurses := true, apart := false, narrowed := true }
def SynthBestUptoSaid : Prop := synthBestUptoRow.holds Tryz.pinned (OpenSpec.upto synthBestSpec)

/-- 'anvillaw15.DeadAnswers', WHERE WHAT IT READS IS OF BULK AT MOST 1048576: true; the input reads as it did. -/
def deadAnswersUptoRow : OpenClaim := { program := "ytbppmiimeccclaagreat", sum := "b6eedeab04b49dc0d40a485de69274dae50f2f4dc93f5f4b8d937d52edb0269f", func := "anvil/anvillaw15.DeadAnswers", spec := "deadAnswers", unfollowed := true, recurses := true, apart := false, narrowed := true }
def DeadAnswersUptoSaid : Prop := deadAnswersUptoRow.holds Tryz.pinned (OpenSpec.upto deadAnswersSpec)

end Rows
end Go.Proofs.YtbppmiimeccclaaGreat
