/-
  NARROWER THAN 'FOR EVERY INPUT', by the rows' own cells (each row's printed sentence says how): CheckUnits: laid · CheckAccepts: laid · CheckKnown: laid · CheckCompiles: laid · CheckRuns: laid · CheckKept: laid · CheckPassed: laid.
  DERIVED. THE GIVEN ROWS OF THIS SEAT. 7 by the template 'for every input the law returns true; each argument reads behind the call as it read before'; 0 by the template 'total and deterministic' (their statements: YtkdelpdbjfpgmaaGreatDoorTotals.lean).
  GIVEN WITH THE SEED: the statements are not yours to turn. If you find one false, say at which input.
  Laid BY PROGRAM, IN A SANDBOX (cutbox-rows.mjs): the forced cells as the released guide's own fill.sh prints them over the translation 7c55f4de65f82fd5… (all of the seat's roots in one cut). By AI agents, Wed Nov 11 2026. No macro, syntax, notation, axiom, sorry.
-/
import Derived.Test.YtkdelpdbjfpgmaaGreatDoorChecked
import GoSem.Claim
import GoSem.ClaimJoined
import GoSem.ClaimMapViews
import Derived.JoinedTies
import Derived.KernelRfl
namespace Go.Proofs.YtkdelpdbjfpgmaaGreatDoor
/- THE CELL 'sum', in the pinned program and in every row, IS THE sha256 OF THE DUMP (.gsa) THAT YtkdelpdbjfpgmaaGreatDoorProg.lean LOADS. Nothing in Lean hashes anything: it is a label: what it is worth is what the hold of that sum in a sandbox is worth. -/
noncomputable def Tryz.pinned : Pinned := { name := "ytkdelpdbjfpgmaagreatdoor", sum := "7c55f4de65f82fd5a81d918c04b1e843b1dde14a22d7990c389a868396ad2e54", checked := Tryz.checked }
namespace Rows
def none {H : Type} : Left H := { results := [], args := [] }

/- WHAT THE LISTED PACKAGE-LEVEL VARIABLES READ AS WHEN THE CALL BEGINS. Each datum BY PROGRAM (the guide's laid-datum.mjs) off the statement by which the dump's own 'gosem.cut.vars' lays the variable. In a bare row this is a premise. The card (YtkdelpdbjfpgmaaGreatDoorCards.lean) ties it to the program's text. -/
def laid_math_bits_deBruijn32tab {H : Type} : DataW H := .agg [.lit (.int .u8 0), .lit (.int .u8 1), .lit (.int .u8 28), .lit (.int .u8 2), .lit (.int .u8 29), .lit (.int .u8 14), .lit (.int .u8 24), .lit (.int .u8 3), .lit (.int .u8 30), .lit (.int .u8 22), .lit (.int .u8 20), .lit (.int .u8 15), .lit (.int .u8 25), .lit (.int .u8 17), .lit (.int .u8 4), .lit (.int .u8 8), .lit (.int .u8 31), .lit (.int .u8 27), .lit (.int .u8 13), .lit (.int .u8 23), .lit (.int .u8 21), .lit (.int .u8 19), .lit (.int .u8 16), .lit (.int .u8 7), .lit (.int .u8 26), .lit (.int .u8 12), .lit (.int .u8 18), .lit (.int .u8 6), .lit (.int .u8 11), .lit (.int .u8 5), .lit (.int .u8 10), .lit (.int .u8 9)]
def laid_math_bits_deBruijn64tab {H : Type} : DataW H := .agg [.lit (.int .u8 0), .lit (.int .u8 1), .lit (.int .u8 56), .lit (.int .u8 2), .lit (.int .u8 57), .lit (.int .u8 49), .lit (.int .u8 28), .lit (.int .u8 3), .lit (.int .u8 61), .lit (.int .u8 58), .lit (.int .u8 42), .lit (.int .u8 50), .lit (.int .u8 38), .lit (.int .u8 29), .lit (.int .u8 17), .lit (.int .u8 4), .lit (.int .u8 62), .lit (.int .u8 47), .lit (.int .u8 59), .lit (.int .u8 36), .lit (.int .u8 45), .lit (.int .u8 43), .lit (.int .u8 51), .lit (.int .u8 22), .lit (.int .u8 53), .lit (.int .u8 39), .lit (.int .u8 33), .lit (.int .u8 30), .lit (.int .u8 24), .lit (.int .u8 18), .lit (.int .u8 12), .lit (.int .u8 5), .lit (.int .u8 63), .lit (.int .u8 55), .lit (.int .u8 48), .lit (.int .u8 27), .lit (.int .u8 60), .lit (.int .u8 41), .lit (.int .u8 37), .lit (.int .u8 16), .lit (.int .u8 46), .lit (.int .u8 35), .lit (.int .u8 44), .lit (.int .u8 21), .lit (.int .u8 52), .lit (.int .u8 32), .lit (.int .u8 23), .lit (.int .u8 11), .lit (.int .u8 54), .lit (.int .u8 26), .lit (.int .u8 40), .lit (.int .u8 15), .lit (.int .u8 34), .lit (.int .u8 20), .lit (.int .u8 31), .lit (.int .u8 10), .lit (.int .u8 25), .lit (.int .u8 14), .lit (.int .u8 19), .lit (.int .u8 9), .lit (.int .u8 13), .lit (.int .u8 8), .lit (.int .u8 7), .lit (.int .u8 6)]

/-- 'anvillaw18.CheckUnits': WHATEVER THE INPUT: true; the input reads as it did. -/
def checkUnitsSpec : ChangeSpec := { name := "checkUnits", fn := fun _ => fun
  | [d] => { results := [.lit (.bool true)], args := [d] }
  | _ => none }
def checkUnitsRow : OpenClaim := { program := "ytkdelpdbjfpgmaagreatdoor", sum := "7c55f4de65f82fd5a81d918c04b1e843b1dde14a22d7990c389a868396ad2e54", func := "anvil/anvillaw18.CheckUnits", spec := "checkUnits", unfollowed := true, recurses := true, named := ["math/bits.deBruijn32tab", "math/bits.deBruijn64tab"], plainKeys := false, apart := false, laid := [("math/bits.deBruijn32tab", laid_math_bits_deBruijn32tab), ("math/bits.deBruijn64tab", laid_math_bits_deBruijn64tab)] }
def CheckUnitsSaid : Prop := checkUnitsRow.holds Tryz.pinned (OpenSpec.ofChange checkUnitsSpec)

/-- ITS FALSE NEIGHBOUR: 'it returns false'. Refute it at one input. -/
def checkUnitsWrong : ChangeSpec := { name := "checkUnits", fn := fun _ => fun
  | [d] => { results := [.lit (.bool false)], args := [d] }
  | _ => none }
def CheckUnitsWrongFalsely : Prop := checkUnitsRow.holds Tryz.pinned (OpenSpec.ofChange checkUnitsWrong)

/-- 'anvillaw18.CheckAccepts': WHATEVER THE INPUT: true; the input reads as it did. -/
def checkAcceptsSpec : ChangeSpec := { name := "checkAccepts", fn := fun _ => fun
  | [d] => { results := [.lit (.bool true)], args := [d] }
  | _ => none }
def checkAcceptsRow : OpenClaim := { program := "ytkdelpdbjfpgmaagreatdoor", sum := "7c55f4de65f82fd5a81d918c04b1e843b1dde14a22d7990c389a868396ad2e54", func := "anvil/anvillaw18.CheckAccepts", spec := "checkAccepts", unfollowed := true, recurses := true, named := ["math/bits.deBruijn32tab", "math/bits.deBruijn64tab"], plainKeys := false, apart := false, laid := [("math/bits.deBruijn32tab", laid_math_bits_deBruijn32tab), ("math/bits.deBruijn64tab", laid_math_bits_deBruijn64tab)] }
def CheckAcceptsSaid : Prop := checkAcceptsRow.holds Tryz.pinned (OpenSpec.ofChange checkAcceptsSpec)

/-- ITS FALSE NEIGHBOUR: 'it returns false'. Refute it at one input. -/
def checkAcceptsWrong : ChangeSpec := { name := "checkAccepts", fn := fun _ => fun
  | [d] => { results := [.lit (.bool false)], args := [d] }
  | _ => none }
def CheckAcceptsWrongFalsely : Prop := checkAcceptsRow.holds Tryz.pinned (OpenSpec.ofChange checkAcceptsWrong)

/-- 'anvillaw18.CheckKnown': WHATEVER THE INPUT: true; the input reads as it did. -/
def checkKnownSpec : ChangeSpec := { name := "checkKnown", fn := fun _ => fun
  | [] => { results := [.lit (.bool true)], args := [] }
  | _ => none }
def checkKnownRow : OpenClaim := { program := "ytkdelpdbjfpgmaagreatdoor", sum := "7c55f4de65f82fd5a81d918c04b1e843b1dde14a22d7990c389a868396ad2e54", func := "anvil/anvillaw18.CheckKnown", spec := "checkKnown", unfollowed := true, recurses := true, named := ["math/bits.deBruijn32tab", "math/bits.deBruijn64tab"], plainKeys := false, apart := false, laid := [("math/bits.deBruijn32tab", laid_math_bits_deBruijn32tab), ("math/bits.deBruijn64tab", laid_math_bits_deBruijn64tab)] }
def CheckKnownSaid : Prop := checkKnownRow.holds Tryz.pinned (OpenSpec.ofChange checkKnownSpec)

/-- ITS FALSE NEIGHBOUR: 'it returns false'. Refute it at one input. -/
def checkKnownWrong : ChangeSpec := { name := "checkKnown", fn := fun _ => fun
  | [] => { results := [.lit (.bool false)], args := [] }
  | _ => none }
def CheckKnownWrongFalsely : Prop := checkKnownRow.holds Tryz.pinned (OpenSpec.ofChange checkKnownWrong)

/-- 'anvillaw18.CheckCompiles': WHATEVER THE INPUT: true; the input reads as it did. -/
def checkCompilesSpec : ChangeSpec := { name := "checkCompiles", fn := fun _ => fun
  | [d1, d2, d3] => { results := [.lit (.bool true)], args := [d1, d2, d3] }
  | _ => none }
def checkCompilesRow : OpenClaim := { program := "ytkdelpdbjfpgmaagreatdoor", sum := "7c55f4de65f82fd5a81d918c04b1e843b1dde14a22d7990c389a868396ad2e54", func := "anvil/anvillaw18.CheckCompiles", spec := "checkCompiles", unfollowed := true, recurses := true, named := ["math/bits.deBruijn32tab", "math/bits.deBruijn64tab"], plainKeys := false, apart := false, laid := [("math/bits.deBruijn32tab", laid_math_bits_deBruijn32tab), ("math/bits.deBruijn64tab", laid_math_bits_deBruijn64tab)] }
def CheckCompilesSaid : Prop := checkCompilesRow.holds Tryz.pinned (OpenSpec.ofChange checkCompilesSpec)

/-- ITS FALSE NEIGHBOUR: 'it returns false'. Refute it at one input. -/
def checkCompilesWrong : ChangeSpec := { name := "checkCompiles", fn := fun _ => fun
  | [d1, d2, d3] => { results := [.lit (.bool false)], args := [d1, d2, d3] }
  | _ => none }
def CheckCompilesWrongFalsely : Prop := checkCompilesRow.holds Tryz.pinned (OpenSpec.ofChange checkCompilesWrong)

/-- 'anvillaw18.CheckRuns': WHATEVER THE INPUT: true; the input reads as it did. -/
def checkRunsSpec : ChangeSpec := { name := "checkRuns", fn := fun _ => fun
  | [d1, d2, d3, d4, d5, d6] => { results := [.lit (.bool true)], args := [d1, d2, d3, d4, d5, d6] }
  | _ => none }
def checkRunsRow : OpenClaim := { program := "ytkdelpdbjfpgmaagreatdoor", sum := "7c55f4de65f82fd5a81d918c04b1e843b1dde14a22d7990c389a868396ad2e54", func := "anvil/anvillaw18.CheckRuns", spec := "checkRuns", unfollowed := true, recurses := true, named := ["math/bits.deBruijn32tab", "math/bits.deBruijn64tab"], plainKeys := false, apart := false, laid := [("math/bits.deBruijn32tab", laid_math_bits_deBruijn32tab), ("math/bits.deBruijn64tab", laid_math_bits_deBruijn64tab)] }
def CheckRunsSaid : Prop := checkRunsRow.holds Tryz.pinned (OpenSpec.ofChange checkRunsSpec)

/-- ITS FALSE NEIGHBOUR: 'it returns false'. Refute it at one input. -/
def checkRunsWrong : ChangeSpec := { name := "checkRuns", fn := fun _ => fun
  | [d1, d2, d3, d4, d5, d6] => { results := [.lit (.bool false)], args := [d1, d2, d3, d4, d5, d6] }
  | _ => none }
def CheckRunsWrongFalsely : Prop := checkRunsRow.holds Tryz.pinned (OpenSpec.ofChange checkRunsWrong)

/-- 'anvillaw18.CheckKept': WHATEVER THE INPUT: true; the input reads as it did. -/
def checkKeptSpec : ChangeSpec := { name := "checkKept", fn := fun _ => fun
  | [d1, d2, d3, d4] => { results := [.lit (.bool true)], args := [d1, d2, d3, d4] }
  | _ => none }
def checkKeptRow : OpenClaim := { program := "ytkdelpdbjfpgmaagreatdoor", sum := "7c55f4de65f82fd5a81d918c04b1e843b1dde14a22d7990c389a868396ad2e54", func := "anvil/anvillaw18.CheckKept", spec := "checkKept", unfollowed := true, recurses := true, named := ["math/bits.deBruijn32tab", "math/bits.deBruijn64tab"], plainKeys := false, apart := false, laid := [("math/bits.deBruijn32tab", laid_math_bits_deBruijn32tab), ("math/bits.deBruijn64tab", laid_math_bits_deBruijn64tab)] }
def CheckKeptSaid : Prop := checkKeptRow.holds Tryz.pinned (OpenSpec.ofChange checkKeptSpec)

/-- ITS FALSE NEIGHBOUR: 'it returns false'. Refute it at one input. -/
def checkKeptWrong : ChangeSpec := { name := "checkKept", fn := fun _ => fun
  | [d1, d2, d3, d4] => { results := [.lit (.bool false)], args := [d1, d2, d3, d4] }
  | _ => none }
def CheckKeptWrongFalsely : Prop := checkKeptRow.holds Tryz.pinned (OpenSpec.ofChange checkKeptWrong)

/-- 'anvillaw18.CheckPassed': WHATEVER THE INPUT: true; the input reads as it did. -/
def checkPassedSpec : ChangeSpec := { name := "checkPassed", fn := fun _ => fun
  | [d1, d2, d3] => { results := [.lit (.bool true)], args := [d1, d2, d3] }
  | _ => none }
def checkPassedRow : OpenClaim := { program := "ytkdelpdbjfpgmaagreatdoor", sum := "7c55f4de65f82fd5a81d918c04b1e843b1dde14a22d7990c389a868396ad2e54", func := "anvil/anvillaw18.CheckPassed", spec := "checkPassed", unfollowed := true, recurses := true, named := ["math/bits.deBruijn32tab", "math/bits.deBruijn64tab"], plainKeys := false, apart := false, laid := [("math/bits.deBruijn32tab", laid_math_bits_deBruijn32tab), ("math/bits.deBruijn64tab", laid_math_bits_deBruijn64tab)] }
def CheckPassedSaid : Prop := checkPassedRow.holds Tryz.pinned (OpenSpec.ofChange checkPassedSpec)

/-- ITS FALSE NEIGHBOUR: 'it returns false'. Refute it at one input. -/
def checkPassedWrong : ChangeSpec := { name := "checkPassed", fn := fun _ => fun
  | [d1, d2, d3] => { results := [.lit (.bool false)], args := [d1, d2, d3] }
  | _ => none }
def CheckPassedWrongFalsely : Prop := checkPassedRow.holds Tryz.pinned (OpenSpec.ofChange checkPassedWrong)

/- THE SECOND FORM. 'bulk': how many values and letters a reading holds, each counted each time it is reached (what is shared counts as often as it is met; a slice's spare places count too). A statement '..UptoSaid' is the law's where the arguments, and the package variables that the reading takes, are together of bulk at most 1048576: NARROWER than '..Said'. Prove '..Said' where nothing that the law and all that it calls make is longer than what came in: it says more and counts as full. Else prove '..UptoSaid'. A law counts once. -/
mutual
def uptoBulk {H : Type} : DataW H → Nat
  | .lit (.string bytes) => bytes.length + 1
  | .lit _ => 1
  | .nil => 1
  | .ptr d => uptoBulk d + 1
  | .slice elems spare => uptoBulkAll elems + uptoBulkAll spare + 1
  | .agg parts => uptoBulkAll parts + 1
  | .iface _ d => uptoBulk d + 1
  | .map entries => uptoBulkEntries entries + 1
  | .held _ => 1
def uptoBulkAll {H : Type} : List (DataW H) → Nat
  | [] => 0
  | d :: r => uptoBulk d + uptoBulkAll r
def uptoBulkEntries {H : Type} : List (Lit × DataW H) → Nat
  | [] => 0
  | x :: r => uptoBulkEntry x + uptoBulkEntries r
def uptoBulkEntry {H : Type} : Lit × DataW H → Nat
  | (.string bytes, d) => bytes.length + uptoBulk d + 1
  | (_, d) => uptoBulk d + 1
 end
def uptoSmall : (H : Type) → List (DataW H) → Bool := fun _ ds => decide (uptoBulkAll ds ≤ 1048576)
def OpenSpec.upto (s : _root_.Go.ChangeSpec) : _root_.Go.OpenSpec := { _root_.Go.OpenSpec.ofChange s with cond := some uptoSmall }

/-- 'anvillaw18.CheckUnits', WHERE WHAT IT READS IS OF BULK AT MOST 1048576: true; the input reads as it did. -/
def checkUnitsUptoRow : OpenClaim := { program := "ytkdelpdbjfpgmaagreatdoor", sum := "7c55f4de65f82fd5a81d918c04b1e843b1dde14a22d7990c389a868396ad2e54", func := "anvil/anvillaw18.CheckUnits", spec := "checkUnits", unfollowed := true, recurses := true, named := ["math/bits.deBruijn32tab", "math/bits.deBruijn64tab"], plainKeys := false, apart := false, laid := [("math/bits.deBruijn32tab", laid_math_bits_deBruijn32tab), ("math/bits.deBruijn64tab", laid_math_bits_deBruijn64tab)], narrowed := true }
def CheckUnitsUptoSaid : Prop := checkUnitsUptoRow.holds Tryz.pinned (OpenSpec.upto checkUnitsSpec)

/-- 'anvillaw18.CheckAccepts', WHERE WHAT IT READS IS OF BULK AT MOST 1048576: true; the input reads as it did. -/
def checkAcceptsUptoRow : OpenClaim := { program := "ytkdelpdbjfpgmaagreatdoor", sum := "7c55f4de65f82fd5a81d918c04b1e843b1dde14a22d7990c389a868396ad2e54", func := "anvil/anvillaw18.CheckAccepts", spec := "checkAccepts", unfollowed := true, recurses := true, named := ["math/bits.deBruijn32tab", "math/bits.deBruijn64tab"], plainKeys := false, apart := false, laid := [("math/bits.deBruijn32tab", laid_math_bits_deBruijn32tab), ("math/bits.deBruijn64tab", laid_math_bits_deBruijn64tab)], narrowed := true }
def CheckAcceptsUptoSaid : Prop := checkAcceptsUptoRow.holds Tryz.pinned (OpenSpec.upto checkAcceptsSpec)

/-- 'anvillaw18.CheckKnown', WHERE WHAT IT READS IS OF BULK AT MOST 1048576: true; the input reads as it did. -/
def checkKnownUptoRow : OpenClaim := { program := "ytkdelpdbjfpgmaagreatdoor", sum := "7c55f4de65f82fd5a81d918c04b1e843b1dde14a22d7990c389a868396ad2e54", func := "anvil/anvillaw18.CheckKnown", spec := "checkKnown", unfollowed := true, recurses := true, named := ["math/bits.deBruijn32tab", "math/bits.deBruijn64tab"], plainKeys := false, apart := false, laid := [("math/bits.deBruijn32tab", laid_math_bits_deBruijn32tab), ("math/bits.deBruijn64tab", laid_math_bits_deBruijn64tab)], narrowed := true }
def CheckKnownUptoSaid : Prop := checkKnownUptoRow.holds Tryz.pinned (OpenSpec.upto checkKnownSpec)

/-- 'anvillaw18.CheckCompiles', WHERE WHAT IT READS IS OF BULK AT MOST 1048576: true; the input reads as it did. -/
def checkCompilesUptoRow : OpenClaim := { program := "ytkdelpdbjfpgmaagreatdoor", sum := "7c55f4de65f82fd5a81d918c04b1e843b1dde14a22d7990c389a868396ad2e54", func := "anvil/anvillaw18.CheckCompiles", spec := "checkCompiles", unfollowed := true, recurses := true, named := ["math/bits.deBruijn32tab", "math/bits.deBruijn64tab"], plainKeys := false, apart := false, laid := [("math/bits.deBruijn32tab", laid_math_bits_deBruijn32tab), ("math/bits.deBruijn64tab", laid_math_bits_deBruijn64tab)], narrowed := true }
def CheckCompilesUptoSaid : Prop := checkCompilesUptoRow.holds Tryz.pinned (OpenSpec.upto checkCompilesSpec)

/-- 'anvillaw18.CheckRuns', WHERE WHAT IT READS IS OF BULK AT MOST 1048576: true; the input reads as it did. -/
def checkRunsUptoRow : OpenClaim := { program := "ytkdelpdbjfpgmaagreatdoor", sum := "7c55f4de65f82fd5a81d918c04b1e843b1dde14a22d7990c389a868396ad2e54", func := "anvil/anvillaw18.CheckRuns", spec := "checkRuns", unfollowed := true, recurses := true, named := ["math/bits.deBruijn32tab", "math/bits.deBruijn64tab"], plainKeys := false, apart := false, laid := [("math/bits.deBruijn32tab", laid_math_bits_deBruijn32tab), ("math/bits.deBruijn64tab", laid_math_bits_deBruijn64tab)], narrowed := true }
def CheckRunsUptoSaid : Prop := checkRunsUptoRow.holds Tryz.pinned (OpenSpec.upto checkRunsSpec)

/-- 'anvillaw18.CheckKept', WHERE WHAT IT READS IS OF BULK AT MOST 1048576: true; the input reads as it did. -/
def checkKeptUptoRow : OpenClaim := { program := "ytkdelpdbjfpgmaagreatdoor", sum := "7c55f4de65f82fd5a81d918c04b1e843b1dde14a22d7990c389a868396ad2e54", func := "anvil/anvillaw18.CheckKept", spec := "checkKept", unfollowed := true, recurses := true, named := ["math/bits.deBruijn32tab", "math/bits.deBruijn64tab"], plainKeys := false, apart := false, laid := [("math/bits.deBruijn32tab", laid_math_bits_deBruijn32tab), ("math/bits.deBruijn64tab", laid_math_bits_deBruijn64tab)], narrowed := true }
def CheckKeptUptoSaid : Prop := checkKeptUptoRow.holds Tryz.pinned (OpenSpec.upto checkKeptSpec)

/-- 'anvillaw18.CheckPassed', WHERE WHAT IT READS IS OF BULK AT MOST 1048576: true; the input reads as it did. -/
def checkPassedUptoRow : OpenClaim := { program := "ytkdelpdbjfpgmaagreatdoor", sum := "7c55f4de65f82fd5a81d918c04b1e843b1dde14a22d7990c389a868396ad2e54", func := "anvil/anvillaw18.CheckPassed", spec := "checkPassed", unfollowed := true, recurses := true, named := ["math/bits.deBruijn32tab", "math/bits.deBruijn64tab"], plainKeys := false, apart := false, laid := [("math/bits.deBruijn32tab", laid_math_bits_deBruijn32tab), ("math/bits.deBruijn64tab", laid_math_bits_deBruijn64tab)], narrowed := true }
def CheckPassedUptoSaid : Prop := checkPassedUptoRow.holds Tryz.pinned (OpenSpec.upto checkPassedSpec)

end Rows
end Go.Proofs.YtkdelpdbjfpgmaaGreatDoor
