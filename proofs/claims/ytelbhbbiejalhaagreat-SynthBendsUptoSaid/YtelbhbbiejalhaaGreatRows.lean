/-
  No cell of these rows narrows 'for every input' (looked for: loops, veiled, ifaces, maps, wideKeys, modest, calm, conditions, laid).
  DERIVED. THE GIVEN ROWS OF THIS SEAT. 3 by the template 'for every input the law returns true; each argument reads behind the call as it read before'; 0 by the template 'total and deterministic' (their statements: YtelbhbbiejalhaaGreatTotals.lean).
  GIVEN WITH THE SEED: the statements are not yours to turn. If you find one false, say at which input.
  Laid BY PROGRAM, IN A SANDBOX (cutbox-rows.mjs): the forced cells as the released guide's own fill.sh prints them over the translation e10b4f90c0e6d7ed… (all of the seat's roots in one cut). By AI agents, Wed Nov 11 2026. No macro, syntax, notation, axiom, sorry.
-/
import Derived.Test.YtelbhbbiejalhaaGreatChecked
import GoSem.Claim
import GoSem.ClaimJoined
import GoSem.ClaimMapViews
import Derived.JoinedTies
import Derived.KernelRfl
namespace Go.Proofs.YtelbhbbiejalhaaGreat
/- THE CELL 'sum', in the pinned program and in every row, IS THE sha256 OF THE DUMP (.gsa) THAT YtelbhbbiejalhaaGreatProg.lean LOADS. Nothing in Lean hashes anything: it is a label: what it is worth is what the hold of that sum in a sandbox is worth. -/
noncomputable def Tryz.pinned : Pinned := { name := "ytelbhbbiejalhaagreat", sum := "e10b4f90c0e6d7edca390a8cf10d240fc94722ec03c8264c1835ab78588deeb7", checked := Tryz.checked }
namespace Rows
def none {H : Type} : Left H := { results := [], args := [] }

/-- 'anvillaw12.SynthProducts': WHATEVER THE INPUT: true; the input reads as it did. -/
def synthProductsSpec : ChangeSpec := { name := "synthProducts", fn := fun _ => fun
  | [d1, d2, d3] => { results := [.lit (.bool true)], args := [d1, d2, d3] }
  | _ => none }
def synthProductsRow : OpenClaim := { program := "ytelbhbbiejalhaagreat", sum := "e10b4f90c0e6d7edca390a8cf10d240fc94722ec03c8264c1835ab78588deeb7", func := "anvil/anvillaw12.SynthProducts", spec := "synthProducts", unfollowed := true, recurses := true, apart := false }
def SynthProductsSaid : Prop := synthProductsRow.holds Tryz.pinned (OpenSpec.ofChange synthProductsSpec)

/-- ITS FALSE NEIGHBOUR: 'it returns false'. Refute it at one input. -/
def synthProductsWrong : ChangeSpec := { name := "synthProducts", fn := fun _ => fun
  | [d1, d2, d3] => { results := [.lit (.bool false)], args := [d1, d2, d3] }
  | _ => none }
def SynthProductsWrongFalsely : Prop := synthProductsRow.holds Tryz.pinned (OpenSpec.ofChange synthProductsWrong)

/-- 'anvillaw12.SynthValues': WHATEVER THE INPUT: true; the input reads as it did. -/
def synthValuesSpec : ChangeSpec := { name := "synthValues", fn := fun _ => fun
  | [d1, d2] => { results := [.lit (.bool true)], args := [d1, d2] }
  | _ => none }
def synthValuesRow : OpenClaim := { program := "ytelbhbbiejalhaagreat", sum := "e10b4f90c0e6d7edca390a8cf10d240fc94722ec03c8264c1835ab78588deeb7", func := "anvil/anvillaw12.SynthValues", spec := "synthValues", unfollowed := true, recurses := true, apart := false }
def SynthValuesSaid : Prop := synthValuesRow.holds Tryz.pinned (OpenSpec.ofChange synthValuesSpec)

/-- ITS FALSE NEIGHBOUR: 'it returns false'. Refute it at one input. -/
def synthValuesWrong : ChangeSpec := { name := "synthValues", fn := fun _ => fun
  | [d1, d2] => { results := [.lit (.bool false)], args := [d1, d2] }
  | _ => none }
def SynthValuesWrongFalsely : Prop := synthValuesRow.holds Tryz.pinned (OpenSpec.ofChange synthValuesWrong)

/-- 'anvillaw12.SynthBends': WHATEVER THE INPUT: true; the input reads as it did. -/
def synthBendsSpec : ChangeSpec := { name := "synthBends", fn := fun _ => fun
  | [d1, d2, d3] => { results := [.lit (.bool true)], args := [d1, d2, d3] }
  | _ => none }
def synthBendsRow : OpenClaim := { program := "ytelbhbbiejalhaagreat", sum := "e10b4f90c0e6d7edca390a8cf10d240fc94722ec03c8264c1835ab78588deeb7", func := "anvil/anvillaw12.SynthBends", spec := "synthBends", unfollowed := true, recurses := true, apart := false }
def SynthBendsSaid : Prop := synthBendsRow.holds Tryz.pinned (OpenSpec.ofChange synthBendsSpec)

/-- ITS FALSE NEIGHBOUR: 'it returns false'. Refute it at one input. -/
def synthBendsWrong : ChangeSpec := { name := "synthBends", fn := fun _ => fun
  | [d1, d2, d3] => { results := [.lit (.bool false)], args := [d1, d2, d3] }
  | _ => none }
def SynthBendsWrongFalsely : Prop := synthBendsRow.holds Tryz.pinned (OpenSpec.ofChange synthBendsWrong)

/- THE SECOND FORM. 'bulk': how many values and letters a reading holds, each counted each time it is reached (what is shared counts as often as it is met; a slice's spare places count too). A statement '..UptoSaid' is the law's where the arguments, and the package variables that the reading takes, are together of bulk at most 1048576: NARROWER than '..Said'. Prove '..Said' where nothing that the law and all that it calls make is longer than what came in: it says more and counts as full. Else prove '..UptoSaid'. A law counts once. -/
mutual
def uptoBulk {H : Type} : DataW H → Nat
  | .lit (.string bytes) => bytes.length + 1
  | .lit _ => 1
  | .nil => 1
  | .ptr d => uptoBulk d + 1
  | .slice elems spare => uptoBulkAll elems + uptoBulkAll spare + 1
  | .agg parts => uptoBulkAll parts + 1
  | .iface _ d => uptoBulk d + 1
  | .map entries => uptoBulkEntries entries + 1
  | .held _ => 1
def uptoBulkAll {H : Type} : List (DataW H) → Nat
  | [] => 0
  | d :: r => uptoBulk d + uptoBulkAll r
def uptoBulkEntries {H : Type} : List (Lit × DataW H) → Nat
  | [] => 0
  | x :: r => uptoBulkEntry x + uptoBulkEntries r
def uptoBulkEntry {H : Type} : Lit × DataW H → Nat
  | (.string bytes, d) => bytes.length + uptoBulk d + 1
  | (_, d) => uptoBulk d + 1
 end
def uptoSmall : (H : Type) → List (DataW H) → Bool := fun _ ds => decide (uptoBulkAll ds ≤ 1048576)
def OpenSpec.upto (s : _root_.Go.ChangeSpec) : _root_.Go.OpenSpec := { _root_.Go.OpenSpec.ofChange s with cond := some uptoSmall }

/-- 'anvillaw12.SynthProducts', WHERE WHAT IT READS IS OF BULK AT MOST 1048576: true; the input reads as it did. -/
def synthProductsUptoRow : OpenClaim := { program := "ytelbhbbiejalhaagreat", sum := "e10b4f90c0e6d7edca390a8cf10d240fc94722ec03c8264c1835ab78588deeb7", func := "anvil/anvillaw12.SynthProducts", spec := "synthProducts", unfollowed := true, recurses := true, apart := false, narrowed := true }
def SynthProductsUptoSaid : Prop := synthProductsUptoRow.holds Tryz.pinned (OpenSpec.upto synthProductsSpec)

/-- 'anvillaw12.SynthValues', WHERE WHAT IT READS IS OF BULK AT MOST 1048576: true; the input reads as it did. -/
def synthValuesUptoRow : OpenClaim := { program := "ytelbhbbiejalhaagreat", sum := "e10b4f90c0e6d7edca390a8cf10d240fc94722ec03c8264c1835ab78588deeb7", func := "anvil/anvillaw12.SynthValues", spec := "synthValues", unfollowed := true, recurses := true, apart := false, narrowed := true }
def SynthValuesUptoSaid : Prop := synthValuesUptoRow.holds Tryz.pinned (OpenSpec.upto synthValuesSpec)

/-- 'anvillaw12.SynthBends', WHERE WHAT IT READS IS OF BULK AT MOST 1048576: true; the input reads as it did. -/
def synthBendsUptoRow : OpenClaim := { program := "ytelbhbbiejalhaagreat", sum := "e10b4f90c0e6d7edca390a8cf10d240fc94722ec03c8264c1835ab78588deeb7", func := "anvil/anvillaw12.SynthBends", spec := "synthBends", unfollowed := true, recurses := true, apart := false, narrowed := true }
def SynthBendsUptoSaid : Prop := synthBendsUptoRow.holds Tryz.pinned (OpenSpec.upto synthBendsSpec)

end Rows
end Go.Proofs.YtelbhbbiejalhaaGreat
