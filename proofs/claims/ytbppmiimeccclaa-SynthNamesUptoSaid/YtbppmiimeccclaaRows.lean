/-
  No cell of these rows narrows 'for every input' (looked for: loops, veiled, ifaces, maps, wideKeys, modest, calm, conditions, laid).
  DERIVED. THE GIVEN ROWS OF THIS SEAT. 6 by the template 'for every input the law returns true; each argument reads behind the call as it read before'; 0 by the template 'total and deterministic' (their statements: YtbppmiimeccclaaTotals.lean).
  GIVEN WITH THE SEED: the statements are not yours to turn. If you find one false, say at which input.
  Laid BY PROGRAM, IN A SANDBOX (cutbox-rows.mjs): the forced cells as the released guide's own fill.sh prints them over the translation fab2be841df7289c… (all of the seat's roots in one cut). By AI agents, Wed Nov 11 2026. No macro, syntax, notation, axiom, sorry.
-/
import Derived.Test.YtbppmiimeccclaaChecked
import GoSem.Claim
import GoSem.ClaimJoined
import GoSem.ClaimMapViews
import Derived.JoinedTies
import Derived.KernelRfl
namespace Go.Proofs.Ytbppmiimeccclaa
/- THE CELL 'sum', in the pinned program and in every row, IS THE sha256 OF THE DUMP (.gsa) THAT YtbppmiimeccclaaProg.lean LOADS. Nothing in Lean hashes anything: it is a label: what it is worth is what the hold of that sum in a sandbox is worth. -/
noncomputable def Try.pinned : Pinned := { name := "ytbppmiimeccclaa", sum := "fab2be841df7289c391aeb0adf8a4b76e42aeb63f96757eac5ffeaae6e391a05", checked := Try.checked }
namespace Rows
def none {H : Type} : Left H := { results := [], args := [] }

/-- 'anvillaw14.ShareSame': WHATEVER THE INPUT: true; the input reads as it did. -/
def shareSameSpec : ChangeSpec := { name := "shareSame", fn := fun _ => fun
  | [d1, d2] => { results := [.lit (.bool true)], args := [d1, d2] }
  | _ => none }
def shareSameRow : OpenClaim := { program := "ytbppmiimeccclaa", sum := "fab2be841df7289c391aeb0adf8a4b76e42aeb63f96757eac5ffeaae6e391a05", func := "anvil/anvillaw14.ShareSame", spec := "shareSame", unfollowed := true, recurses := true, plainKeys := false, apart := false }
def ShareSameSaid : Prop := shareSameRow.holds Try.pinned (OpenSpec.ofChange shareSameSpec)

/-- ITS FALSE NEIGHBOUR: 'it returns false'. Refute it at one input. -/
def shareSameWrong : ChangeSpec := { name := "shareSame", fn := fun _ => fun
  | [d1, d2] => { results := [.lit (.bool false)], args := [d1, d2] }
  | _ => none }
def ShareSameWrongFalsely : Prop := shareSameRow.holds Try.pinned (OpenSpec.ofChange shareSameWrong)

/-- 'anvillaw15.DeadBlind': WHATEVER THE INPUT: true; the input reads as it did. -/
def deadBlindSpec : ChangeSpec := { name := "deadBlind", fn := fun _ => fun
  | [d1, d2, d3] => { results := [.lit (.bool true)], args := [d1, d2, d3] }
  | _ => none }
def deadBlindRow : OpenClaim := { program := "ytbppmiimeccclaa", sum := "fab2be841df7289c391aeb0adf8a4b76e42aeb63f96757eac5ffeaae6e391a05", func := "anvil/anvillaw15.DeadBlind", spec := "deadBlind", unfollowed := true, recurses := true, plainKeys := false, apart := false }
def DeadBlindSaid : Prop := deadBlindRow.holds Try.pinned (OpenSpec.ofChange deadBlindSpec)

/-- ITS FALSE NEIGHBOUR: 'it returns false'. Refute it at one input. -/
def deadBlindWrong : ChangeSpec := { name := "deadBlind", fn := fun _ => fun
  | [d1, d2, d3] => { results := [.lit (.bool false)], args := [d1, d2, d3] }
  | _ => none }
def DeadBlindWrongFalsely : Prop := deadBlindRow.holds Try.pinned (OpenSpec.ofChange deadBlindWrong)

/-- 'anvillaw12.SynthRight': WHATEVER THE INPUT: true; the input reads as it did. -/
def synthRightSpec : ChangeSpec := { name := "synthRight", fn := fun _ => fun
  | [d] => { results := [.lit (.bool true)], args := [d] }
  | _ => none }
def synthRightRow : OpenClaim := { program := "ytbppmiimeccclaa", sum := "fab2be841df7289c391aeb0adf8a4b76e42aeb63f96757eac5ffeaae6e391a05", func := "anvil/anvillaw12.SynthRight", spec := "synthRight", recurses := true, plainKeys := false, apart := false }
def SynthRightSaid : Prop := synthRightRow.holds Try.pinned (OpenSpec.ofChange synthRightSpec)

/-- ITS FALSE NEIGHBOUR: 'it returns false'. Refute it at one input. -/
def synthRightWrong : ChangeSpec := { name := "synthRight", fn := fun _ => fun
  | [d] => { results := [.lit (.bool false)], args := [d] }
  | _ => none }
def SynthRightWrongFalsely : Prop := synthRightRow.holds Try.pinned (OpenSpec.ofChange synthRightWrong)

/-- 'anvillaw12.SynthOrders': WHATEVER THE INPUT: true; the input reads as it did. -/
def synthOrdersSpec : ChangeSpec := { name := "synthOrders", fn := fun _ => fun
  | [d1, d2] => { results := [.lit (.bool true)], args := [d1, d2] }
  | _ => none }
def synthOrdersRow : OpenClaim := { program := "ytbppmiimeccclaa", sum := "fab2be841df7289c391aeb0adf8a4b76e42aeb63f96757eac5ffeaae6e391a05", func := "anvil/anvillaw12.SynthOrders", spec := "synthOrders", unfollowed := true, recurses := true, plainKeys := false, apart := false }
def SynthOrdersSaid : Prop := synthOrdersRow.holds Try.pinned (OpenSpec.ofChange synthOrdersSpec)

/-- ITS FALSE NEIGHBOUR: 'it returns false'. Refute it at one input. -/
def synthOrdersWrong : ChangeSpec := { name := "synthOrders", fn := fun _ => fun
  | [d1, d2] => { results := [.lit (.bool false)], args := [d1, d2] }
  | _ => none }
def SynthOrdersWrongFalsely : Prop := synthOrdersRow.holds Try.pinned (OpenSpec.ofChange synthOrdersWrong)

/-- 'anvillaw12.SynthPrograms': WHATEVER THE INPUT: true; the input reads as it did. -/
def synthProgramsSpec : ChangeSpec := { name := "synthPrograms", fn := fun _ => fun
  | [d] => { results := [.lit (.bool true)], args := [d] }
  | _ => none }
def synthProgramsRow : OpenClaim := { program := "ytbppmiimeccclaa", sum := "fab2be841df7289c391aeb0adf8a4b76e42aeb63f96757eac5ffeaae6e391a05", func := "anvil/anvillaw12.SynthPrograms", spec := "synthPrograms", unfollowed := true, recurses := true, plainKeys := false, apart := false }
def SynthProgramsSaid : Prop := synthProgramsRow.holds Try.pinned (OpenSpec.ofChange synthProgramsSpec)

/-- ITS FALSE NEIGHBOUR: 'it returns false'. Refute it at one input. -/
def synthProgramsWrong : ChangeSpec := { name := "synthPrograms", fn := fun _ => fun
  | [d] => { results := [.lit (.bool false)], args := [d] }
  | _ => none }
def SynthProgramsWrongFalsely : Prop := synthProgramsRow.holds Try.pinned (OpenSpec.ofChange synthProgramsWrong)

/-- 'anvillaw12.SynthNames': WHATEVER THE INPUT: true; the input reads as it did. -/
def synthNamesSpec : ChangeSpec := { name := "synthNames", fn := fun _ => fun
  | [] => { results := [.lit (.bool true)], args := [] }
  | _ => none }
def synthNamesRow : OpenClaim := { program := "ytbppmiimeccclaa", sum := "fab2be841df7289c391aeb0adf8a4b76e42aeb63f96757eac5ffeaae6e391a05", func := "anvil/anvillaw12.SynthNames", spec := "synthNames", unfollowed := true, recurses := true, plainKeys := false, apart := false }
def SynthNamesSaid : Prop := synthNamesRow.holds Try.pinned (OpenSpec.ofChange synthNamesSpec)

/-- ITS FALSE NEIGHBOUR: 'it returns false'. Refute it at one input. -/
def synthNamesWrong : ChangeSpec := { name := "synthNames", fn := fun _ => fun
  | [] => { results := [.lit (.bool false)], args := [] }
  | _ => none }
def SynthNamesWrongFalsely : Prop := synthNamesRow.holds Try.pinned (OpenSpec.ofChange synthNamesWrong)

/- THE SECOND FORM. 'bulk': how many values and letters a reading holds, each counted each time it is reached (what is shared counts as often as it is met; a slice's spare places count too). A statement '..UptoSaid' is the law's where the arguments, and the package variables that the reading takes, are together of bulk at most 1048576: NARROWER than '..Said'. Prove '..Said' where nothing that the law and all that it calls make is longer than what came in: it says more and counts as full. Else prove '..UptoSaid'. A law counts once. -/
mutual
def uptoBulk {H : Type} : DataW H → Nat
  | .lit (.string bytes) => bytes.length + 1
  | .lit _ => 1
  | .nil => 1
  | .ptr d => uptoBulk d + 1
  | .slice elems spare => uptoBulkAll elems + uptoBulkAll spare + 1
  | .agg parts => uptoBulkAll parts + 1
  | .iface _ d => uptoBulk d + 1
  | .map entries => uptoBulkEntries entries + 1
  | .held _ => 1
def uptoBulkAll {H : Type} : List (DataW H) → Nat
  | [] => 0
  | d :: r => uptoBulk d + uptoBulkAll r
def uptoBulkEntries {H : Type} : List (Lit × DataW H) → Nat
  | [] => 0
  | x :: r => uptoBulkEntry x + uptoBulkEntries r
def uptoBulkEntry {H : Type} : Lit × DataW H → Nat
  | (.string bytes, d) => bytes.length + uptoBulk d + 1
  | (_, d) => uptoBulk d + 1
 end
def uptoSmall : (H : Type) → List (DataW H) → Bool := fun _ ds => decide (uptoBulkAll ds ≤ 1048576)
def OpenSpec.upto (s : _root_.Go.ChangeSpec) : _root_.Go.OpenSpec := { _root_.Go.OpenSpec.ofChange s with cond := some uptoSmall }

/-- 'anvillaw14.ShareSame', WHERE WHAT IT READS IS OF BULK AT MOST 1048576: true; the input reads as it did. -/
def shareSameUptoRow : OpenClaim := { program := "ytbppmiimeccclaa", sum := "fab2be841df7289c391aeb0adf8a4b76e42aeb63f96757eac5ffeaae6e391a05", func := "anvil/anvillaw14.ShareSame", spec := "shareSame", unfollowed := true, recurses := true, plainKeys := false, apart := false, narrowed := true }
def ShareSameUptoSaid : Prop := shareSameUptoRow.holds Try.pinned (OpenSpec.upto shareSameSpec)

/-- 'anvillaw15.DeadBlind', WHERE WHAT IT READS IS OF BULK AT MOST 1048576: true; the input reads as it did. -/
def deadBlindUptoRow : OpenClaim := { program := "ytbppmiimeccclaa", sum := "fab2be841df7289c391aeb0adf8a4b76e42aeb63f96757eac5ffeaae6e391a05", func := "anvil/anvillaw15.DeadBlind", spec := "deadBlind", unfollowed := true, recurses := true, plainKeys := false, apart := false, narrowed := true }
def DeadBlindUptoSaid : Prop := deadBlindUptoRow.holds Try.pinned (OpenSpec.upto deadBlindSpec)

/-- 'anvillaw12.SynthRight', WHERE WHAT IT READS IS OF BULK AT MOST 1048576: true; the input reads as it did. -/
def synthRightUptoRow : OpenClaim := { program := "ytbppmiimeccclaa", sum := "fab2be841df7289c391aeb0adf8a4b76e42aeb63f96757eac5ffeaae6e391a05", func := "anvil/anvillaw12.SynthRight", spec := "synthRight", recurses := true, plainKeys := false, apart := false, narrowed := true }
def SynthRightUptoSaid : Prop := synthRightUptoRow.holds Try.pinned (OpenSpec.upto synthRightSpec)

/-- 'anvillaw12.SynthOrders', WHERE WHAT IT READS IS OF BULK AT MOST 1048576: true; the input reads as it did. -/
def synthOrdersUptoRow : OpenClaim := { program := "ytbppmiimeccclaa", sum := "fab2be841df7289c391aeb0adf8a4b76e42aeb63f96757eac5ffeaae6e391a05", func := "anvil/anvillaw12.SynthOrders", spec := "synthOrders", unfollowed := true, recurses := true, plainKeys := false, apart := false, narrowed := true }
def SynthOrdersUptoSaid : Prop := synthOrdersUptoRow.holds Try.pinned (OpenSpec.upto synthOrdersSpec)

/-- 'anvillaw12.SynthPrograms', WHERE WHAT IT READS IS OF BULK AT MOST 1048576: true; the input reads as it did. -/
def synthProgramsUptoRow : OpenClaim := { program := "ytbppmiimeccclaa", sum := "fab2be841df7289c391aeb0adf8a4b76e42aeb63f96757eac5ffeaae6e391a05", func := "anvil/anvillaw12.SynthPrograms", spec := "synthPrograms", unfollowed := true, recurses := true, plainKeys := false, apart := false, narrowed := true }
def SynthProgramsUptoSaid : Prop := synthProgramsUptoRow.holds Try.pinned (OpenSpec.upto synthProgramsSpec)

/-- 'anvillaw12.SynthNames', WHERE WHAT IT READS IS OF BULK AT MOST 1048576: true; the input reads as it did. -/
def synthNamesUptoRow : OpenClaim := { program := "ytbppmiimeccclaa", sum := "fab2be841df7289c391aeb0adf8a4b76e42aeb63f96757eac5ffeaae6e391a05", func := "anvil/anvillaw12.SynthNames", spec := "synthNames", unfollowed := true, recurses := true, plainKeys := false, apart := false, narrowed := true }
def SynthNamesUptoSaid : Prop := synthNamesUptoRow.holds Try.pinned (OpenSpec.upto synthNamesSpec)

end Rows
end Go.Proofs.Ytbppmiimeccclaa
