/-
  NARROWER THAN 'FOR EVERY INPUT', by the rows' own cells (each row's printed sentence says how): ToomMuls: laid · ToomNews: laid · ToomLevels: laid · ToomForetells: laid · ToomAlike: laid · ToomCounts: laid · ToomClosed: laid · NumberMuls: laid · NumberBack: laid · NumberCuts: laid · NumberPows: laid · NumberProduct: laid · NumberPower: laid.
  DERIVED. THE GIVEN ROWS OF THIS SEAT. 13 by the template 'for every input the law returns true; each argument reads behind the call as it read before'; 0 by the template 'total and deterministic' (their statements: YtngphgeghfdjbaaGreatDoorTotals.lean).
  GIVEN WITH THE SEED: the statements are not yours to turn. If you find one false, say at which input.
  Laid BY PROGRAM, IN A SANDBOX (cutbox-rows.mjs): the forced cells as the released guide's own fill.sh prints them over the translation bf1593a9f8e0d0b1… (all of the seat's roots in one cut). By AI agents, Wed Nov 11 2026. No macro, syntax, notation, axiom, sorry.
-/
import Derived.Test.YtngphgeghfdjbaaGreatDoorChecked
import GoSem.PinnedTables
import GoSem.Claim
import GoSem.ClaimJoined
import GoSem.ClaimMapViews
import Derived.JoinedTies
import Derived.KernelRfl
namespace Go.Proofs.YtngphgeghfdjbaaGreatDoor
/- THE CELL 'sum', in the pinned program and in every row, IS THE sha256 OF THE DUMP (.gsa) THAT YtngphgeghfdjbaaGreatDoorProg.lean LOADS. Nothing in Lean hashes anything: it is a label: what it is worth is what the hold of that sum in a sandbox is worth. -/
noncomputable def Tryz.pinned : Pinned := { name := "ytngphgeghfdjbaagreatdoor", sum := "bf1593a9f8e0d0b1d4f589264f34a2d6b9c2f3722e8647c4d7c77e37ed3bc6f2", checked := Tryz.checked }
namespace Rows
def none {H : Type} : Left H := { results := [], args := [] }

/- WHAT THE LISTED PACKAGE-LEVEL VARIABLES READ AS WHEN THE CALL BEGINS. Each datum BY PROGRAM (the guide's laid-datum.mjs) off the statement by which the dump's own 'gosem.cut.vars' lays the variable. In a bare row this is a premise. The card (YtngphgeghfdjbaaGreatDoorCards.lean) ties it to the program's text. -/
def laid_math_bits_deBruijn32tab {H : Type} : DataW H := .agg [.lit (.int .u8 0), .lit (.int .u8 1), .lit (.int .u8 28), .lit (.int .u8 2), .lit (.int .u8 29), .lit (.int .u8 14), .lit (.int .u8 24), .lit (.int .u8 3), .lit (.int .u8 30), .lit (.int .u8 22), .lit (.int .u8 20), .lit (.int .u8 15), .lit (.int .u8 25), .lit (.int .u8 17), .lit (.int .u8 4), .lit (.int .u8 8), .lit (.int .u8 31), .lit (.int .u8 27), .lit (.int .u8 13), .lit (.int .u8 23), .lit (.int .u8 21), .lit (.int .u8 19), .lit (.int .u8 16), .lit (.int .u8 7), .lit (.int .u8 26), .lit (.int .u8 12), .lit (.int .u8 18), .lit (.int .u8 6), .lit (.int .u8 11), .lit (.int .u8 5), .lit (.int .u8 10), .lit (.int .u8 9)]
def laid_math_bits_deBruijn64tab {H : Type} : DataW H := .agg [.lit (.int .u8 0), .lit (.int .u8 1), .lit (.int .u8 56), .lit (.int .u8 2), .lit (.int .u8 57), .lit (.int .u8 49), .lit (.int .u8 28), .lit (.int .u8 3), .lit (.int .u8 61), .lit (.int .u8 58), .lit (.int .u8 42), .lit (.int .u8 50), .lit (.int .u8 38), .lit (.int .u8 29), .lit (.int .u8 17), .lit (.int .u8 4), .lit (.int .u8 62), .lit (.int .u8 47), .lit (.int .u8 59), .lit (.int .u8 36), .lit (.int .u8 45), .lit (.int .u8 43), .lit (.int .u8 51), .lit (.int .u8 22), .lit (.int .u8 53), .lit (.int .u8 39), .lit (.int .u8 33), .lit (.int .u8 30), .lit (.int .u8 24), .lit (.int .u8 18), .lit (.int .u8 12), .lit (.int .u8 5), .lit (.int .u8 63), .lit (.int .u8 55), .lit (.int .u8 48), .lit (.int .u8 27), .lit (.int .u8 60), .lit (.int .u8 41), .lit (.int .u8 37), .lit (.int .u8 16), .lit (.int .u8 46), .lit (.int .u8 35), .lit (.int .u8 44), .lit (.int .u8 21), .lit (.int .u8 52), .lit (.int .u8 32), .lit (.int .u8 23), .lit (.int .u8 11), .lit (.int .u8 54), .lit (.int .u8 26), .lit (.int .u8 40), .lit (.int .u8 15), .lit (.int .u8 34), .lit (.int .u8 20), .lit (.int .u8 31), .lit (.int .u8 10), .lit (.int .u8 25), .lit (.int .u8 14), .lit (.int .u8 19), .lit (.int .u8 9), .lit (.int .u8 13), .lit (.int .u8 8), .lit (.int .u8 7), .lit (.int .u8 6)]
def laid_unicode_utf8_acceptRanges {H : Type} : DataW H := .agg [.agg [.lit (.int .u8 128), .lit (.int .u8 191)], .agg [.lit (.int .u8 160), .lit (.int .u8 191)], .agg [.lit (.int .u8 128), .lit (.int .u8 159)], .agg [.lit (.int .u8 144), .lit (.int .u8 191)], .agg [.lit (.int .u8 128), .lit (.int .u8 143)], .agg [.lit (.int .u8 0), .lit (.int .u8 0)], .agg [.lit (.int .u8 0), .lit (.int .u8 0)], .agg [.lit (.int .u8 0), .lit (.int .u8 0)], .agg [.lit (.int .u8 0), .lit (.int .u8 0)], .agg [.lit (.int .u8 0), .lit (.int .u8 0)], .agg [.lit (.int .u8 0), .lit (.int .u8 0)], .agg [.lit (.int .u8 0), .lit (.int .u8 0)], .agg [.lit (.int .u8 0), .lit (.int .u8 0)], .agg [.lit (.int .u8 0), .lit (.int .u8 0)], .agg [.lit (.int .u8 0), .lit (.int .u8 0)], .agg [.lit (.int .u8 0), .lit (.int .u8 0)]]
/-- One of Go's own tables, pinned by name: the form's constant. -/
def laid_unicode_utf8_first : DataW Unit := Go.Pinned.utf8First

/-- 'anvillaw22.ToomMuls': WHATEVER THE INPUT: true; the input reads as it did. -/
def toomMulsSpec : ChangeSpec := { name := "toomMuls", fn := fun _ => fun
  | [d1, d2, d3, d4] => { results := [.lit (.bool true)], args := [d1, d2, d3, d4] }
  | _ => none }
def toomMulsRow : OpenClaim := { program := "ytngphgeghfdjbaagreatdoor", sum := "bf1593a9f8e0d0b1d4f589264f34a2d6b9c2f3722e8647c4d7c77e37ed3bc6f2", func := "anvil/anvillaw22.ToomMuls", spec := "toomMuls", inPlace := ["internal/bytealg.IndexByteString", "internal/bytealg.IndexString", "internal/abi.NoEscape"], unfollowed := true, recurses := true, named := ["math/bits.deBruijn32tab", "math/bits.deBruijn64tab", "unicode/utf8.first", "unicode/utf8.acceptRanges", "internal/bytealg.MaxLen"], plainKeys := false, apart := false, laid := [("math/bits.deBruijn32tab", laid_math_bits_deBruijn32tab), ("math/bits.deBruijn64tab", laid_math_bits_deBruijn64tab), ("unicode/utf8.acceptRanges", laid_unicode_utf8_acceptRanges), ("unicode/utf8.first", laid_unicode_utf8_first)] }
def ToomMulsSaid : Prop := toomMulsRow.holds Tryz.pinned (OpenSpec.ofChange toomMulsSpec)

/-- ITS FALSE NEIGHBOUR: 'it returns false'. Refute it at one input. -/
def toomMulsWrong : ChangeSpec := { name := "toomMuls", fn := fun _ => fun
  | [d1, d2, d3, d4] => { results := [.lit (.bool false)], args := [d1, d2, d3, d4] }
  | _ => none }
def ToomMulsWrongFalsely : Prop := toomMulsRow.holds Tryz.pinned (OpenSpec.ofChange toomMulsWrong)

/-- 'anvillaw22.ToomNews': WHATEVER THE INPUT: true; the input reads as it did. -/
def toomNewsSpec : ChangeSpec := { name := "toomNews", fn := fun _ => fun
  | [d] => { results := [.lit (.bool true)], args := [d] }
  | _ => none }
def toomNewsRow : OpenClaim := { program := "ytngphgeghfdjbaagreatdoor", sum := "bf1593a9f8e0d0b1d4f589264f34a2d6b9c2f3722e8647c4d7c77e37ed3bc6f2", func := "anvil/anvillaw22.ToomNews", spec := "toomNews", inPlace := ["internal/bytealg.IndexByteString", "internal/bytealg.IndexString", "internal/abi.NoEscape"], unfollowed := true, recurses := true, named := ["math/bits.deBruijn32tab", "math/bits.deBruijn64tab", "unicode/utf8.first", "unicode/utf8.acceptRanges", "internal/bytealg.MaxLen"], plainKeys := false, apart := false, laid := [("math/bits.deBruijn32tab", laid_math_bits_deBruijn32tab), ("math/bits.deBruijn64tab", laid_math_bits_deBruijn64tab), ("unicode/utf8.acceptRanges", laid_unicode_utf8_acceptRanges), ("unicode/utf8.first", laid_unicode_utf8_first)] }
def ToomNewsSaid : Prop := toomNewsRow.holds Tryz.pinned (OpenSpec.ofChange toomNewsSpec)

/-- ITS FALSE NEIGHBOUR: 'it returns false'. Refute it at one input. -/
def toomNewsWrong : ChangeSpec := { name := "toomNews", fn := fun _ => fun
  | [d] => { results := [.lit (.bool false)], args := [d] }
  | _ => none }
def ToomNewsWrongFalsely : Prop := toomNewsRow.holds Tryz.pinned (OpenSpec.ofChange toomNewsWrong)

/-- 'anvillaw22.ToomLevels': WHATEVER THE INPUT: true; the input reads as it did. -/
def toomLevelsSpec : ChangeSpec := { name := "toomLevels", fn := fun _ => fun
  | [d1, d2, d3] => { results := [.lit (.bool true)], args := [d1, d2, d3] }
  | _ => none }
def toomLevelsRow : OpenClaim := { program := "ytngphgeghfdjbaagreatdoor", sum := "bf1593a9f8e0d0b1d4f589264f34a2d6b9c2f3722e8647c4d7c77e37ed3bc6f2", func := "anvil/anvillaw22.ToomLevels", spec := "toomLevels", inPlace := ["internal/bytealg.IndexByteString", "internal/bytealg.IndexString", "internal/abi.NoEscape"], unfollowed := true, recurses := true, named := ["math/bits.deBruijn32tab", "math/bits.deBruijn64tab", "unicode/utf8.first", "unicode/utf8.acceptRanges", "internal/bytealg.MaxLen"], plainKeys := false, apart := false, laid := [("math/bits.deBruijn32tab", laid_math_bits_deBruijn32tab), ("math/bits.deBruijn64tab", laid_math_bits_deBruijn64tab), ("unicode/utf8.acceptRanges", laid_unicode_utf8_acceptRanges), ("unicode/utf8.first", laid_unicode_utf8_first)] }
def ToomLevelsSaid : Prop := toomLevelsRow.holds Tryz.pinned (OpenSpec.ofChange toomLevelsSpec)

/-- ITS FALSE NEIGHBOUR: 'it returns false'. Refute it at one input. -/
def toomLevelsWrong : ChangeSpec := { name := "toomLevels", fn := fun _ => fun
  | [d1, d2, d3] => { results := [.lit (.bool false)], args := [d1, d2, d3] }
  | _ => none }
def ToomLevelsWrongFalsely : Prop := toomLevelsRow.holds Tryz.pinned (OpenSpec.ofChange toomLevelsWrong)

/-- 'anvillaw22.ToomForetells': WHATEVER THE INPUT: true; the input reads as it did. -/
def toomForetellsSpec : ChangeSpec := { name := "toomForetells", fn := fun _ => fun
  | [d1, d2, d3, d4, d5] => { results := [.lit (.bool true)], args := [d1, d2, d3, d4, d5] }
  | _ => none }
def toomForetellsRow : OpenClaim := { program := "ytngphgeghfdjbaagreatdoor", sum := "bf1593a9f8e0d0b1d4f589264f34a2d6b9c2f3722e8647c4d7c77e37ed3bc6f2", func := "anvil/anvillaw22.ToomForetells", spec := "toomForetells", inPlace := ["internal/bytealg.IndexByteString", "internal/bytealg.IndexString", "internal/abi.NoEscape"], unfollowed := true, recurses := true, named := ["math/bits.deBruijn32tab", "math/bits.deBruijn64tab", "unicode/utf8.first", "unicode/utf8.acceptRanges", "internal/bytealg.MaxLen"], plainKeys := false, apart := false, laid := [("math/bits.deBruijn32tab", laid_math_bits_deBruijn32tab), ("math/bits.deBruijn64tab", laid_math_bits_deBruijn64tab), ("unicode/utf8.acceptRanges", laid_unicode_utf8_acceptRanges), ("unicode/utf8.first", laid_unicode_utf8_first)] }
def ToomForetellsSaid : Prop := toomForetellsRow.holds Tryz.pinned (OpenSpec.ofChange toomForetellsSpec)

/-- ITS FALSE NEIGHBOUR: 'it returns false'. Refute it at one input. -/
def toomForetellsWrong : ChangeSpec := { name := "toomForetells", fn := fun _ => fun
  | [d1, d2, d3, d4, d5] => { results := [.lit (.bool false)], args := [d1, d2, d3, d4, d5] }
  | _ => none }
def ToomForetellsWrongFalsely : Prop := toomForetellsRow.holds Tryz.pinned (OpenSpec.ofChange toomForetellsWrong)

/-- 'anvillaw22.ToomAlike': WHATEVER THE INPUT: true; the input reads as it did. -/
def toomAlikeSpec : ChangeSpec := { name := "toomAlike", fn := fun _ => fun
  | [d1, d2, d3, d4, d5, d6] => { results := [.lit (.bool true)], args := [d1, d2, d3, d4, d5, d6] }
  | _ => none }
def toomAlikeRow : OpenClaim := { program := "ytngphgeghfdjbaagreatdoor", sum := "bf1593a9f8e0d0b1d4f589264f34a2d6b9c2f3722e8647c4d7c77e37ed3bc6f2", func := "anvil/anvillaw22.ToomAlike", spec := "toomAlike", inPlace := ["internal/bytealg.IndexByteString", "internal/bytealg.IndexString", "internal/abi.NoEscape"], unfollowed := true, recurses := true, named := ["math/bits.deBruijn32tab", "math/bits.deBruijn64tab", "unicode/utf8.first", "unicode/utf8.acceptRanges", "internal/bytealg.MaxLen"], plainKeys := false, apart := false, laid := [("math/bits.deBruijn32tab", laid_math_bits_deBruijn32tab), ("math/bits.deBruijn64tab", laid_math_bits_deBruijn64tab), ("unicode/utf8.acceptRanges", laid_unicode_utf8_acceptRanges), ("unicode/utf8.first", laid_unicode_utf8_first)] }
def ToomAlikeSaid : Prop := toomAlikeRow.holds Tryz.pinned (OpenSpec.ofChange toomAlikeSpec)

/-- ITS FALSE NEIGHBOUR: 'it returns false'. Refute it at one input. -/
def toomAlikeWrong : ChangeSpec := { name := "toomAlike", fn := fun _ => fun
  | [d1, d2, d3, d4, d5, d6] => { results := [.lit (.bool false)], args := [d1, d2, d3, d4, d5, d6] }
  | _ => none }
def ToomAlikeWrongFalsely : Prop := toomAlikeRow.holds Tryz.pinned (OpenSpec.ofChange toomAlikeWrong)

/-- 'anvillaw22.ToomCounts': WHATEVER THE INPUT: true; the input reads as it did. -/
def toomCountsSpec : ChangeSpec := { name := "toomCounts", fn := fun _ => fun
  | [d1, d2, d3, d4, d5, d6] => { results := [.lit (.bool true)], args := [d1, d2, d3, d4, d5, d6] }
  | _ => none }
def toomCountsRow : OpenClaim := { program := "ytngphgeghfdjbaagreatdoor", sum := "bf1593a9f8e0d0b1d4f589264f34a2d6b9c2f3722e8647c4d7c77e37ed3bc6f2", func := "anvil/anvillaw22.ToomCounts", spec := "toomCounts", inPlace := ["internal/bytealg.IndexByteString", "internal/bytealg.IndexString", "internal/abi.NoEscape"], unfollowed := true, recurses := true, named := ["math/bits.deBruijn32tab", "math/bits.deBruijn64tab", "unicode/utf8.first", "unicode/utf8.acceptRanges", "internal/bytealg.MaxLen"], plainKeys := false, apart := false, laid := [("math/bits.deBruijn32tab", laid_math_bits_deBruijn32tab), ("math/bits.deBruijn64tab", laid_math_bits_deBruijn64tab), ("unicode/utf8.acceptRanges", laid_unicode_utf8_acceptRanges), ("unicode/utf8.first", laid_unicode_utf8_first)] }
def ToomCountsSaid : Prop := toomCountsRow.holds Tryz.pinned (OpenSpec.ofChange toomCountsSpec)

/-- ITS FALSE NEIGHBOUR: 'it returns false'. Refute it at one input. -/
def toomCountsWrong : ChangeSpec := { name := "toomCounts", fn := fun _ => fun
  | [d1, d2, d3, d4, d5, d6] => { results := [.lit (.bool false)], args := [d1, d2, d3, d4, d5, d6] }
  | _ => none }
def ToomCountsWrongFalsely : Prop := toomCountsRow.holds Tryz.pinned (OpenSpec.ofChange toomCountsWrong)

/-- 'anvillaw22.ToomClosed': WHATEVER THE INPUT: true; the input reads as it did. -/
def toomClosedSpec : ChangeSpec := { name := "toomClosed", fn := fun _ => fun
  | [d1, d2, d3, d4, d5, d6] => { results := [.lit (.bool true)], args := [d1, d2, d3, d4, d5, d6] }
  | _ => none }
def toomClosedRow : OpenClaim := { program := "ytngphgeghfdjbaagreatdoor", sum := "bf1593a9f8e0d0b1d4f589264f34a2d6b9c2f3722e8647c4d7c77e37ed3bc6f2", func := "anvil/anvillaw22.ToomClosed", spec := "toomClosed", inPlace := ["internal/bytealg.IndexByteString", "internal/bytealg.IndexString", "internal/abi.NoEscape"], unfollowed := true, recurses := true, named := ["math/bits.deBruijn32tab", "math/bits.deBruijn64tab", "unicode/utf8.first", "unicode/utf8.acceptRanges", "internal/bytealg.MaxLen"], plainKeys := false, apart := false, laid := [("math/bits.deBruijn32tab", laid_math_bits_deBruijn32tab), ("math/bits.deBruijn64tab", laid_math_bits_deBruijn64tab), ("unicode/utf8.acceptRanges", laid_unicode_utf8_acceptRanges), ("unicode/utf8.first", laid_unicode_utf8_first)] }
def ToomClosedSaid : Prop := toomClosedRow.holds Tryz.pinned (OpenSpec.ofChange toomClosedSpec)

/-- ITS FALSE NEIGHBOUR: 'it returns false'. Refute it at one input. -/
def toomClosedWrong : ChangeSpec := { name := "toomClosed", fn := fun _ => fun
  | [d1, d2, d3, d4, d5, d6] => { results := [.lit (.bool false)], args := [d1, d2, d3, d4, d5, d6] }
  | _ => none }
def ToomClosedWrongFalsely : Prop := toomClosedRow.holds Tryz.pinned (OpenSpec.ofChange toomClosedWrong)

/-- 'anvillaw26.NumberMuls': WHATEVER THE INPUT: true; the input reads as it did. -/
def numberMulsSpec : ChangeSpec := { name := "numberMuls", fn := fun _ => fun
  | [d1, d2, d3, d4, d5] => { results := [.lit (.bool true)], args := [d1, d2, d3, d4, d5] }
  | _ => none }
def numberMulsRow : OpenClaim := { program := "ytngphgeghfdjbaagreatdoor", sum := "bf1593a9f8e0d0b1d4f589264f34a2d6b9c2f3722e8647c4d7c77e37ed3bc6f2", func := "anvil/anvillaw26.NumberMuls", spec := "numberMuls", inPlace := ["internal/bytealg.IndexByteString", "internal/bytealg.IndexString", "internal/abi.NoEscape"], unfollowed := true, recurses := true, named := ["math/bits.deBruijn32tab", "math/bits.deBruijn64tab", "unicode/utf8.first", "unicode/utf8.acceptRanges", "internal/bytealg.MaxLen"], plainKeys := false, apart := false, laid := [("math/bits.deBruijn32tab", laid_math_bits_deBruijn32tab), ("math/bits.deBruijn64tab", laid_math_bits_deBruijn64tab), ("unicode/utf8.acceptRanges", laid_unicode_utf8_acceptRanges), ("unicode/utf8.first", laid_unicode_utf8_first)] }
def NumberMulsSaid : Prop := numberMulsRow.holds Tryz.pinned (OpenSpec.ofChange numberMulsSpec)

/-- ITS FALSE NEIGHBOUR: 'it returns false'. Refute it at one input. -/
def numberMulsWrong : ChangeSpec := { name := "numberMuls", fn := fun _ => fun
  | [d1, d2, d3, d4, d5] => { results := [.lit (.bool false)], args := [d1, d2, d3, d4, d5] }
  | _ => none }
def NumberMulsWrongFalsely : Prop := numberMulsRow.holds Tryz.pinned (OpenSpec.ofChange numberMulsWrong)

/-- 'anvillaw26.NumberBack': WHATEVER THE INPUT: true; the input reads as it did. -/
def numberBackSpec : ChangeSpec := { name := "numberBack", fn := fun _ => fun
  | [d1, d2, d3] => { results := [.lit (.bool true)], args := [d1, d2, d3] }
  | _ => none }
def numberBackRow : OpenClaim := { program := "ytngphgeghfdjbaagreatdoor", sum := "bf1593a9f8e0d0b1d4f589264f34a2d6b9c2f3722e8647c4d7c77e37ed3bc6f2", func := "anvil/anvillaw26.NumberBack", spec := "numberBack", inPlace := ["internal/bytealg.IndexByteString", "internal/bytealg.IndexString", "internal/abi.NoEscape"], unfollowed := true, recurses := true, named := ["math/bits.deBruijn32tab", "math/bits.deBruijn64tab", "unicode/utf8.first", "unicode/utf8.acceptRanges", "internal/bytealg.MaxLen"], plainKeys := false, apart := false, laid := [("math/bits.deBruijn32tab", laid_math_bits_deBruijn32tab), ("math/bits.deBruijn64tab", laid_math_bits_deBruijn64tab), ("unicode/utf8.acceptRanges", laid_unicode_utf8_acceptRanges), ("unicode/utf8.first", laid_unicode_utf8_first)] }
def NumberBackSaid : Prop := numberBackRow.holds Tryz.pinned (OpenSpec.ofChange numberBackSpec)

/-- ITS FALSE NEIGHBOUR: 'it returns false'. Refute it at one input. -/
def numberBackWrong : ChangeSpec := { name := "numberBack", fn := fun _ => fun
  | [d1, d2, d3] => { results := [.lit (.bool false)], args := [d1, d2, d3] }
  | _ => none }
def NumberBackWrongFalsely : Prop := numberBackRow.holds Tryz.pinned (OpenSpec.ofChange numberBackWrong)

/-- 'anvillaw26.NumberCuts': WHATEVER THE INPUT: true; the input reads as it did. -/
def numberCutsSpec : ChangeSpec := { name := "numberCuts", fn := fun _ => fun
  | [d1, d2, d3] => { results := [.lit (.bool true)], args := [d1, d2, d3] }
  | _ => none }
def numberCutsRow : OpenClaim := { program := "ytngphgeghfdjbaagreatdoor", sum := "bf1593a9f8e0d0b1d4f589264f34a2d6b9c2f3722e8647c4d7c77e37ed3bc6f2", func := "anvil/anvillaw26.NumberCuts", spec := "numberCuts", inPlace := ["internal/bytealg.IndexByteString", "internal/bytealg.IndexString", "internal/abi.NoEscape"], unfollowed := true, recurses := true, named := ["math/bits.deBruijn32tab", "math/bits.deBruijn64tab", "unicode/utf8.first", "unicode/utf8.acceptRanges", "internal/bytealg.MaxLen"], plainKeys := false, apart := false, laid := [("math/bits.deBruijn32tab", laid_math_bits_deBruijn32tab), ("math/bits.deBruijn64tab", laid_math_bits_deBruijn64tab), ("unicode/utf8.acceptRanges", laid_unicode_utf8_acceptRanges), ("unicode/utf8.first", laid_unicode_utf8_first)] }
def NumberCutsSaid : Prop := numberCutsRow.holds Tryz.pinned (OpenSpec.ofChange numberCutsSpec)

/-- ITS FALSE NEIGHBOUR: 'it returns false'. Refute it at one input. -/
def numberCutsWrong : ChangeSpec := { name := "numberCuts", fn := fun _ => fun
  | [d1, d2, d3] => { results := [.lit (.bool false)], args := [d1, d2, d3] }
  | _ => none }
def NumberCutsWrongFalsely : Prop := numberCutsRow.holds Tryz.pinned (OpenSpec.ofChange numberCutsWrong)

/-- 'anvillaw26.NumberPows': WHATEVER THE INPUT: true; the input reads as it did. -/
def numberPowsSpec : ChangeSpec := { name := "numberPows", fn := fun _ => fun
  | [d1, d2, d3, d4, d5] => { results := [.lit (.bool true)], args := [d1, d2, d3, d4, d5] }
  | _ => none }
def numberPowsRow : OpenClaim := { program := "ytngphgeghfdjbaagreatdoor", sum := "bf1593a9f8e0d0b1d4f589264f34a2d6b9c2f3722e8647c4d7c77e37ed3bc6f2", func := "anvil/anvillaw26.NumberPows", spec := "numberPows", inPlace := ["internal/bytealg.IndexByteString", "internal/bytealg.IndexString", "internal/abi.NoEscape"], unfollowed := true, recurses := true, named := ["math/bits.deBruijn32tab", "math/bits.deBruijn64tab", "unicode/utf8.first", "unicode/utf8.acceptRanges", "internal/bytealg.MaxLen"], plainKeys := false, apart := false, laid := [("math/bits.deBruijn32tab", laid_math_bits_deBruijn32tab), ("math/bits.deBruijn64tab", laid_math_bits_deBruijn64tab), ("unicode/utf8.acceptRanges", laid_unicode_utf8_acceptRanges), ("unicode/utf8.first", laid_unicode_utf8_first)] }
def NumberPowsSaid : Prop := numberPowsRow.holds Tryz.pinned (OpenSpec.ofChange numberPowsSpec)

/-- ITS FALSE NEIGHBOUR: 'it returns false'. Refute it at one input. -/
def numberPowsWrong : ChangeSpec := { name := "numberPows", fn := fun _ => fun
  | [d1, d2, d3, d4, d5] => { results := [.lit (.bool false)], args := [d1, d2, d3, d4, d5] }
  | _ => none }
def NumberPowsWrongFalsely : Prop := numberPowsRow.holds Tryz.pinned (OpenSpec.ofChange numberPowsWrong)

/-- 'anvillaw26.NumberProduct': WHATEVER THE INPUT: true; the input reads as it did. -/
def numberProductSpec : ChangeSpec := { name := "numberProduct", fn := fun _ => fun
  | [d1, d2, d3, d4, d5, d6, d7] => { results := [.lit (.bool true)], args := [d1, d2, d3, d4, d5, d6, d7] }
  | _ => none }
def numberProductRow : OpenClaim := { program := "ytngphgeghfdjbaagreatdoor", sum := "bf1593a9f8e0d0b1d4f589264f34a2d6b9c2f3722e8647c4d7c77e37ed3bc6f2", func := "anvil/anvillaw26.NumberProduct", spec := "numberProduct", inPlace := ["internal/bytealg.IndexByteString", "internal/bytealg.IndexString", "internal/abi.NoEscape"], unfollowed := true, recurses := true, named := ["math/bits.deBruijn32tab", "math/bits.deBruijn64tab", "unicode/utf8.first", "unicode/utf8.acceptRanges", "internal/bytealg.MaxLen"], plainKeys := false, apart := false, laid := [("math/bits.deBruijn32tab", laid_math_bits_deBruijn32tab), ("math/bits.deBruijn64tab", laid_math_bits_deBruijn64tab), ("unicode/utf8.acceptRanges", laid_unicode_utf8_acceptRanges), ("unicode/utf8.first", laid_unicode_utf8_first)] }
def NumberProductSaid : Prop := numberProductRow.holds Tryz.pinned (OpenSpec.ofChange numberProductSpec)

/-- ITS FALSE NEIGHBOUR: 'it returns false'. Refute it at one input. -/
def numberProductWrong : ChangeSpec := { name := "numberProduct", fn := fun _ => fun
  | [d1, d2, d3, d4, d5, d6, d7] => { results := [.lit (.bool false)], args := [d1, d2, d3, d4, d5, d6, d7] }
  | _ => none }
def NumberProductWrongFalsely : Prop := numberProductRow.holds Tryz.pinned (OpenSpec.ofChange numberProductWrong)

/-- 'anvillaw26.NumberPower': WHATEVER THE INPUT: true; the input reads as it did. -/
def numberPowerSpec : ChangeSpec := { name := "numberPower", fn := fun _ => fun
  | [d1, d2, d3, d4, d5] => { results := [.lit (.bool true)], args := [d1, d2, d3, d4, d5] }
  | _ => none }
def numberPowerRow : OpenClaim := { program := "ytngphgeghfdjbaagreatdoor", sum := "bf1593a9f8e0d0b1d4f589264f34a2d6b9c2f3722e8647c4d7c77e37ed3bc6f2", func := "anvil/anvillaw26.NumberPower", spec := "numberPower", inPlace := ["internal/bytealg.IndexByteString", "internal/bytealg.IndexString", "internal/abi.NoEscape"], unfollowed := true, recurses := true, named := ["math/bits.deBruijn32tab", "math/bits.deBruijn64tab", "unicode/utf8.first", "unicode/utf8.acceptRanges", "internal/bytealg.MaxLen"], plainKeys := false, apart := false, laid := [("math/bits.deBruijn32tab", laid_math_bits_deBruijn32tab), ("math/bits.deBruijn64tab", laid_math_bits_deBruijn64tab), ("unicode/utf8.acceptRanges", laid_unicode_utf8_acceptRanges), ("unicode/utf8.first", laid_unicode_utf8_first)] }
def NumberPowerSaid : Prop := numberPowerRow.holds Tryz.pinned (OpenSpec.ofChange numberPowerSpec)

/-- ITS FALSE NEIGHBOUR: 'it returns false'. Refute it at one input. -/
def numberPowerWrong : ChangeSpec := { name := "numberPower", fn := fun _ => fun
  | [d1, d2, d3, d4, d5] => { results := [.lit (.bool false)], args := [d1, d2, d3, d4, d5] }
  | _ => none }
def NumberPowerWrongFalsely : Prop := numberPowerRow.holds Tryz.pinned (OpenSpec.ofChange numberPowerWrong)

/- THE SECOND FORM. 'bulk': how many values and letters a reading holds, each counted each time it is reached (what is shared counts as often as it is met; a slice's spare places count too). A statement '..UptoSaid' is the law's where the arguments, and the package variables that the reading takes, are together of bulk at most 1048576: NARROWER than '..Said'. Prove '..Said' where nothing that the law and all that it calls make is longer than what came in: it says more and counts as full. Else prove '..UptoSaid'. A law counts once. -/
mutual
def uptoBulk {H : Type} : DataW H → Nat
  | .lit (.string bytes) => bytes.length + 1
  | .lit _ => 1
  | .nil => 1
  | .ptr d => uptoBulk d + 1
  | .slice elems spare => uptoBulkAll elems + uptoBulkAll spare + 1
  | .agg parts => uptoBulkAll parts + 1
  | .iface _ d => uptoBulk d + 1
  | .map entries => uptoBulkEntries entries + 1
  | .held _ => 1
def uptoBulkAll {H : Type} : List (DataW H) → Nat
  | [] => 0
  | d :: r => uptoBulk d + uptoBulkAll r
def uptoBulkEntries {H : Type} : List (Lit × DataW H) → Nat
  | [] => 0
  | x :: r => uptoBulkEntry x + uptoBulkEntries r
def uptoBulkEntry {H : Type} : Lit × DataW H → Nat
  | (.string bytes, d) => bytes.length + uptoBulk d + 1
  | (_, d) => uptoBulk d + 1
 end
def uptoSmall : (H : Type) → List (DataW H) → Bool := fun _ ds => decide (uptoBulkAll ds ≤ 1048576)
def OpenSpec.upto (s : _root_.Go.ChangeSpec) : _root_.Go.OpenSpec := { _root_.Go.OpenSpec.ofChange s with cond := some uptoSmall }

/-- 'anvillaw22.ToomMuls', WHERE WHAT IT READS IS OF BULK AT MOST 1048576: true; the input reads as it did. -/
def toomMulsUptoRow : OpenClaim := { program := "ytngphgeghfdjbaagreatdoor", sum := "bf1593a9f8e0d0b1d4f589264f34a2d6b9c2f3722e8647c4d7c77e37ed3bc6f2", func := "anvil/anvillaw22.ToomMuls", spec := "toomMuls", inPlace := ["internal/bytealg.IndexByteString", "internal/bytealg.IndexString", "internal/abi.NoEscape"], unfollowed := true, recurses := true, named := ["math/bits.deBruijn32tab", "math/bits.deBruijn64tab", "unicode/utf8.first", "unicode/utf8.acceptRanges", "internal/bytealg.MaxLen"], plainKeys := false, apart := false, laid := [("math/bits.deBruijn32tab", laid_math_bits_deBruijn32tab), ("math/bits.deBruijn64tab", laid_math_bits_deBruijn64tab), ("unicode/utf8.acceptRanges", laid_unicode_utf8_acceptRanges), ("unicode/utf8.first", laid_unicode_utf8_first)], narrowed := true }
def ToomMulsUptoSaid : Prop := toomMulsUptoRow.holds Tryz.pinned (OpenSpec.upto toomMulsSpec)

/-- 'anvillaw22.ToomNews', WHERE WHAT IT READS IS OF BULK AT MOST 1048576: true; the input reads as it did. -/
def toomNewsUptoRow : OpenClaim := { program := "ytngphgeghfdjbaagreatdoor", sum := "bf1593a9f8e0d0b1d4f589264f34a2d6b9c2f3722e8647c4d7c77e37ed3bc6f2", func := "anvil/anvillaw22.ToomNews", spec := "toomNews", inPlace := ["internal/bytealg.IndexByteString", "internal/bytealg.IndexString", "internal/abi.NoEscape"], unfollowed := true, recurses := true, named := ["math/bits.deBruijn32tab", "math/bits.deBruijn64tab", "unicode/utf8.first", "unicode/utf8.acceptRanges", "internal/bytealg.MaxLen"], plainKeys := false, apart := false, laid := [("math/bits.deBruijn32tab", laid_math_bits_deBruijn32tab), ("math/bits.deBruijn64tab", laid_math_bits_deBruijn64tab), ("unicode/utf8.acceptRanges", laid_unicode_utf8_acceptRanges), ("unicode/utf8.first", laid_unicode_utf8_first)], narrowed := true }
def ToomNewsUptoSaid : Prop := toomNewsUptoRow.holds Tryz.pinned (OpenSpec.upto toomNewsSpec)

/-- 'anvillaw22.ToomLevels', WHERE WHAT IT READS IS OF BULK AT MOST 1048576: true; the input reads as it did. -/
def toomLevelsUptoRow : OpenClaim := { program := "ytngphgeghfdjbaagreatdoor", sum := "bf1593a9f8e0d0b1d4f589264f34a2d6b9c2f3722e8647c4d7c77e37ed3bc6f2", func := "anvil/anvillaw22.ToomLevels", spec := "toomLevels", inPlace := ["internal/bytealg.IndexByteString", "internal/bytealg.IndexString", "internal/abi.NoEscape"], unfollowed := true, recurses := true, named := ["math/bits.deBruijn32tab", "math/bits.deBruijn64tab", "unicode/utf8.first", "unicode/utf8.acceptRanges", "internal/bytealg.MaxLen"], plainKeys := false, apart := false, laid := [("math/bits.deBruijn32tab", laid_math_bits_deBruijn32tab), ("math/bits.deBruijn64tab", laid_math_bits_deBruijn64tab), ("unicode/utf8.acceptRanges", laid_unicode_utf8_acceptRanges), ("unicode/utf8.first", laid_unicode_utf8_first)], narrowed := true }
def ToomLevelsUptoSaid : Prop := toomLevelsUptoRow.holds Tryz.pinned (OpenSpec.upto toomLevelsSpec)

/-- 'anvillaw22.ToomForetells', WHERE WHAT IT READS IS OF BULK AT MOST 1048576: true; the input reads as it did. -/
def toomForetellsUptoRow : OpenClaim := { program := "ytngphgeghfdjbaagreatdoor", sum := "bf1593a9f8e0d0b1d4f589264f34a2d6b9c2f3722e8647c4d7c77e37ed3bc6f2", func := "anvil/anvillaw22.ToomForetells", spec := "toomForetells", inPlace := ["internal/bytealg.IndexByteString", "internal/bytealg.IndexString", "internal/abi.NoEscape"], unfollowed := true, recurses := true, named := ["math/bits.deBruijn32tab", "math/bits.deBruijn64tab", "unicode/utf8.first", "unicode/utf8.acceptRanges", "internal/bytealg.MaxLen"], plainKeys := false, apart := false, laid := [("math/bits.deBruijn32tab", laid_math_bits_deBruijn32tab), ("math/bits.deBruijn64tab", laid_math_bits_deBruijn64tab), ("unicode/utf8.acceptRanges", laid_unicode_utf8_acceptRanges), ("unicode/utf8.first", laid_unicode_utf8_first)], narrowed := true }
def ToomForetellsUptoSaid : Prop := toomForetellsUptoRow.holds Tryz.pinned (OpenSpec.upto toomForetellsSpec)

/-- 'anvillaw22.ToomAlike', WHERE WHAT IT READS IS OF BULK AT MOST 1048576: true; the input reads as it did. -/
def toomAlikeUptoRow : OpenClaim := { program := "ytngphgeghfdjbaagreatdoor", sum := "bf1593a9f8e0d0b1d4f589264f34a2d6b9c2f3722e8647c4d7c77e37ed3bc6f2", func := "anvil/anvillaw22.ToomAlike", spec := "toomAlike", inPlace := ["internal/bytealg.IndexByteString", "internal/bytealg.IndexString", "internal/abi.NoEscape"], unfollowed := true, recurses := true, named := ["math/bits.deBruijn32tab", "math/bits.deBruijn64tab", "unicode/utf8.first", "unicode/utf8.acceptRanges", "internal/bytealg.MaxLen"], plainKeys := false, apart := false, laid := [("math/bits.deBruijn32tab", laid_math_bits_deBruijn32tab), ("math/bits.deBruijn64tab", laid_math_bits_deBruijn64tab), ("unicode/utf8.acceptRanges", laid_unicode_utf8_acceptRanges), ("unicode/utf8.first", laid_unicode_utf8_first)], narrowed := true }
def ToomAlikeUptoSaid : Prop := toomAlikeUptoRow.holds Tryz.pinned (OpenSpec.upto toomAlikeSpec)

/-- 'anvillaw22.ToomCounts', WHERE WHAT IT READS IS OF BULK AT MOST 1048576: true; the input reads as it did. -/
def toomCountsUptoRow : OpenClaim := { program := "ytngphgeghfdjbaagreatdoor", sum := "bf1593a9f8e0d0b1d4f589264f34a2d6b9c2f3722e8647c4d7c77e37ed3bc6f2", func := "anvil/anvillaw22.ToomCounts", spec := "toomCounts", inPlace := ["internal/bytealg.IndexByteString", "internal/bytealg.IndexString", "internal/abi.NoEscape"], unfollowed := true, recurses := true, named := ["math/bits.deBruijn32tab", "math/bits.deBruijn64tab", "unicode/utf8.first", "unicode/utf8.acceptRanges", "internal/bytealg.MaxLen"], plainKeys := false, apart := false, laid := [("math/bits.deBruijn32tab", laid_math_bits_deBruijn32tab), ("math/bits.deBruijn64tab", laid_math_bits_deBruijn64tab), ("unicode/utf8.acceptRanges", laid_unicode_utf8_acceptRanges), ("unicode/utf8.first", laid_unicode_utf8_first)], narrowed := true }
def ToomCountsUptoSaid : Prop := toomCountsUptoRow.holds Tryz.pinned (OpenSpec.upto toomCountsSpec)

/-- 'anvillaw22.ToomClosed', WHERE WHAT IT READS IS OF BULK AT MOST 1048576: true; the input reads as it did. -/
def toomClosedUptoRow : OpenClaim := { program := "ytngphgeghfdjbaagreatdoor", sum := "bf1593a9f8e0d0b1d4f589264f34a2d6b9c2f3722e8647c4d7c77e37ed3bc6f2", func := "anvil/anvillaw22.ToomClosed", spec := "toomClosed", inPlace := ["internal/bytealg.IndexByteString", "internal/bytealg.IndexString", "internal/abi.NoEscape"], unfollowed := true, recurses := true, named := ["math/bits.deBruijn32tab", "math/bits.deBruijn64tab", "unicode/utf8.first", "unicode/utf8.acceptRanges", "internal/bytealg.MaxLen"], plainKeys := false, apart := false, laid := [("math/bits.deBruijn32tab", laid_math_bits_deBruijn32tab), ("math/bits.deBruijn64tab", laid_math_bits_deBruijn64tab), ("unicode/utf8.acceptRanges", laid_unicode_utf8_acceptRanges), ("unicode/utf8.first", laid_unicode_utf8_first)], narrowed := true }
def ToomClosedUptoSaid : Prop := toomClosedUptoRow.holds Tryz.pinned (OpenSpec.upto toomClosedSpec)

/-- 'anvillaw26.NumberMuls', WHERE WHAT IT READS IS OF BULK AT MOST 1048576: true; the input reads as it did. -/
def numberMulsUptoRow : OpenClaim := { program := "ytngphgeghfdjbaagreatdoor", sum := "bf1593a9f8e0d0b1d4f589264f34a2d6b9c2f3722e8647c4d7c77e37ed3bc6f2", func := "anvil/anvillaw26.NumberMuls", spec := "numberMuls", inPlace := ["internal/bytealg.IndexByteString", "internal/bytealg.IndexString", "internal/abi.NoEscape"], unfollowed := true, recurses := true, named := ["math/bits.deBruijn32tab", "math/bits.deBruijn64tab", "unicode/utf8.first", "unicode/utf8.acceptRanges", "internal/bytealg.MaxLen"], plainKeys := false, apart := false, laid := [("math/bits.deBruijn32tab", laid_math_bits_deBruijn32tab), ("math/bits.deBruijn64tab", laid_math_bits_deBruijn64tab), ("unicode/utf8.acceptRanges", laid_unicode_utf8_acceptRanges), ("unicode/utf8.first", laid_unicode_utf8_first)], narrowed := true }
def NumberMulsUptoSaid : Prop := numberMulsUptoRow.holds Tryz.pinned (OpenSpec.upto numberMulsSpec)

/-- 'anvillaw26.NumberBack', WHERE WHAT IT READS IS OF BULK AT MOST 1048576: true; the input reads as it did. -/
def numberBackUptoRow : OpenClaim := { program := "ytngphgeghfdjbaagreatdoor", sum := "bf1593a9f8e0d0b1d4f589264f34a2d6b9c2f3722e8647c4d7c77e37ed3bc6f2", func := "anvil/anvillaw26.NumberBack", spec := "numberBack", inPlace := ["internal/bytealg.IndexByteString", "internal/bytealg.IndexString", "internal/abi.NoEscape"], unfollowed := true, recurses := true, named := ["math/bits.deBruijn32tab", "math/bits.deBruijn64tab", "unicode/utf8.first", "unicode/utf8.acceptRanges", "internal/bytealg.MaxLen"], plainKeys := false, apart := false, laid := [("math/bits.deBruijn32tab", laid_math_bits_deBruijn32tab), ("math/bits.deBruijn64tab", laid_math_bits_deBruijn64tab), ("unicode/utf8.acceptRanges", laid_unicode_utf8_acceptRanges), ("unicode/utf8.first", laid_unicode_utf8_first)], narrowed := true }
def NumberBackUptoSaid : Prop := numberBackUptoRow.holds Tryz.pinned (OpenSpec.upto numberBackSpec)

/-- 'anvillaw26.NumberCuts', WHERE WHAT IT READS IS OF BULK AT MOST 1048576: true; the input reads as it did. -/
def numberCutsUptoRow : OpenClaim := { program := "ytngphgeghfdjbaagreatdoor", sum := "bf1593a9f8e0d0b1d4f589264f34a2d6b9c2f3722e8647c4d7c77e37ed3bc6f2", func := "anvil/anvillaw26.NumberCuts", spec := "numberCuts", inPlace := ["internal/bytealg.IndexByteString", "internal/bytealg.IndexString", "internal/abi.NoEscape"], unfollowed := true, recurses := true, named := ["math/bits.deBruijn32tab", "math/bits.deBruijn64tab", "unicode/utf8.first", "unicode/utf8.acceptRanges", "internal/bytealg.MaxLen"], plainKeys := false, apart := false, laid := [("math/bits.deBruijn32tab", laid_math_bits_deBruijn32tab), ("math/bits.deBruijn64tab", laid_math_bits_deBruijn64tab), ("unicode/utf8.acceptRanges", laid_unicode_utf8_acceptRanges), ("unicode/utf8.first", laid_unicode_utf8_first)], narrowed := true }
def NumberCutsUptoSaid : Prop := numberCutsUptoRow.holds Tryz.pinned (OpenSpec.upto numberCutsSpec)

/-- 'anvillaw26.NumberPows', WHERE WHAT IT READS IS OF BULK AT MOST 1048576: true; the input reads as it did. -/
def numberPowsUptoRow : OpenClaim := { program := "ytngphgeghfdjbaagreatdoor", sum := "bf1593a9f8e0d0b1d4f589264f34a2d6b9c2f3722e8647c4d7c77e37ed3bc6f2", func := "anvil/anvillaw26.NumberPows", spec := "numberPows", inPlace := ["internal/bytealg.IndexByteString", "internal/bytealg.IndexString", "internal/abi.NoEscape"], unfollowed := true, recurses := true, named := ["math/bits.deBruijn32tab", "math/bits.deBruijn64tab", "unicode/utf8.first", "unicode/utf8.acceptRanges", "internal/bytealg.MaxLen"], plainKeys := false, apart := false, laid := [("math/bits.deBruijn32tab", laid_math_bits_deBruijn32tab), ("math/bits.deBruijn64tab", laid_math_bits_deBruijn64tab), ("unicode/utf8.acceptRanges", laid_unicode_utf8_acceptRanges), ("unicode/utf8.first", laid_unicode_utf8_first)], narrowed := true }
def NumberPowsUptoSaid : Prop := numberPowsUptoRow.holds Tryz.pinned (OpenSpec.upto numberPowsSpec)

/-- 'anvillaw26.NumberProduct', WHERE WHAT IT READS IS OF BULK AT MOST 1048576: true; the input reads as it did. -/
def numberProductUptoRow : OpenClaim := { program := "ytngphgeghfdjbaagreatdoor", sum := "bf1593a9f8e0d0b1d4f589264f34a2d6b9c2f3722e8647c4d7c77e37ed3bc6f2", func := "anvil/anvillaw26.NumberProduct", spec := "numberProduct", inPlace := ["internal/bytealg.IndexByteString", "internal/bytealg.IndexString", "internal/abi.NoEscape"], unfollowed := true, recurses := true, named := ["math/bits.deBruijn32tab", "math/bits.deBruijn64tab", "unicode/utf8.first", "unicode/utf8.acceptRanges", "internal/bytealg.MaxLen"], plainKeys := false, apart := false, laid := [("math/bits.deBruijn32tab", laid_math_bits_deBruijn32tab), ("math/bits.deBruijn64tab", laid_math_bits_deBruijn64tab), ("unicode/utf8.acceptRanges", laid_unicode_utf8_acceptRanges), ("unicode/utf8.first", laid_unicode_utf8_first)], narrowed := true }
def NumberProductUptoSaid : Prop := numberProductUptoRow.holds Tryz.pinned (OpenSpec.upto numberProductSpec)

/-- 'anvillaw26.NumberPower', WHERE WHAT IT READS IS OF BULK AT MOST 1048576: true; the input reads as it did. -/
def numberPowerUptoRow : OpenClaim := { program := "ytngphgeghfdjbaagreatdoor", sum := "bf1593a9f8e0d0b1d4f589264f34a2d6b9c2f3722e8647c4d7c77e37ed3bc6f2", func := "anvil/anvillaw26.NumberPower", spec := "numberPower", inPlace := ["internal/bytealg.IndexByteString", "internal/bytealg.IndexString", "internal/abi.NoEscape"], unfollowed := true, recurses := true, named := ["math/bits.deBruijn32tab", "math/bits.deBruijn64tab", "unicode/utf8.first", "unicode/utf8.acceptRanges", "internal/bytealg.MaxLen"], plainKeys := false, apart := false, laid := [("math/bits.deBruijn32tab", laid_math_bits_deBruijn32tab), ("math/bits.deBruijn64tab", laid_math_bits_deBruijn64tab), ("unicode/utf8.acceptRanges", laid_unicode_utf8_acceptRanges), ("unicode/utf8.first", laid_unicode_utf8_first)], narrowed := true }
def NumberPowerUptoSaid : Prop := numberPowerUptoRow.holds Tryz.pinned (OpenSpec.upto numberPowerSpec)

end Rows
end Go.Proofs.YtngphgeghfdjbaaGreatDoor
