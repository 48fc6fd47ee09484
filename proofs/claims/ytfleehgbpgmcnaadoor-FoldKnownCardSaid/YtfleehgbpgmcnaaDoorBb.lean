/- The listed table: what it holds; a world that holds it; an instruction that comes in as an argument. -/
import Derived.Test.YtfleehgbpgmcnaaDoorCards
import Derived.Test.YtfleehgbpgmcnaaDoorTie
import Derived.Test.YtfleehgbpgmcnaaDoorBa
import Derived.Test.YtfleehgbpgmcnaaDoorAl
import Derived.Deep.DeepHandedRow
import Derived.Lib.LaidTab
namespace Go.Proofs.YtfleehgbpgmcnaaDoor
open Go Go.Sl Go.ChangeShapes Go.WideShapes Go.RowKit Go.Joins
set_option linter.unusedVariables false
set_option maxRecDepth 100000

abbrev laidL : List (String × DataW Unit) := [("math/bits.deBruijn32tab", Rows.laid_math_bits_deBruijn32tab), ("math/bits.deBruijn64tab", Rows.laid_math_bits_deBruijn64tab)]
def nums64 : List Int := [0, 1, 56, 2, 57, 49, 28, 3, 61, 58, 42, 50, 38, 29, 17, 4, 62, 47, 59, 36, 45, 43, 51, 22, 53, 39, 33, 30, 24, 18, 12, 5, 63, 55, 48, 27, 60, 41, 37, 16, 46, 35, 44, 21, 52, 32, 23, 11, 54, 26, 40, 15, 34, 20, 31, 10, 25, 14, 19, 9, 13, 8, 7, 6]
theorem gTab : Tryd.prog.globalNamed "math/bits.deBruijn64tab" = some 1 := by kernel_rfl
theorem gTabType : (Tryd.prog.globals[1]?).map (·.type) = some 72 := by kernel_rfl
theorem und72 : Tryd.prog.underlying 72 = some (.array 64 5) := by kernel_rfl
theorem und5 : Tryd.prog.underlying 5 = some (.int .u8) := by kernel_rfl
theorem cells72 : Tryd.prog.cellsOf 72 = 64 := by kernel_rfl
theorem cells5 : Tryd.prog.cellsOf 5 = 1 := by kernel_rfl
theorem table {W : World} (h : laidMetH Tryd.prog laidL W) : Lib.TabIs Tryd.prog W "math/bits.deBruijn64tab" .u8 nums64 := by
  have h1 := h.filter (fun x => x.1 == "math/bits.deBruijn64tab")
  have e : laidL.filter (fun x => x.1 == "math/bits.deBruijn64tab") = [("math/bits.deBruijn64tab", Rows.laid_math_bits_deBruijn64tab)] := by kernel_rfl
  rw [e] at h1
  exact Lib.tabIs_of_head (rest := []) gTab gTabType und72 und5 cells5 cells72 h1
theorem tab_ok {W : World} (h : laidMetH Tryd.prog laidL W) : TabOk (heapG W) := fun k v hv => by
  have hk : k < nums64.length := by
    have := (List.getElem?_eq_some_iff.1 hv).1
    simpa [tab64, nums64] using this
  have h1 := (table h).cell gTab k hk
  have h2 := cell_heapG h1
  rw [h2]
  have e : tab64 = nums64.map fun n => .int .u8 n := rfl
  rw [e, List.getElem?_map, List.getElem?_eq_getElem hk] at hv
  rw [← hv, List.getD_eq_getElem?_getD, List.getElem?_eq_getElem hk]; rfl
theorem open_instr {H : Type} {enc : TypeId × Value → H} {W : World} {r : Reach} {b0 : Nat} {v : Value} {d : DataW H} {ps : List MemPlace} (hv : Value.okWide Tryd.prog W r b0 34 v) (h : DataW.Trod enc Tryd.prog W 0 (fun _ => true) true 34 v d ps) :
    ∃ i : Sl.Instr, v = .agg (Cells.enc i).toArray := by
  obtain ⟨cs, rfl, hsz⟩ := okWide_struct Tryd.underlying34 hv
  obtain ⟨fuel, hf⟩ := h
  obtain ⟨y, hy, _⟩ := dec_instr und3 Tryd.underlying34 ⟨rfl, rfl⟩ ⟨rfl, rfl⟩ ⟨rfl, rfl⟩ ⟨rfl, rfl⟩ ⟨rfl, rfl⟩ cells3 cells34 fuel _ _ hf
  refine ⟨y, ?_⟩
  have hy' : cs.toList = Cells.enc y := hy
  rw [← hy']
/-- a block's cells, said anew -/
def refill (cs : Array Value) : Obj → Obj
  | .cells _ t frozen => .cells cs t frozen
  | o => o
/-- a world in which the tables hold what their initialisers lay -/
noncomputable def laidWorld (os : Os) : World :=
  { World.holding Tryd.prog os ⟨#[], #[], []⟩ with heap := ((World.holding Tryd.prog os ⟨#[], #[], []⟩).heap.modify 0 (refill #[.int .u8 0, .int .u8 1, .int .u8 28, .int .u8 2, .int .u8 29, .int .u8 14, .int .u8 24, .int .u8 3, .int .u8 30, .int .u8 22, .int .u8 20, .int .u8 15, .int .u8 25, .int .u8 17, .int .u8 4, .int .u8 8, .int .u8 31, .int .u8 27, .int .u8 13, .int .u8 23, .int .u8 21, .int .u8 19, .int .u8 16, .int .u8 7, .int .u8 26, .int .u8 12, .int .u8 18, .int .u8 6, .int .u8 11, .int .u8 5, .int .u8 10, .int .u8 9])).modify 1 (refill tab64.toArray) }
end Go.Proofs.YtfleehgbpgmcnaaDoor
