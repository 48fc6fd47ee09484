/- A program that comes in as an argument: what it is, and that its lists are not long. -/
import Derived.Test.YtfleehgbpgmcnaaRows
import Derived.Test.YtfleehgbpgmcnaaSlL
import Derived.Test.YtfleehgbpgmcnaaTy
import Derived.Test.YtfleehgbpgmcnaaAa
import Derived.Lib.SmallJoins
namespace Go.Proofs.Ytfleehgbpgmcnaa
open Go Go.Sl Go.ChangeShapes Go.WideShapes Go.RowKit Go.Joins
set_option linter.unusedVariables false
set_option maxRecDepth 100000

theorem bulk_one {H : Type} (d : DataW H) : 1 ≤ Rows.uptoBulk d := by
  cases d with
  | lit l => cases l <;> simp [Rows.uptoBulk]
  | nil => simp [Rows.uptoBulk]
  | ptr d => simp [Rows.uptoBulk]
  | slice elems spare => simp [Rows.uptoBulk]
  | agg parts => simp [Rows.uptoBulk]
  | iface t d => simp [Rows.uptoBulk]
  | map entries => simp [Rows.uptoBulk]
  | held h => simp [Rows.uptoBulk]
theorem bulk_len {H : Type} (l : List (DataW H)) : l.length ≤ Rows.uptoBulkAll l := by
  induction l with
  | nil => simp [Rows.uptoBulkAll]
  | cons x r ih => have := bulk_one x; simp only [Rows.uptoBulkAll, List.length_cons]; omega
theorem bulk_slice {H : Type} (l r : List (DataW H)) : l.length ≤ Rows.uptoBulk (.slice l r) := by
  have := bulk_len l
  simp only [Rows.uptoBulk]; omega

theorem und3 : Try.prog.underlying 3 = some (.int .i64) := by kernel_rfl
theorem und4 : Try.prog.underlying 4 = some .bool := by kernel_rfl
theorem laidOut : laidOutB Try.prog = true := by kernel_rfl
theorem cells3 : Try.prog.cellsOf 3 = 1 := by kernel_rfl
theorem cells25 : Try.prog.cellsOf 25 = 4 := by kernel_rfl
theorem cells34 : Try.prog.cellsOf 34 = 5 := by kernel_rfl
theorem fields25 : Deep.oneCellFields Try.prog #[{ name := "Ins", type := 3, offset := 0, embedded := false, tag := "", pkgPath := "", byteOffset := 0 },
        { name := "Regs", type := 3, offset := 1, embedded := false, tag := "", pkgPath := "", byteOffset := 8 },
        { name := "Code", type := 22, offset := 2, embedded := false, tag := "", pkgPath := "", byteOffset := 16 },
        { name := "Outs", type := 23, offset := 3, embedded := false, tag := "", pkgPath := "", byteOffset := 40 }] = true := by kernel_rfl

section
variable {H : Type} {enc : TypeId × Value → H}
theorem open_prog {W : World} {r : Reach} {b0 : Nat} {v : Value} {d : DataW H} {ps : List MemPlace} (hv : Value.okWide Try.prog W r b0 25 v) (h : DataW.Trod enc Try.prog W 0 (fun _ => true) true 25 v d ps) :
    ∃ (p : PV) (ac ao : Option Addr) (cc co : Nat), v = .agg #[.int .i64 p.ins, .int .i64 p.regs, .slice ac p.code.length cc, .slice ao p.outs.length co] ∧ Arr (heapG W) ac p.code ∧ Arr (heapG W) ao p.outs ∧
      p.code.length + p.outs.length ≤ Rows.uptoBulk d := by
  obtain ⟨v0, v1, v2, v3, y0, y1, y2, y3, n, rfl, rfl, rfl, h0, h1, h2, h3⟩ := open_agg4 Try.underlying25 fields25 cells25 hv h
  obtain ⟨k0, e0, _, _⟩ := DataW.trod_int und3 h0
  obtain ⟨k1, e1, _, _⟩ := DataW.trod_int und3 h1
  obtain ⟨a2, c2, xs, e2, ha2, hl2, hd2⟩ := open_arr (α := Sl.Instr) Try.underlying22 cells34 (by decide) (dec_instr und3 Try.underlying34 ⟨rfl, rfl⟩ ⟨rfl, rfl⟩ ⟨rfl, rfl⟩ ⟨rfl, rfl⟩ ⟨rfl, rfl⟩ cells3 cells34) h2
  obtain ⟨a3, c3, ys, e3, ha3, hl3, hd3⟩ := open_arr (α := Int) Try.underlying23 cells3 (by decide) (dec_int und3) h3
  simp only [List.cons.injEq, and_true] at e0 e1 e2 e3
  subst e0 e1 e2 e3
  refine ⟨⟨k0, k1, xs, ys⟩, a2, a3, c2, c3, rfl, ha2, ha3, ?_⟩
  have b2 : xs.length ≤ Rows.uptoBulk y2.1 := by
    rcases hd2 with ⟨_, rfl⟩ | ⟨l, r, e, hl, _⟩
    · exact Nat.zero_le _
    · rw [e, ← hl]; exact bulk_slice l r
  have b3 : ys.length ≤ Rows.uptoBulk y3.1 := by
    rcases hd3 with ⟨_, rfl⟩ | ⟨l, r, e, hl, _⟩
    · exact Nat.zero_le _
    · rw [e, ← hl]; exact bulk_slice l r
  simp only [Rows.uptoBulk, Rows.uptoBulkAll]
  omega
end
theorem own : ownKnob Try.prog.godebug = none := by kernel_rfl
end Go.Proofs.Ytfleehgbpgmcnaa
