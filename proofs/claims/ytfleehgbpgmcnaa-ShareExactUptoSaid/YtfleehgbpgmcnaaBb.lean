/- A grid of int64 that comes in as an argument: its rows, their range, and that they are not long. -/
import Derived.Test.YtfleehgbpgmcnaaBa
import Derived.Test.YtfleehgbpgmcnaaNu
namespace Go.Proofs.Ytfleehgbpgmcnaa
open Go Go.Sl Go.ChangeShapes Go.WideShapes Go.RowKit Go.Joins
set_option linter.unusedVariables false
set_option maxRecDepth 100000
theorem und2 : Try.prog.underlying 2 = some (.int .i64) := by kernel_rfl
theorem und35 : Try.prog.underlying 35 = some (.slice 38) := by kernel_rfl
theorem und38 : Try.prog.underlying 38 = some (.slice 2) := by kernel_rfl
theorem cells2 : Try.prog.cellsOf 2 = 1 := by kernel_rfl
theorem cells38 : Try.prog.cellsOf 38 = 1 := by kernel_rfl
theorem bulk_mem {H : Type} {l : List (DataW H)} {i : Nat} {d : DataW H} (h : l[i]? = some d) : Rows.uptoBulk d ≤ Rows.uptoBulkAll l := by
  induction l generalizing i with
  | nil => simp at h
  | cons x r ih =>
    simp only [Rows.uptoBulkAll]
    cases i with
    | zero => simp at h; subst h; omega
    | succ i => have := ih (i := i) (by simpa using h); omega
section
variable {H : Type} {enc : TypeId × Value → H}
theorem dec_irow {W : World} : Dec (α := SV) enc Try.prog W 38 (fun s d => ∃ l : List Int, IRow (heapG W) s l ∧ l.length ≤ Rows.uptoBulk d) := fun n cs x h => by
  obtain ⟨a, c, xs, e, hA, hl, hd⟩ := open_arr (α := Int) und38 cells2 (by decide) (dec_int und2) h
  refine ⟨⟨a, xs.length, c⟩, e, xs, ⟨rfl, hA, fun y hy => ?_⟩, ?_⟩
  · rcases hd with ⟨_, rfl⟩ | ⟨l, r, e, hl, hi⟩
    · cases hy
    · obtain ⟨i, hi1, rfl⟩ := List.mem_iff_getElem.1 hy
      obtain ⟨d, _, _, hw⟩ := hi i hi1
      rw [List.getElem?_eq_getElem hi1] at hw
      unfold Lit.wf at hw
      rw [Bool.and_eq_true, decide_eq_true_eq, decide_eq_true_eq] at hw
      exact hw
  · rcases hd with ⟨_, rfl⟩ | ⟨l, r, e, hl, _⟩
    · exact Nat.zero_le _
    · rw [e, ← hl]; exact bulk_slice l r
theorem open_grid {W : World} {r : Reach} {b0 : Nat} {v : Value} {d : DataW H} {ps : List MemPlace} (hv : Value.okWide Try.prog W r b0 35 v) (h : DataW.Trod enc Try.prog W 0 (fun _ => true) true 35 v d ps) :
    ∃ (a : Option Addr) (c : Nat) (gl : List SV) (ls : List (List Int)), v = .slice a gl.length c ∧ Arr (heapG W) a gl ∧ IGrid (heapG W) gl ls ∧ gl.length ≤ Rows.uptoBulk d ∧ ∀ l ∈ ls, l.length ≤ Rows.uptoBulk d := by
  obtain ⟨a0, n0, c0, rfl⟩ := okWide_slice und35 hv
  obtain ⟨n, h⟩ := h
  obtain ⟨a, c, gl, e, hA, hl, hd⟩ := open_arr (α := SV) und35 cells38 (by decide) dec_irow h
  have e' : [Value.slice a0 n0 c0] = [.slice a gl.length c] := e
  simp only [List.cons.injEq, and_true] at e'
  have hrow : ∀ i, i < gl.length → ∃ l : List Int, IRow (heapG W) (gl[i]?.getD default) l ∧ l.length ≤ Rows.uptoBulk d := fun i hi => by
    rcases hd with ⟨_, rfl⟩ | ⟨l, r, e, hl, hx⟩
    · exact absurd hi (Nat.not_lt_zero _)
    · obtain ⟨d', h1, l', h2, h3⟩ := hx i hi
      refine ⟨l', h2, Nat.le_trans h3 ?_⟩
      have := bulk_mem h1
      have e2 : d = .slice l r := e
      rw [e2]
      simp only [Rows.uptoBulk]
      omega
  obtain ⟨Y, hY⟩ := Deep.choose_lt hrow
  refine ⟨a, c, gl, (List.range gl.length).map Y, e', hA, ⟨by simp, fun i hi => ?_⟩, ?_, fun l hl => ?_⟩
  · have : ((List.range gl.length).map Y)[i]?.getD [] = Y i := by simp [hi]
    rw [this]
    exact (hY i hi).1
  · rcases hd with ⟨_, rfl⟩ | ⟨l, r, e, hl, _⟩
    · exact Nat.zero_le _
    · have e2 : d = .slice l r := e
      rw [e2, ← hl]; exact bulk_slice l r
  · obtain ⟨i, hi, rfl⟩ := List.mem_map.1 hl
    exact (hY i (List.mem_range.1 hi)).2
end
end Go.Proofs.Ytfleehgbpgmcnaa
