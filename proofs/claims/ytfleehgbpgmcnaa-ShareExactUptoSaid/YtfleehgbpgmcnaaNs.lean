/- ShareExact, the plain law, third part: the pass's step. -/
import Derived.Test.YtfleehgbpgmcnaaNr
set_option linter.unusedVariables false
namespace Go.Proofs.Ytfleehgbpgmcnaa
open Go Go.Sl
theorem rows_get_set {l : List (List Int)} {k : Nat} {x : List Int} {r : Int} (hr : 0 ≤ r ∧ r < l.length) : (l.set k x)[r.toNat]?.getD [] = if (k : Int) = r then x else l[r.toNat]?.getD [] := by
  have h1 : r.toNat < l.length := by omega
  rw [List.getElem?_set]
  by_cases h : (k : Int) = r
  · rw [if_pos (by omega), if_pos (by omega), if_pos h]; rfl
  · rw [if_neg (by omega), if_neg h]
theorem ints_get_set {l : List Int} {k : Nat} {x : Int} {r : Int} (hr : 0 ≤ r ∧ r < l.length) : (l.set k x)[r.toNat]?.getD default = if (k : Int) = r then x else l[r.toNat]?.getD default := by
  have h1 : r.toNat < l.length := by omega
  rw [List.getElem?_set]
  by_cases h : (k : Int) = r
  · rw [if_pos (by omega), if_pos (by omega), if_pos h]; rfl
  · rw [if_neg (by omega), if_neg h]
theorem set_self_row {l : List (List Int)} {k : Nat} (hk : k < l.length) {x : List Int} (h : l[k]?.getD [] = x) : l.set k x = l := by
  rw [List.getElem?_eq_getElem hk] at h
  have h : l[k] = x := h
  rw [← h, List.set_getElem_self]
theorem step_val {t : Tab} {rs r0 : List (List Int)} {E : Int → List Int} {regs n : Int} {i : Sl.Instr} {x : List Int} {out : List Sl.Instr} (hs : Sound t regs) (hv : Val t rs E regs) (hm : mayOk i regs = true) (hr : runL out r0 = some rs) (hd : doI i rs = some x) :
    runL (passStep (t, out) n i).2 r0 = some (rs.set i.to.toNat x) ∧ ∃ E1, Val (passStep (t, out) n i).1 (rs.set i.to.toNat x) E1 regs := by
  obtain ⟨m1, m2, m3, m4, m5, m6, m7, m8⟩ := may_facts hm
  obtain ⟨E1, hv1, hx⟩ := reckon_val (n := n) hs hv hm hd
  have hh := reckon_held t n i
  have hl := hs.len
  have hrl := hv.len
  have hask := doI_asked hs hv hm
  unfold passStep
  simp only
  split
  · rename_i hc
    have e : rs.set i.to.toNat x = rs := set_self_row (by omega) (by rw [hv1.reg _ m2, hc, hx])
    rw [e]
    exact ⟨hr, E1, hv1⟩
  · rename_i hc
    refine ⟨?_, E1, ⟨by rw [List.length_set]; exact hrl, fun r hr9 => ?_, hv1.key, hv1.old, hv1.pos⟩⟩
    · rw [runL_snoc, hr]
      show ((doI _ rs).map fun x => rs.set _ x) = _
      split
      · rename_i h0
        obtain ⟨g1, g2⟩ := holder_some h0
        have e : doI ⟨1, (askedP (reckonP t n i).2.held i).to, holder (reckonP t n i).2.held (reckonP t n i).1.1, 0, 0⟩ rs = some x := by
          show some (rs[(holder (reckonP t n i).2.held (reckonP t n i).1.1).toNat]?.getD []) = some x
          rw [hv1.reg _ ⟨h0, by rw [hh] at g1 ⊢; omega⟩, g2, hx]
        rw [e]; rfl
      · rw [hh, hask, hd]; rfl
    · rw [rows_get_set (by omega)]
      show _ = E1 (((reckonP t n i).2.held.set i.to.toNat (reckonP t n i).1.1)[r.toNat]?.getD default)
      rw [ints_get_set (by rw [hh]; omega)]
      split
      · exact hx.symm
      · exact hv1.reg r hr9
theorem step_none {t : Tab} {rs r0 : List (List Int)} {E : Int → List Int} {regs n : Int} {i : Sl.Instr} {out : List Sl.Instr} (hs : Sound t regs) (hv : Val t rs E regs) (hm : mayOk i regs = true) (hr : runL out r0 = some rs) (hd : doI i rs = none) :
    runL (passStep (t, out) n i).2 r0 = none := by
  obtain ⟨m1, m2, m3, m4, m5, m6, m7, m8⟩ := may_facts hm
  have hh := reckon_held t n i
  have hl := hs.len
  have hask := doI_asked hs hv hm
  have hk := evalK_key hm hv.reg
  have h1 : ¬ i.op = 1 := fun h => by
    have : doI i rs = some (rs[i.a.toNat]?.getD []) := by unfold doI; simp [h]
    rw [this] at hd; cases hd
  have hg : mget t.known (keyOf t.held i) = none := by
    cases hg : mget t.known (keyOf t.held i) with
    | none => rfl
    | some v => have := hv.key _ _ hg; rw [hk, hd] at this; cases this
  have hn : (reckonP t n i).1.1 = t.next := by unfold reckonP; rw [if_neg h1, hg]
  have hto := hs.held _ (get_mem (l := t.held) (r := i.to) (by omega))
  have hho := holder_lt (l := t.held) (v := t.next) (n := t.next) hs.held (Int.le_refl _)
  unfold passStep
  simp only
  rw [hn, hh, if_neg (by omega), hho, if_neg (by decide), runL_snoc, hr]
  show ((doI _ rs).map fun x => rs.set _ x) = _
  rw [hask, hd]; rfl
end Go.Proofs.Ytfleehgbpgmcnaa
