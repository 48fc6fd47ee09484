/- ShareExact, the plain law, second part: one instruction of the pass. -/
import Derived.Test.YtfleehgbpgmcnaaNq
set_option linter.unusedVariables false
namespace Go.Proofs.Ytfleehgbpgmcnaa
open Go Go.Sl
/-- the registers hold what the table says -/
structure Val (t : Tab) (rs : List (List Int)) (E : Int → List Int) (regs : Int) : Prop where
  len : (rs.length : Int) = regs
  reg : ∀ r : Int, 0 ≤ r ∧ r < regs → rs[r.toNat]?.getD [] = E (t.held[r.toNat]?.getD default)
  key : ∀ k v, mget t.known k = some v → evalK E k = some (E v)
  old : ∀ k v, mget t.known k = some v → k.a < t.next ∧ k.b < t.next
  pos : 0 ≤ t.next
theorem key_old {t : Tab} {regs : Int} {i : Sl.Instr} (hs : Sound t regs) (hp : 0 ≤ t.next) (hm : mayOk i regs = true) : (keyOf t.held i).a < t.next ∧ (keyOf t.held i).b < t.next := by
  obtain ⟨m1, m2, m3, m4, m5, m6, m7, m8⟩ := may_facts hm
  have hl := hs.len
  have ha := hs.held _ (get_mem (l := t.held) (r := i.a) (by omega))
  unfold keyOf
  by_cases h34 : i.op = 3 ∨ i.op = 4
  · have hb := hs.held _ (get_mem (l := t.held) (r := i.b) (by have := m4 h34; omega))
    simp only [if_pos h34]
    split
    · exact ⟨hb, ha⟩
    · exact ⟨ha, hb⟩
  · simp only [if_neg h34]
    exact ⟨ha, by show (-1 : Int) < _; omega⟩
theorem doI_asked {t : Tab} {rs : List (List Int)} {E : Int → List Int} {regs : Int} {i : Sl.Instr} (hs : Sound t regs) (hv : Val t rs E regs) (hm : mayOk i regs = true) : doI (askedP t.held i) rs = doI i rs := by
  obtain ⟨m1, m2, m3, m4, m5, m6, m7, m8⟩ := may_facts hm
  have hl := hs.len
  obtain ⟨a1, a2, a3⟩ := holder_get (l := t.held) (r := i.a) (by omega)
  have ea : rs[(holder t.held (t.held[i.a.toNat]?.getD default)).toNat]?.getD [] = rs[i.a.toNat]?.getD [] := by
    rw [hv.reg _ ⟨a1, by omega⟩, hv.reg _ m3, a3]
  rw [doI_doV, doI_doV i]
  unfold askedP
  simp only
  rw [ea]
  by_cases h34 : i.op = 3 ∨ i.op = 4
  · obtain ⟨b1, b2, b3⟩ := holder_get (l := t.held) (r := i.b) (by have := m4 h34; omega)
    have eb : rs[(holder t.held (t.held[i.b.toNat]?.getD default)).toNat]?.getD [] = rs[i.b.toNat]?.getD [] := by
      rw [hv.reg _ ⟨b1, by omega⟩, hv.reg _ (m4 h34), b3]
    rw [if_pos h34, eb]
  · exact doV_one h34 _ _ _ _
theorem reckon_val {t : Tab} {rs : List (List Int)} {E : Int → List Int} {regs n : Int} {i : Sl.Instr} {x : List Int} (hs : Sound t regs) (hv : Val t rs E regs) (hm : mayOk i regs = true) (hd : doI i rs = some x) :
    ∃ E1, Val (reckonP t n i).2 rs E1 regs ∧ E1 (reckonP t n i).1.1 = x := by
  obtain ⟨m1, m2, m3, m4, m5, m6, m7, m8⟩ := may_facts hm
  have hl := hs.len
  have hk := evalK_key hm hv.reg
  unfold reckonP
  by_cases h1 : i.op = 1
  · rw [if_pos h1]
    refine ⟨E, hv, ?_⟩
    have : doI i rs = some (rs[i.a.toNat]?.getD []) := by unfold doI; simp [h1]
    rw [this] at hd
    cases hd
    exact (hv.reg _ m3).symm
  · rw [if_neg h1]
    cases hg : mget t.known (keyOf t.held i) with
    | some v =>
      refine ⟨E, hv, ?_⟩
      have e := hv.key _ _ hg
      rw [hk, hd] at e
      exact (Option.some.inj e).symm
    | none =>
      have hold : ∀ y : Int, y < t.next → (fun z => if z = t.next then x else E z) y = E y := fun y hy => if_neg (by omega)
      have hev : ∀ k : K4, k.a < t.next ∧ k.b < t.next → evalK (fun z => if z = t.next then x else E z) k = evalK E k := fun k hk => by
        unfold evalK; rw [hold _ hk.1, hold _ hk.2]
      have hgm : ∀ k, mget (t.known ++ [(keyOf t.held i, t.next)]) k = if keyOf t.held i = k then some t.next else mget t.known k := fun k => by
        rw [← mput_none _ _ _ hg, mget_mput]; by_cases he : k = keyOf t.held i <;> simp [he, eq_comm]
      refine ⟨fun z => if z = t.next then x else E z, ⟨hv.len, fun r hr => ?_, fun k v hkv => ?_, fun k v hkv => ?_, by have := hv.pos; show (0 : Int) ≤ t.next + 1; omega⟩, if_pos rfl⟩
      · have := hs.held _ (get_mem (l := t.held) (r := r) (by omega))
        exact (hv.reg r hr).trans (hold _ this).symm
      · have hkv : mget (t.known ++ [(keyOf t.held i, t.next)]) k = some v := hkv
        rw [hgm] at hkv
        split at hkv
        · rename_i he
          cases hkv
          subst he
          rw [hev _ (key_old hs hv.pos hm), hk, hd]
          exact congrArg some (if_pos rfl).symm
        · have hlt := hs.known _ _ hkv
          rw [hev _ (hv.old _ _ hkv), hv.key _ _ hkv]
          exact congrArg some (hold _ hlt).symm
      · have hkv : mget (t.known ++ [(keyOf t.held i, t.next)]) k = some v := hkv
        rw [hgm] at hkv
        show k.a < t.next + 1 ∧ k.b < t.next + 1
        split at hkv
        · rename_i he
          subst he
          have := key_old hs hv.pos hm
          omega
        · have := hv.old _ _ hkv
          omega
end Go.Proofs.Ytfleehgbpgmcnaa
