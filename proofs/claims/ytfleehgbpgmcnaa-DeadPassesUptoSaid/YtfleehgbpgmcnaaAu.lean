/- What is needed and what is asked, by what stands behind each instruction: the marks from behind say the same. -/
import Derived.Test.YtfleehgbpgmcnaaAr
namespace Go.Proofs.Ytfleehgbpgmcnaa
open Go Go.Sl
set_option linter.unusedVariables false

/-- is a register asked ahead of these instructions, each of which counts or not? -/
def asksFrom (outs : List Int) (r : Int) : List (Sl.Instr × Bool) → Bool
  | [] => decide (r ∈ outs)
  | (i, b) :: l => (b && decide (r ∈ asks i)) || (!decide (i.to = r) && asksFrom outs r l)
theorem setAll_get : ∀ (rs : List Int) (l : List Bool) (k : Nat), k < l.length → (∀ r ∈ rs, 0 ≤ r) → (setAll l rs)[k]?.getD default = (l[k]?.getD default || decide ((k : Int) ∈ rs))
  | [], l, k, hk, _ => by simp [setAll]
  | r :: rs, l, k, hk, hr => by
    have ih := setAll_get rs (l.set r.toNat true) k (by simpa using hk) (fun x hx => hr x (by simp [hx]))
    have e : setAll l (r :: rs) = setAll (l.set r.toNat true) rs := rfl
    rw [e, ih, List.getElem?_set]
    have h0 := hr r (by simp)
    by_cases h : r.toNat = k
    · have h1 : (k : Int) = r := by omega
      have h2 : (k : Int) ∈ r :: rs := by rw [h1]; simp
      rw [if_pos h, if_pos (by omega), decide_eq_true h2]
      simp
    · have h1 : (k : Int) ≠ r := by omega
      rw [if_neg h]
      simp [h1]
theorem asks_pos {i : Sl.Instr} {regs : Int} (h : mayOk i regs = true) : ∀ r ∈ asks i, 0 ≤ r := fun r hr => (asks_in h r hr).1
/-- one step from behind -/
theorem step_get {A : List Bool} {i : Sl.Instr} {regs : Int} (hA : (A.length : Int) = regs) (hm : mayOk i regs = true) {r : Int} (hr : 0 ≤ r ∧ r < regs) :
    (setAll (A.set i.to.toNat false) (asks i))[r.toNat]?.getD default = (decide (r ∈ asks i) || (!decide (i.to = r) && A[r.toNat]?.getD default)) := by
  have hto : 0 ≤ i.to ∧ i.to < regs := by rw [mayOk_iff] at hm; exact ⟨hm.1.2.2.1, hm.1.2.2.2.1⟩
  rw [setAll_get _ _ _ (by rw [List.length_set]; omega) (asks_pos hm), List.getElem?_set]
  have e1 : ((r.toNat : Nat) : Int) = r := by omega
  rw [e1]
  by_cases h : i.to = r
  · subst h
    rw [if_pos rfl, if_pos (by omega)]
    simp
  · rw [if_neg (by omega)]
    simp [h, Bool.or_comm]
theorem start_get {regs : Int} (h0 : 0 ≤ regs) {outs : List Int} (ho : ∀ r ∈ outs, 0 ≤ r ∧ r < regs) {r : Int} (hr : 0 ≤ r ∧ r < regs) : (setAll (List.replicate regs.toNat false) outs)[r.toNat]?.getD default = decide (r ∈ outs) := by
  rw [setAll_get _ _ _ (by simp; omega) (fun x hx => (ho x hx).1)]
  have e1 : ((r.toNat : Nat) : Int) = r := by omega
  rw [e1]
  have : (List.replicate regs.toNat false)[r.toNat]?.getD default = false := by
    rw [List.getElem?_replicate]; split <;> rfl
  rw [this, Bool.false_or]
theorem nf_get {p : PV} (h0 : 0 ≤ p.regs) (ho : ∀ r ∈ p.outs, 0 ≤ r ∧ r < p.regs) : ∀ (l : List Sl.Instr), (∀ i ∈ l, mayOk i p.regs = true) → ∀ r, 0 ≤ r ∧ r < p.regs → (nf p l).1[r.toNat]?.getD default = asksFrom p.outs r (l.zip (nf p l).2)
  | [], _, r, hr => by simpa [nf, asksFrom] using start_get h0 ho hr
  | i :: l, hl, r, hr => by
    have ih := nf_get h0 ho l (fun j hj => hl j (by simp [hj]))
    have hm := hl i (by simp)
    have hto : 0 ≤ i.to ∧ i.to < p.regs := by rw [mayOk_iff] at hm; exact ⟨hm.1.2.2.1, hm.1.2.2.2.1⟩
    have hlen : ((nf p l).1.length : Int) = p.regs := by rw [(nf_len p l).1]; omega
    by_cases h : (nf p l).1[i.to.toNat]?.getD default = true
    · have e : nf p (i :: l) = (setAll ((nf p l).1.set i.to.toNat false) (asks i), true :: (nf p l).2) := by simp only [nf]; rw [if_pos h]
      rw [e, step_get hlen hm hr, ih r hr]
      simp [asksFrom]
    · have e : nf p (i :: l) = ((nf p l).1, false :: (nf p l).2) := by simp only [nf]; rw [if_neg h]
      rw [e]
      show (nf p l).1[r.toNat]?.getD default = asksFrom p.outs r ((i, false) :: l.zip (nf p l).2)
      simp only [asksFrom, Bool.false_and, Bool.false_or]
      by_cases ht : i.to = r
      · subst ht
        simpa using h
      · rw [ih r hr]; simp [ht]
/-- the marks by what stands behind each -/
def rf (p : PV) : List Sl.Instr → List Bool
  | [] => []
  | i :: l => asksFrom p.outs i.to (l.zip (rf p l)) :: rf p l
theorem rf_len (p : PV) (l : List Sl.Instr) : (rf p l).length = l.length := by
  induction l with
  | nil => rfl
  | cons i l ih => simp [rf, ih]
theorem rf_nf {p : PV} (h0 : 0 ≤ p.regs) (ho : ∀ r ∈ p.outs, 0 ≤ r ∧ r < p.regs) : ∀ (l : List Sl.Instr), (∀ i ∈ l, mayOk i p.regs = true) → rf p l = (nf p l).2
  | [], _ => by simp [rf, nf]
  | i :: l, hl => by
    have ih := rf_nf h0 ho l (fun j hj => hl j (by simp [hj]))
    have hm := hl i (by simp)
    have hto : 0 ≤ i.to ∧ i.to < p.regs := by rw [mayOk_iff] at hm; exact ⟨hm.1.2.2.1, hm.1.2.2.2.1⟩
    have hg := nf_get h0 ho l (fun j hj => hl j (by simp [hj])) i.to hto
    simp only [rf]
    rw [ih, ← hg]
    by_cases h : (nf p l).1[i.to.toNat]?.getD default = true
    · have e : nf p (i :: l) = (setAll ((nf p l).1.set i.to.toNat false) (asks i), true :: (nf p l).2) := by simp only [nf]; rw [if_pos h]
      rw [e, h]
    · have e : nf p (i :: l) = ((nf p l).1, false :: (nf p l).2) := by simp only [nf]; rw [if_neg h]
      have h' : (nf p l).1[i.to.toNat]?.getD default = false := by simpa using h
      rw [e, h']
theorem needed_rf {p : PV} (h : rightP p = true) : neededP p = rf p p.code := by
  obtain ⟨r1, r2, r3, r4, r5, r6, r7, r8⟩ := right_facts h
  rw [needed_nf, rf_nf (by omega) r7 p.code r8]
theorem rf_drop (p : PV) : ∀ (l : List Sl.Instr) (m : Nat), (rf p l).drop m = rf p (l.drop m)
  | [], m => by simp [rf]
  | i :: l, 0 => by simp
  | i :: l, m + 1 => by
    show (_ :: rf p l).drop (m + 1) = rf p ((i :: l).drop (m + 1))
    rw [List.drop_succ_cons, List.drop_succ_cons]
    exact rf_drop p l m
/-- asked from an instruction on -/
def fromAt (p : PV) (r : Int) (j : Nat) : Bool := asksFrom p.outs r ((p.code.drop j).zip (rf p (p.code.drop j)))
theorem fromAt_end (p : PV) (r : Int) {j : Nat} (h : p.code.length ≤ j) : fromAt p r j = decide (r ∈ p.outs) := by
  unfold fromAt; rw [List.drop_eq_nil_of_le h]; rfl
theorem rf_at (p : PV) {j : Nat} (h : j < p.code.length) : rf p (p.code.drop j) = fromAt p (p.code[j]?.getD default).to (j + 1) :: rf p (p.code.drop (j + 1)) := by
  rw [List.drop_eq_getElem_cons h, List.getElem?_eq_getElem h, Option.getD_some]; rfl
theorem fromAt_step (p : PV) (r : Int) {j : Nat} (h : j < p.code.length) : fromAt p r j = ((fromAt p (p.code[j]?.getD default).to (j + 1) && decide (r ∈ asks (p.code[j]?.getD default))) || (!decide ((p.code[j]?.getD default).to = r) && fromAt p r (j + 1))) := by
  have h1 := rf_at p h
  unfold fromAt
  rw [h1, List.drop_eq_getElem_cons h, List.zip_cons_cons, List.getElem?_eq_getElem h, Option.getD_some]
  rfl
/-! which beginnings are asked -/
def aT (q : PV) : List Sl.Instr → List Bool
  | [] => setAll (List.replicate q.regs.toNat false) q.outs
  | i :: l => askStep (aT q l) i
theorem aT_len (q : PV) (l : List Sl.Instr) : (aT q l).length = q.regs.toNat := by
  induction l with
  | nil => simp [aT, setAll_len]
  | cons i l ih => simp [aT, askStep, setAll_len, ih]
theorem askTo_aT (q : PV) : ∀ j, j ≤ q.code.length → askTo q j = aT q (q.code.drop (q.code.length - j))
  | 0, _ => by simp [askTo, aT]
  | j + 1, hj => by
    have ih := askTo_aT q j (by omega)
    obtain ⟨k, hk⟩ : ∃ k, k = q.code.length - (j + 1) := ⟨_, rfl⟩
    have hk1 : q.code.length - j = k + 1 := by omega
    have hk2 : q.code.length - 1 - j = k := by omega
    have hlt : k < q.code.length := by omega
    rw [hk1] at ih
    rw [← hk]
    show askStep (askTo q j) (q.code[q.code.length - 1 - j]?.getD default) = _
    rw [hk2, ih, List.drop_eq_getElem_cons hlt, List.getElem?_eq_getElem hlt]
    rfl
/-- asked from an instruction on, all counting -/
def allAt (q : PV) (r : Int) (j : Nat) : Bool := asksFrom q.outs r ((q.code.drop j).map fun i => (i, true))
theorem allAt_end (p : PV) (r : Int) {j : Nat} (h : p.code.length ≤ j) : allAt p r j = decide (r ∈ p.outs) := by
  unfold allAt; rw [List.drop_eq_nil_of_le h]; rfl
theorem allAt_step (p : PV) (r : Int) {j : Nat} (h : j < p.code.length) : allAt p r j = (decide (r ∈ asks (p.code[j]?.getD default)) || (!decide ((p.code[j]?.getD default).to = r) && allAt p r (j + 1))) := by
  unfold allAt
  rw [List.drop_eq_getElem_cons h, List.map_cons, List.getElem?_eq_getElem h, Option.getD_some]
  simp [asksFrom]
theorem aT_get {q : PV} (h0 : 0 ≤ q.regs) (ho : ∀ r ∈ q.outs, 0 ≤ r ∧ r < q.regs) : ∀ (l : List Sl.Instr), (∀ i ∈ l, mayOk i q.regs = true) → ∀ r, 0 ≤ r ∧ r < q.regs → (aT q l)[r.toNat]?.getD default = asksFrom q.outs r (l.map fun i => (i, true))
  | [], _, r, hr => by simpa [aT, asksFrom] using start_get h0 ho hr
  | i :: l, hl, r, hr => by
    have ih := aT_get h0 ho l (fun j hj => hl j (by simp [hj]))
    have hm := hl i (by simp)
    have hlen : ((aT q l).length : Int) = q.regs := by rw [aT_len]; omega
    simp only [aT, askStep, List.map_cons, asksFrom, Bool.true_and]
    rw [step_get hlen hm hr, ih r hr]
/-- of each register, whether its beginning is asked -/
def askRef (q : PV) : List Bool := (List.range q.regs.toNat).map fun (r : Nat) => allAt q (r : Int) 0
theorem ask_ref {q : PV} (h : rightP q = true) : askAll q = askRef q := by
  obtain ⟨r1, r2, r3, r4, r5, r6, r7, r8⟩ := right_facts h
  have e : askAll q = aT q q.code := by
    unfold askAll
    rw [askTo_aT q _ (Nat.le_refl _)]; simp
  rw [e]
  apply List.ext_getElem?
  intro k
  by_cases hk : k < q.regs.toNat
  · have hg := aT_get (by omega) r7 q.code r8 (k : Int) (by omega)
    rw [Int.toNat_natCast] at hg
    have h1 : k < (aT q q.code).length := by rw [aT_len]; exact hk
    rw [List.getElem?_eq_getElem h1, Option.getD_some] at hg
    rw [List.getElem?_eq_getElem h1, hg]
    simp [askRef, hk, allAt]
  · rw [List.getElem?_eq_none (by rw [aT_len]; omega), List.getElem?_eq_none (by simp [askRef]; omega)]
end Go.Proofs.Ytfleehgbpgmcnaa
