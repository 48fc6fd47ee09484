/- The pass that leaves out what nobody asks, as a plain law: all that is left is needed, and does something; the pass of that is that again. -/
import Derived.Test.YtfleehgbpgmcnaaAp
namespace Go.Proofs.Ytfleehgbpgmcnaa
open Go Go.Sl
set_option linter.unusedVariables false

/-- the marks over a list of instructions, from behind -/
def nf (p : PV) : List Sl.Instr → List Bool × List Bool
  | [] => (setAll (List.replicate p.regs.toNat false) p.outs, [])
  | i :: l => if (nf p l).1[i.to.toNat]?.getD default = true then (setAll ((nf p l).1.set i.to.toNat false) (asks i), true :: (nf p l).2) else ((nf p l).1, false :: (nf p l).2)
theorem nf_len (p : PV) (l : List Sl.Instr) : (nf p l).1.length = p.regs.toNat ∧ (nf p l).2.length = l.length := by
  induction l with
  | nil => simp [nf, setAll_len]
  | cons i l ih =>
    simp only [nf]
    split
    · simp [setAll_len, ih]
    · simp [ih]
theorem needTo_nf (p : PV) : ∀ j, j ≤ p.code.length → needTo p j = ((nf p (p.code.drop (p.code.length - j))).1, List.replicate (p.code.length - j) false ++ (nf p (p.code.drop (p.code.length - j))).2)
  | 0, _ => by simp [needTo, nf]
  | j + 1, hj => by
    have ih := needTo_nf p j (by omega)
    obtain ⟨k, hk⟩ : ∃ k, k = p.code.length - (j + 1) := ⟨_, rfl⟩
    have hk1 : p.code.length - j = k + 1 := by omega
    have hk2 : p.code.length - 1 - j = k := by omega
    have hlt : k < p.code.length := by omega
    rw [hk1] at ih
    rw [← hk]
    have hd : p.code.drop k = p.code[k]?.getD default :: p.code.drop (k + 1) := by
      rw [List.getElem?_eq_getElem hlt, Option.getD_some]; exact List.drop_eq_getElem_cons hlt
    show needStep (needTo p j) ((p.code.length - 1 - j : Nat) : Int) (p.code[p.code.length - 1 - j]?.getD default) = _
    rw [hk2, ih, hd]
    generalize p.code[k]?.getD default = i
    generalize p.code.drop (k + 1) = l
    unfold needStep
    simp only [nf]
    rw [List.replicate_succ']
    split
    · simp only [Int.toNat_natCast]
      rw [List.append_assoc, List.set_append_right _ _ (by simp)]
      simp
    · simp
theorem needed_nf (p : PV) : neededP p = (nf p p.code).2 := by
  unfold neededP
  rw [needTo_nf p p.code.length (Nat.le_refl _)]
  simp
/-- whether an instruction is left -/
def leaves (x : Sl.Instr × Bool) : Option Sl.Instr := if x.2 = true ∧ ¬ doesNothing x.1 then some x.1 else none
theorem leaves_pos {i : Sl.Instr} {b : Bool} (h : b = true ∧ ¬ doesNothing i) : leaves (i, b) = some i := if_pos h
theorem leaves_neg {i : Sl.Instr} {b : Bool} (h : ¬ (b = true ∧ ¬ doesNothing i)) : leaves (i, b) = none := if_neg h
def keepF (p : PV) (l : List Sl.Instr) : List Sl.Instr := (l.zip (nf p l).2).filterMap leaves
theorem keepTo_zip (p : PV) : ∀ k, k ≤ p.code.length → keepTo p k = ((p.code.take k).zip ((neededP p).take k)).filterMap leaves
  | 0, _ => by simp [keepTo]
  | k + 1, hk => by
    have hlt : k < p.code.length := by omega
    have hnl : (neededP p).length = p.code.length := (needTo_len p _).2
    have hlt2 : k < (neededP p).length := by omega
    have e1 : p.code.take (k + 1) = p.code.take k ++ [p.code[((k : Nat) : Int).toNat]?.getD default] := by
      rw [List.take_add_one, Int.toNat_natCast, List.getElem?_eq_getElem hlt]; rfl
    have e2 : (neededP p).take (k + 1) = (neededP p).take k ++ [(neededP p)[((k : Nat) : Int).toNat]?.getD default] := by
      rw [List.take_add_one, Int.toNat_natCast, List.getElem?_eq_getElem hlt2]; rfl
    rw [e1, e2, List.zip_append (by simp; omega), List.filterMap_append, ← keepTo_zip p k (by omega)]
    simp only [List.zip_cons_cons, List.zip_nil_right, List.filterMap_cons, List.filterMap_nil]
    by_cases h : (neededP p)[((k : Nat) : Int).toNat]?.getD default = true ∧ ¬ doesNothing (p.code[((k : Nat) : Int).toNat]?.getD default)
    · rw [leaves_pos h]; exact if_pos h
    · rw [leaves_neg h]
      show keepTo p (k + 1) = keepTo p k ++ []
      rw [List.append_nil]; exact if_neg h
theorem dead_code (p : PV) : (deadP p).code = keepF p p.code := by
  show keepTo p p.code.length = _
  have hnl : (neededP p).length = p.code.length := (needTo_len p _).2
  rw [keepTo_zip p _ (Nat.le_refl _), List.take_length, ← hnl, List.take_length, needed_nf]
  rfl
theorem nf_same {p q : PV} (h1 : q.regs = p.regs) (h2 : q.outs = p.outs) (l : List Sl.Instr) : nf q l = nf p l := by
  induction l with
  | nil => simp only [nf]; rw [h1, h2]
  | cons i l ih => simp only [nf]; rw [ih]
theorem asks_nothing {i : Sl.Instr} (h : doesNothing i) : asks i = [i.to] := by
  unfold asks
  rw [if_neg (by rw [h.1]; decide), if_pos (by rw [h.1]; decide), h.2]
theorem set_back {l : List Bool} {k : Nat} (h : l[k]?.getD default = true) : (l.set k false).set k true = l := by
  apply List.ext_getElem?
  intro i
  rw [List.getElem?_set, List.getElem?_set]
  by_cases hi : k = i
  · subst hi
    by_cases hl : k < l.length
    · simp only [List.length_set, hl, if_true]
      rw [List.getElem?_eq_getElem hl] at h ⊢
      simpa using h.symm
    · rw [List.getElem?_eq_none (by omega)] at h; cases h
  · simp [hi]
/-- what is left is marked as it was; all of it is needed -/
theorem nf_keep (p : PV) (l : List Sl.Instr) : (nf p (keepF p l)).1 = (nf p l).1 ∧ (nf p (keepF p l)).2 = List.replicate (keepF p l).length true := by
  induction l with
  | nil => simp [keepF, nf]
  | cons i l ih =>
    by_cases h : (nf p l).1[i.to.toNat]?.getD default = true
    · have e : nf p (i :: l) = (setAll ((nf p l).1.set i.to.toNat false) (asks i), true :: (nf p l).2) := by simp only [nf]; rw [if_pos h]
      by_cases hd : doesNothing i
      · have ek : keepF p (i :: l) = keepF p l := by
          unfold keepF
          rw [e]
          simp [leaves, hd]
        rw [ek, e]
        refine ⟨?_, ih.2⟩
        rw [ih.1, asks_nothing hd]
        exact (set_back h).symm
      · have ek : keepF p (i :: l) = i :: keepF p l := by
          unfold keepF
          rw [e]
          simp [leaves, hd]
        rw [ek, e]
        have e2 : nf p (i :: keepF p l) = (setAll ((nf p (keepF p l)).1.set i.to.toNat false) (asks i), true :: (nf p (keepF p l)).2) := by
          simp only [nf]; rw [if_pos (by rw [ih.1]; exact h)]
        rw [e2, ih.1, ih.2]
        exact ⟨rfl, rfl⟩
    · have e : nf p (i :: l) = ((nf p l).1, false :: (nf p l).2) := by simp only [nf]; rw [if_neg h]
      have ek : keepF p (i :: l) = keepF p l := by
        unfold keepF
        rw [e]
        simp [leaves]
      rw [ek, e]
      exact ih
theorem dead_needed (p : PV) : neededP (deadP p) = List.replicate (deadP p).code.length true := by
  rw [needed_nf, nf_same (q := deadP p) (p := p) rfl rfl, dead_code]
  exact (nf_keep p p.code).2
theorem keepF_does (p : PV) (l : List Sl.Instr) : ∀ i ∈ keepF p l, ¬ doesNothing i := by
  intro i hi
  unfold keepF at hi
  rw [List.mem_filterMap] at hi
  obtain ⟨x, _, hx⟩ := hi
  unfold leaves at hx
  split at hx
  · rename_i h; cases hx; exact h.2
  · cases hx
theorem filter_all {l : List Sl.Instr} (h : ∀ i ∈ l, ¬ doesNothing i) : (l.zip (List.replicate l.length true)).filterMap leaves = l := by
  induction l with
  | nil => rfl
  | cons i l ih =>
    rw [List.length_cons, List.replicate_succ, List.zip_cons_cons, List.filterMap_cons]
    have : leaves (i, true) = some i := by unfold leaves; rw [if_pos ⟨rfl, h i (by simp)⟩]
    rw [this]
    show i :: _ = _
    rw [ih (fun j hj => h j (by simp [hj]))]
theorem dead_idem (p : PV) : deadP (deadP p) = deadP p := by
  have h : (deadP (deadP p)).code = (deadP p).code := by
    rw [dead_code (deadP p)]
    unfold keepF
    rw [← needed_nf, dead_needed]
    exact filter_all (by rw [dead_code]; exact keepF_does p p.code)
  show (⟨(deadP p).ins, (deadP p).regs, (deadP (deadP p)).code, (deadP p).outs⟩ : PV) = deadP p
  rw [h]
theorem idle_count (p : PV) : ∀ k, (keepTo p k).length + (idleTo p k).length = k
  | 0 => by simp [keepTo, idleTo]
  | k + 1 => by
    have ih := idle_count p k
    rw [idleTo_step]
    simp only [keepTo]
    unfold idleAt doesNothing
    split
    · simp; omega
    · simp; omega
theorem dead_idle {p : PV} (h : rightP p = true) : idleP (deadP p) = [] := by
  rw [idleP, if_pos (dead_right h)]
  unfold idleTo
  rw [List.filterMap_eq_nil_iff]
  intro k hk
  have hk' : k < (deadP p).code.length := by simpa using hk
  unfold idleAt
  rw [if_pos]
  refine ⟨?_, ?_⟩
  · rw [dead_needed, Int.toNat_natCast]; simp [hk']
  · rw [Int.toNat_natCast, List.getElem?_eq_getElem hk', Option.getD_some]
    have := keepF_does p p.code
    rw [← dead_code] at this
    exact this _ (List.getElem_mem _)
end Go.Proofs.Ytfleehgbpgmcnaa
