/- The pass over constants: what it makes is plain, nothing in it melts; the pass of it is it again; no more is multiplied or divided. -/
import Derived.Test.YtfleehgbpgmcnaaDoorAg
set_option maxRecDepth 100000
namespace Go.Proofs.YtfleehgbpgmcnaaDoor
open Go Go.Sl
theorem plain_idem (i : Sl.Instr) : plainP (plainP i) = plainP i := by
  have hp := pow_range i.c
  by_cases h3 : i.op = 3
  · have e : plainP i = if i.a = i.b then ⟨7, i.to, i.a, 0, 1⟩ else i := by rw [plainP, if_pos h3]
    rw [e]
    split
    · rfl
    · rename_i h; rw [plainP, if_pos h3, if_neg h]
  · by_cases h5 : i.op = 5 ∨ i.op = 6
    · have e : plainP i = (if i.c = 1 then ⟨1, i.to, i.a, 0, 0⟩ else if i.c = -1 then ⟨2, i.to, i.a, 0, 0⟩ else if powC i.c ≠ 0 then (if i.op = 5 then ⟨7, i.to, i.a, 0, powC i.c⟩ else ⟨8, i.to, i.a, 0, powC i.c⟩) else i) := by rw [plainP, if_neg h3, if_pos h5]
      rw [e]
      split
      · rfl
      split
      · rfl
      split
      · split <;> rfl
      · rename_i h1 h2 h4
        rw [e, if_neg h1, if_neg h2, if_neg h4]
    · have e : plainP i = i := by rw [plainP, if_neg h3, if_neg h5]
      rw [e, e]
theorem melt_plain {a b : Sl.Instr} (h : (meltP a b).2 = true) : plainP (meltP a b).1 = (meltP a b).1 := by
  unfold meltP at h ⊢
  split at h
  · cases h
  · rename_i hn
    rw [if_neg hn]
    split at h
    · rename_i hy
      rw [if_pos hy]
      exact plain_idem _
    · cases h
/-- plain, does something, and does not melt with what lies below -/
def Good : List Sl.Instr → Prop
  | [] => True
  | b :: s => plainP b = b ∧ ¬ idle1 b = true ∧ (∀ a t, s = a :: t → ¬ (meltP a b).2 = true) ∧ Good s
theorem push_good : ∀ (s : List Sl.Instr) (b : Sl.Instr), Good s → plainP b = b → Good (pushP s b)
  | [], b, _, hb => by
    unfold pushP; split
    · trivial
    · rename_i h; exact ⟨hb, h, (fun a t e => by cases e), trivial⟩
  | a :: s, b, hs, hb => by
    unfold pushP
    split
    · exact hs
    split
    · rename_i h; exact push_good s _ hs.2.2.2 (melt_plain h)
    · rename_i h1 h2; exact ⟨hb, h1, (fun x t e => by cases e; exact h2), hs⟩
theorem fold_good (l : List Sl.Instr) : Good (foldS l) := by
  have aux : ∀ (l s : List Sl.Instr), Good s → Good (l.foldl (fun s i => pushP s (plainP i)) s) := by
    intro l
    induction l with
    | nil => intro s hs; exact hs
    | cons x l ih => intro s hs; exact ih _ (push_good s _ hs (plain_idem x))
  exact aux l [] trivial
theorem good_again : ∀ (s : List Sl.Instr), Good s → foldS s.reverse = s
  | [], _ => rfl
  | b :: s, h => by
    have ih := good_again s h.2.2.2
    unfold foldS at ih ⊢
    rw [List.reverse_cons, List.foldl_append, ih, List.foldl_cons, List.foldl_nil, h.1]
    cases s with
    | nil => rw [pushP, if_neg h.2.1]
    | cons a t => rw [pushP, if_neg h.2.1, if_neg (h.2.2.1 a t rfl)]
theorem fold_again (p : PV) : foldP (foldP p) = foldP p := by
  unfold foldP
  rw [good_again _ (fold_good _)]
theorem good_mem : ∀ (s : List Sl.Instr), Good s → ∀ i ∈ s, plainP i = i ∧ ¬ idle1 i = true
  | [], _, i, hi => by simp at hi
  | b :: s, h, i, hi => by
    rcases List.mem_cons.1 hi with rfl | hi
    · exact ⟨h.1, h.2.1⟩
    · exact good_mem s h.2.2.2 i hi
theorem good_next : ∀ (s : List Sl.Instr), Good s → ∀ (k : Nat) a b, s[k]? = some b → s[k + 1]? = some a → ¬ (meltP a b).2 = true
  | [], _, k, a, b, hb, _ => by simp at hb
  | x :: s, h, 0, a, b, hb, ha => by
    simp only [List.getElem?_cons_zero, Option.some.injEq] at hb
    subst hb
    rw [List.getElem?_cons_succ] at ha
    cases s with
    | nil => simp at ha
    | cons y t => simp only [List.getElem?_cons_zero, Option.some.injEq] at ha; subst ha; exact h.2.2.1 _ _ rfl
  | x :: s, h, k + 1, a, b, hb, ha => by
    rw [List.getElem?_cons_succ] at hb ha
    exact good_next s h.2.2.2 k a b hb ha
theorem fold_plain (p : PV) : ∀ i ∈ (foldP p).code, plainP i = i ∧ ¬ idle1 i = true := fun i hi => good_mem _ (fold_good p.code) i (List.mem_reverse.1 hi)
theorem fold_next (p : PV) {k : Nat} (h : k + 1 < (foldP p).code.length) : ¬ (meltP ((foldP p).code[k]?.getD default) ((foldP p).code[k + 1]?.getD default)).2 = true := by
  have hl : (foldP p).code.length = (foldS p.code).length := by unfold foldP; simp
  rw [hl] at h
  have e : ∀ j, j < (foldS p.code).length → (foldP p).code[j]? = (foldS p.code)[(foldS p.code).length - 1 - j]? := fun j hj => by
    show ((foldS p.code).reverse)[j]? = _
    rw [List.getElem?_reverse hj]
  have hk := e k (by omega)
  have hk1 := e (k + 1) h
  refine good_next _ (fold_good p.code) ((foldS p.code).length - 1 - (k + 1)) _ _ ?_ ?_
  · rw [hk1, List.getElem?_eq_getElem (by omega)]; rfl
  · have e2 : (foldS p.code).length - 1 - (k + 1) + 1 = (foldS p.code).length - 1 - k := by omega
    rw [e2, hk, List.getElem?_eq_getElem (by omega)]; rfl
/-! registers -/
theorem plain_may {i : Sl.Instr} {r : Int} (h : mayOk i r = true) : mayOk (plainP i) r = true := by
  have hc := plain_const (i := i) (may_const h)
  rw [mayOk_iff] at h
  obtain ⟨⟨h1, h2, h3, h4, h5, h6⟩, h7⟩ := h
  have hp := pow_range i.c
  by_cases e3 : i.op = 3
  · have e : plainP i = if i.a = i.b then ⟨7, i.to, i.a, 0, 1⟩ else i := by rw [plainP, if_pos e3]
    rw [e]
    split
    · rw [mayOk_iff]; simp; omega
    · rw [mayOk_iff]; exact ⟨⟨h1, h2, h3, h4, h5, h6⟩, h7⟩
  · by_cases h5' : i.op = 5 ∨ i.op = 6
    · have e : plainP i = (if i.c = 1 then ⟨1, i.to, i.a, 0, 0⟩ else if i.c = -1 then ⟨2, i.to, i.a, 0, 0⟩ else if powC i.c ≠ 0 then (if i.op = 5 then ⟨7, i.to, i.a, 0, powC i.c⟩ else ⟨8, i.to, i.a, 0, powC i.c⟩) else i) := by rw [plainP, if_neg e3, if_pos h5']
      rw [e]
      split
      · rw [mayOk_iff]; simp; omega
      split
      · rw [mayOk_iff]; simp; omega
      split
      · split
        · rw [mayOk_iff]; simp; omega
        · rw [mayOk_iff]; simp; omega
      · rw [mayOk_iff]; exact ⟨⟨h1, h2, h3, h4, h5, h6⟩, h7⟩
    · have e : plainP i = i := by rw [plainP, if_neg e3, if_neg h5']
      rw [e, mayOk_iff]; exact ⟨⟨h1, h2, h3, h4, h5, h6⟩, h7⟩
end Go.Proofs.YtfleehgbpgmcnaaDoor
