/- The pass over constants: no more is multiplied or divided; what it makes of a program that may be may be. -/
import Derived.Test.YtfleehgbpgmcnaaDoorAj
import Derived.Test.YtfleehgbpgmcnaaDoorAh
set_option maxRecDepth 100000
namespace Go.Proofs.YtfleehgbpgmcnaaDoor
open Go Go.Sl
/-- how many instructions have an operation -/
def cntO (x : Int) (l : List Sl.Instr) : Nat := l.countP (fun i => decide (i.op = x))
def indO (x : Int) (i : Sl.Instr) : Nat := if i.op = x then 1 else 0
theorem cntO_cons (x : Int) (a : Sl.Instr) (l : List Sl.Instr) : cntO x (a :: l) = indO x a + cntO x l := by
  unfold cntO indO
  rw [List.countP_cons]
  by_cases h : a.op = x
  · simp [h]; omega
  · simp [h]
theorem cntO_nil (x : Int) : cntO x [] = 0 := rfl
theorem plain_ind {x : Int} (hx : x = 5 ∨ x = 6) (i : Sl.Instr) : indO x (plainP i) ≤ indO x i := by
  unfold indO
  by_cases h : (plainP i).op = x
  · rw [if_pos h]
    have : i.op = x := by
      unfold plainP at h
      repeat' split at h
      all_goals first | exact h | (exfalso; simp only [] at h; omega)
    rw [if_pos this]; exact Nat.le_refl _
  · rw [if_neg h]; exact Nat.zero_le _
theorem tog_op {x : Int} (hx : x = 5 ∨ x = 6) {f c s d : Int} (h : (togP f c s d).1 = x) (ho : (togP f c s d).2.2 = true) : f = x ∨ s = x := by
  unfold togP at h ho
  by_cases h1 : f = 1
  · rw [if_pos h1] at h; exact .inr h
  rw [if_neg h1] at h ho
  by_cases h2 : f = 2
  · rw [if_pos h2] at h ho
    repeat' split at h
    all_goals first | (exfalso; simp only [] at h; omega) | exact .inr h
  rw [if_neg h2] at h ho
  by_cases h5 : f = 5
  · rw [if_pos h5] at h ho
    by_cases hx5 : x = 5
    · exact .inl (by omega)
    · repeat' split at h
      all_goals first | (exfalso; simp only [] at h; omega) | (rename_i hs; exact .inr (by simp only [] at h; omega))
  rw [if_neg h5] at h ho
  by_cases h6 : f = 6
  · rw [if_pos h6] at h ho
    repeat' split at h
    all_goals first | (exfalso; simp only [] at h; omega) | (simp only [] at h; exact .inl (by omega))
  rw [if_neg h6] at h ho
  by_cases h7 : f = 7
  · rw [if_pos h7] at h ho
    repeat' split at h
    all_goals (exfalso; simp only [] at h; omega)
  rw [if_neg h7] at h ho
  by_cases h8 : f = 8
  · rw [if_pos h8] at h ho
    repeat' split at h
    all_goals (exfalso; simp only [] at h; omega)
  rw [if_neg h8] at h
  exfalso; simp only [] at h; omega
theorem tog_range {f c s d : Int} (hs : 1 ≤ s ∧ s ≤ 8 ∧ ¬ (s = 3 ∨ s = 4)) (ho : (togP f c s d).2.2 = true) : 1 ≤ (togP f c s d).1 ∧ (togP f c s d).1 ≤ 8 ∧ ¬ ((togP f c s d).1 = 3 ∨ (togP f c s d).1 = 4) := by
  unfold togP at ho ⊢
  repeat' split
  all_goals first
    | exact hs
    | (simp only []; omega)
    | simp_all
theorem melt_ind {x : Int} (hx : x = 5 ∨ x = 6) {a b : Sl.Instr} (h : (meltP a b).2 = true) : indO x (meltP a b).1 ≤ indO x a + indO x b := by
  unfold meltP at h ⊢
  split at h
  · cases h
  · rename_i hn
    rw [if_neg hn]
    split at h
    · rename_i hy
      rw [if_pos hy]
      refine Nat.le_trans (plain_ind hx _) ?_
      unfold indO
      by_cases ho : (togP a.op a.c b.op b.c).1 = x
      · rcases tog_op hx ho hy with h1 | h1
        · rw [if_pos ho, if_pos h1]; omega
        · rw [if_pos ho, if_pos h1]; omega
      · rw [if_neg ho]; omega
    · cases h
theorem push_cnt {x : Int} (hx : x = 5 ∨ x = 6) : ∀ (s : List Sl.Instr) (b : Sl.Instr), cntO x (pushP s b) ≤ cntO x s + indO x b
  | [], b => by
    unfold pushP
    split
    · simp [cntO_nil]
    · rw [cntO_cons, cntO_nil]; omega
  | a :: s, b => by
    unfold pushP
    split
    · omega
    split
    · rename_i h
      have h1 := push_cnt hx s (meltP a b).1
      have h2 := melt_ind hx h
      rw [cntO_cons]; omega
    · rw [cntO_cons]; omega
theorem fold_cnt_aux {x : Int} (hx : x = 5 ∨ x = 6) (l s : List Sl.Instr) : cntO x (l.foldl (fun s i => pushP s (plainP i)) s) ≤ cntO x s + cntO x l := by
  induction l generalizing s with
  | nil => simp [cntO_nil]
  | cons y l ih =>
    have h1 := ih (pushP s (plainP y))
    have h2 := push_cnt hx s (plainP y)
    have h3 := plain_ind hx y
    rw [cntO_cons, List.foldl_cons]; omega
theorem cntO_reverse (x : Int) (l : List Sl.Instr) : cntO x l.reverse = cntO x l := by
  unfold cntO; exact List.countP_reverse
theorem fold_cnt {x : Int} (hx : x = 5 ∨ x = 6) (p : PV) : cntO x (foldP p).code ≤ cntO x p.code := by
  have h := fold_cnt_aux hx p.code []
  rw [cntO_nil] at h
  show cntO x (foldS p.code).reverse ≤ _
  rw [cntO_reverse]
  unfold foldS; omega
theorem melt_may {a b : Sl.Instr} {r : Int} (ha : mayOk a r = true) (hb : mayOk b r = true) (h : (meltP a b).2 = true) : mayOk (meltP a b).1 r = true := by
  have ht := tog_const (f := a.op) (c := a.c) (s := b.op) (d := b.c) (may_const ha) (may_const hb)
  rw [mayOk_iff] at ha hb
  obtain ⟨⟨a1, a2, a3, a4, a5, a6⟩, a7⟩ := ha
  obtain ⟨⟨b1, b2, b3, b4, b5, b6⟩, b7⟩ := hb
  unfold meltP at h ⊢
  split at h
  · cases h
  · rename_i hn
    rw [if_neg hn]
    split at h
    · rename_i hy
      rw [if_pos hy]
      refine plain_may ?_
      rcases ht with ht | ht
      · have hop : 1 ≤ (togP a.op a.c b.op b.c).1 ∧ (togP a.op a.c b.op b.c).1 ≤ 8 ∧ ¬ ((togP a.op a.c b.op b.c).1 = 3 ∨ (togP a.op a.c b.op b.c).1 = 4) := tog_range (by omega) hy
        rw [mayOk_iff]
        refine ⟨⟨hop.1, hop.2.1, b3, b4, a5, a6⟩, ?_⟩
        rw [if_neg hop.2.2]
        refine ⟨rfl, ?_⟩
        unfold constOk at ht
        repeat' split at ht
        all_goals simp_all
      · rw [hy] at ht; cases ht
    · cases h
end Go.Proofs.YtfleehgbpgmcnaaDoor
