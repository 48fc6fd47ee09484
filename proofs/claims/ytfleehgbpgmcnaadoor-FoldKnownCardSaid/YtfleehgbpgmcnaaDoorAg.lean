/- The pass over constants, in plain words: a stack on which instructions are pushed; what it keeps. -/
import Derived.Test.YtfleehgbpgmcnaaDoorAe
set_option maxRecDepth 100000
namespace Go.Proofs.YtfleehgbpgmcnaaDoor
open Go Go.Sl
def idle1 (i : Sl.Instr) : Bool := decide (i.op = 1 ∧ i.to = i.a)
/-- one instruction more; the stack's top first -/
def pushP : List Sl.Instr → Sl.Instr → List Sl.Instr
  | [], b => if idle1 b = true then [] else [b]
  | a :: s, b => if idle1 b = true then a :: s else if (meltP a b).2 = true then pushP s (meltP a b).1 else b :: a :: s
def pushL (L : List Sl.Instr) (b : Sl.Instr) : List Sl.Instr := (pushP L.reverse b).reverse
def foldS (l : List Sl.Instr) : List Sl.Instr := l.foldl (fun s i => pushP s (plainP i)) []
def foldTo (p : PV) (k : Nat) : List Sl.Instr := (foldS (p.code.take k)).reverse
def foldP (p : PV) : PV := ⟨p.ins, p.regs, (foldS p.code).reverse, p.outs⟩
theorem pushL_idle {L : List Sl.Instr} {b : Sl.Instr} (h : idle1 b = true) : pushL L b = L := by
  unfold pushL
  cases hL : L.reverse with
  | nil => rw [pushP, if_pos h, ← hL, List.reverse_reverse]
  | cons a s => rw [pushP, if_pos h, ← hL, List.reverse_reverse]
theorem pushL_nil {b : Sl.Instr} (h : ¬ idle1 b = true) : pushL [] b = [b] := by
  unfold pushL; rw [List.reverse_nil, pushP, if_neg h]; rfl
theorem pushL_melt {M : List Sl.Instr} {a b : Sl.Instr} (h : ¬ idle1 b = true) (hm : (meltP a b).2 = true) : pushL (M ++ [a]) b = pushL M (meltP a b).1 := by
  unfold pushL; rw [List.reverse_append, List.reverse_singleton, List.singleton_append, pushP, if_neg h, if_pos hm]
theorem pushL_push {M : List Sl.Instr} {a b : Sl.Instr} (h : ¬ idle1 b = true) (hm : ¬ (meltP a b).2 = true) : pushL (M ++ [a]) b = M ++ [a] ++ [b] := by
  unfold pushL; rw [List.reverse_append, List.reverse_singleton, List.singleton_append, pushP, if_neg h, if_neg hm]
  simp
theorem foldTo_step {p : PV} {k : Nat} (h : k < p.code.length) : foldTo p (k + 1) = pushL (foldTo p k) (plainP (p.code[((k : Nat) : Int).toNat]?.getD default)) := by
  unfold foldTo pushL foldS
  rw [List.reverse_reverse, List.take_add_one, Int.toNat_natCast, List.getElem?_eq_getElem h, List.foldl_append]
  rfl
theorem foldTo_all (p : PV) : foldTo p p.code.length = (foldP p).code := by unfold foldTo foldP; rw [List.take_length]
theorem foldTo_zero (p : PV) : foldTo p 0 = [] := rfl
theorem push_len : ∀ (s : List Sl.Instr) (b : Sl.Instr), (pushP s b).length ≤ s.length + 1
  | [], b => by unfold pushP; split <;> simp
  | a :: s, b => by
    unfold pushP
    split
    · simp
    split
    · have := push_len s (meltP a b).1; simp only [List.length_cons]; omega
    · simp
theorem fold_len_aux (l : List Sl.Instr) (s : List Sl.Instr) : (l.foldl (fun s i => pushP s (plainP i)) s).length ≤ s.length + l.length := by
  induction l generalizing s with
  | nil => simp
  | cons x l ih => have h1 := ih (pushP s (plainP x)); have h2 := push_len s (plainP x); simp only [List.foldl_cons, List.length_cons]; omega
theorem foldTo_len (p : PV) (k : Nat) : (foldTo p k).length ≤ k := by
  have := fold_len_aux (p.code.take k) []
  unfold foldTo foldS
  simp only [List.length_reverse, List.length_nil, List.length_take] at *
  omega
theorem fold_len (p : PV) : (foldP p).code.length ≤ p.code.length := by rw [← foldTo_all]; exact foldTo_len p _

/-! what is kept -/
theorem push_all {q : Sl.Instr → Prop} (hm : ∀ a b, q a → q b → (meltP a b).2 = true → q (meltP a b).1) : ∀ (s : List Sl.Instr) (b : Sl.Instr), (∀ i ∈ s, q i) → q b → ∀ i ∈ pushP s b, q i
  | [], b, _, hb => by
    unfold pushP; split
    · simp
    · simpa using hb
  | a :: s, b, hs, hb => by
    unfold pushP
    split
    · exact hs
    split
    · rename_i h
      exact push_all hm s _ (fun i hi => hs i (List.mem_cons_of_mem _ hi)) (hm a b (hs a List.mem_cons_self) hb h)
    · intro i hi
      rcases List.mem_cons.1 hi with rfl | hi
      · exact hb
      · exact hs i hi
theorem fold_all {q : Sl.Instr → Prop} (hm : ∀ a b, q a → q b → (meltP a b).2 = true → q (meltP a b).1) (hp : ∀ i, q i → q (plainP i)) (l : List Sl.Instr) (h : ∀ i ∈ l, q i) : ∀ i ∈ foldS l, q i := by
  have aux : ∀ (l s : List Sl.Instr), (∀ i ∈ l, q i) → (∀ i ∈ s, q i) → ∀ i ∈ l.foldl (fun s i => pushP s (plainP i)) s, q i := by
    intro l
    induction l with
    | nil => intro s _ hs; exact hs
    | cons x l ih =>
      intro s hl hs
      exact ih _ (fun i hi => hl i (List.mem_cons_of_mem _ hi)) (push_all hm s _ hs (hp x (hl x List.mem_cons_self)))
  exact aux l [] h (fun i hi => by simp at hi)
def okC (i : Sl.Instr) : Prop := constOk i.op i.c = true
theorem melt_okC {a b : Sl.Instr} (ha : okC a) (hb : okC b) (h : (meltP a b).2 = true) : okC (meltP a b).1 := by
  have ht := tog_const (f := a.op) (c := a.c) (s := b.op) (d := b.c) ha hb
  unfold meltP at h ⊢
  split at h
  · cases h
  · rename_i hn
    rw [if_neg hn]
    split at h
    · rename_i hy
      rw [if_pos hy]
      rcases ht with ht | ht
      · exact plain_const (i := ⟨_, b.to, a.a, 0, _⟩) ht
      · rw [hy] at ht; cases ht
    · cases h
theorem foldTo_okC {p : PV} (h : ∀ i ∈ p.code, okC i) (k : Nat) : ∀ i ∈ foldTo p k, okC i := fun i hi => by
  unfold foldTo at hi
  exact fold_all (q := okC) (fun a b ha hb h => melt_okC ha hb h) (fun i hi => plain_const hi) _ (fun i hi => h i (List.mem_of_mem_take hi)) i (List.mem_reverse.1 hi)
end Go.Proofs.YtfleehgbpgmcnaaDoor
