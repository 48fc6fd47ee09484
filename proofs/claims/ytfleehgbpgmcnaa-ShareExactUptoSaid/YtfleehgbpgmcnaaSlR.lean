/- Whole numbers as digits to the base 65536, low one first. -/
import Derived.Test.YtfleehgbpgmcnaaSlQ
set_option linter.unusedVariables false
namespace Go.Sl
open Go
def Digs (l : List U32) : Prop := ∀ d ∈ l, 0 ≤ d.v ∧ d.v < 65536
def valL : List U32 → Int
  | [] => 0
  | d :: l => d.v + 65536 * valL l
def pw (n : Nat) : Int := ((65536 ^ n : Nat) : Int)
theorem pw_zero : pw 0 = 1 := rfl
theorem pw_succ (n : Nat) : pw (n + 1) = 65536 * pw n := by unfold pw; rw [Nat.pow_succ, Nat.mul_comm, Int.natCast_mul]; rfl
theorem pw_pos (n : Nat) : 0 < pw n := by unfold pw; exact Int.ofNat_lt.2 (Nat.pow_pos (by decide))
theorem pw_add (m n : Nat) : pw (m + n) = pw m * pw n := by unfold pw; rw [Nat.pow_add, Int.natCast_mul]
theorem pw_le {m n : Nat} (h : m ≤ n) : pw m ≤ pw n := by unfold pw; exact Int.ofNat_le.2 (Nat.pow_le_pow_right (by decide) h)
theorem pw_lt {m n : Nat} (h : m < n) : pw m < pw n := by unfold pw; exact Int.ofNat_lt.2 (Nat.pow_lt_pow_right (by decide) h)
theorem valL_nil : valL [] = 0 := rfl
theorem valL_cons (d : U32) (l : List U32) : valL (d :: l) = d.v + 65536 * valL l := rfl
theorem Digs.nil : Digs [] := fun d h => by simp at h
theorem Digs.tail {d : U32} {l : List U32} (h : Digs (d :: l)) : Digs l := fun x hx => h x (List.mem_cons_of_mem _ hx)
theorem Digs.head {d : U32} {l : List U32} (h : Digs (d :: l)) : 0 ≤ d.v ∧ d.v < 65536 := h d List.mem_cons_self
theorem Digs.append {l m : List U32} (h : Digs l) (h' : Digs m) : Digs (l ++ m) := fun x hx => by
  rcases List.mem_append.1 hx with h1 | h1
  · exact h x h1
  · exact h' x h1
theorem Digs.one {d : Int} (h : 0 ≤ d ∧ d < 65536) : Digs [⟨d⟩] := fun x hx => by
  have : x = ⟨d⟩ := by simpa using hx
  subst this; exact h
theorem Digs.take {l : List U32} (h : Digs l) (n : Nat) : Digs (l.take n) := fun x hx => h x (List.mem_of_mem_take hx)
theorem Digs.at {l : List U32} (h : Digs l) {m : Int} (hm : 0 ≤ m ∧ m < l.length) : 0 ≤ (l[m.toNat]?.getD default).v ∧ (l[m.toNat]?.getD default).v < 65536 := by
  have hl : m.toNat < l.length := by omega
  rw [List.getElem?_eq_getElem hl]; exact h _ (List.getElem_mem hl)
theorem valL_nonneg : ∀ {l : List U32}, Digs l → 0 ≤ valL l
  | [], _ => Int.le_refl 0
  | d :: l, h => by
    have h1 := valL_nonneg h.tail
    have h2 := h.head
    rw [valL_cons]; omega
theorem valL_lt : ∀ {l : List U32}, Digs l → valL l < pw l.length
  | [], _ => by decide
  | d :: l, h => by
    have h1 := valL_lt h.tail
    have h2 := h.head
    rw [valL_cons, List.length_cons, pw_succ]; omega
theorem valL_append : ∀ (l m : List U32), valL (l ++ m) = valL l + pw l.length * valL m
  | [], m => by rw [List.nil_append, valL_nil, List.length_nil, pw_zero]; omega
  | d :: l, m => by
    rw [List.cons_append, valL_cons, valL_cons, valL_append l m, List.length_cons, pw_succ, Int.mul_add, ← Int.mul_assoc]; omega
theorem valL_one (d : U32) : valL [d] = d.v := by rw [valL_cons, valL_nil]; omega
theorem valL_snoc (l : List U32) (d : U32) : valL (l ++ [d]) = valL l + pw l.length * d.v := by rw [valL_append, valL_one]
theorem valL_take_succ {l : List U32} {k : Nat} (h : k < l.length) : valL (l.take (k + 1)) = valL (l.take k) + pw k * (l[((k : Nat) : Int).toNat]?.getD default).v := by
  rw [List.take_add_one, Int.toNat_natCast, List.getElem?_eq_getElem h]
  simp only [Option.toList_some, Option.getD_some]
  rw [valL_snoc, List.length_take, Nat.min_eq_left (Nat.le_of_lt h)]
theorem take_all {α : Type} {l : List α} {k : Nat} (h : l.length ≤ k) : l.take k = l := List.take_of_length_le h
theorem valL_replicate (n : Nat) : valL (List.replicate n ⟨0⟩) = 0 := by
  induction n with
  | zero => rfl
  | succ n ih => rw [List.replicate_succ, valL_cons, ih]; rfl
theorem Digs.zeros (n : Nat) : Digs (List.replicate n ⟨0⟩) := fun x hx => by
  have := List.eq_of_mem_replicate hx
  subst this; exact ⟨by decide, by decide⟩
/-- noughts at the top count nothing -/
theorem valL_trim {l : List U32} {n : Nat} (h : ∀ j, n ≤ j → j < l.length → (l[j]?.getD default).v = 0) : valL (l.take n) = valL l := by
  rcases Nat.lt_or_ge n l.length with hn | hn
  · have e : l = l.take n ++ l.drop n := (List.take_append_drop n l).symm
    have hz : ∀ (m : List U32), (∀ j, j < m.length → (m[j]?.getD default).v = 0) → valL m = 0 := by
      intro m
      induction m with
      | nil => intro _; rfl
      | cons d m ih =>
        intro h0
        have h1 := h0 0 (by simp)
        simp only [List.getElem?_cons_zero, Option.getD_some] at h1
        rw [valL_cons, h1, ih fun j hj => by have := h0 (j + 1) (by simpa using hj); simpa using this]; rfl
    have h2 : valL (l.drop n) = 0 := hz _ fun j hj => by
      rw [List.getElem?_drop]
      exact h (n + j) (by omega) (by rw [List.length_drop] at hj; omega)
    have h3 : valL l = valL (l.take n ++ l.drop n) := by rw [List.take_append_drop]
    rw [h3, valL_append, h2]; omega
  · rw [take_all hn]
/-- without a nought at the top -/
def Top (l : List U32) : Prop := l = [] ∨ (l[l.length - 1]?.getD default).v ≠ 0
theorem Top.nil : Top [] := .inl rfl
theorem top_ge {l : List U32} (hd : Digs l) (ht : Top l) (h0 : l ≠ []) : pw (l.length - 1) ≤ valL l := by
  have hl : 0 < l.length := List.length_pos_iff.2 h0
  have h1 : (l[l.length - 1]?.getD default).v ≠ 0 := by
    rcases ht with h | h
    · exact absurd h h0
    · exact h
  have h2 := valL_take_succ (l := l) (k := l.length - 1) (by omega)
  rw [Nat.sub_add_cancel hl, take_all (Nat.le_refl _), Int.toNat_natCast] at h2
  have h3 := valL_nonneg (hd.take (l.length - 1))
  have h4 : (1 : Int) ≤ (l[l.length - 1]?.getD default).v := by
    have := hd.at (m := ((l.length - 1 : Nat) : Int)) (by omega)
    rw [Int.toNat_natCast] at this
    omega
  have h5 := Int.mul_le_mul_of_nonneg_left h4 (Int.le_of_lt (pw_pos (l.length - 1)))
  omega
theorem top_len {l : List U32} (hd : Digs l) (ht : Top l) {m : Nat} (h : valL l < pw m) : l.length ≤ m := by
  by_cases h0 : l = []
  · subst h0; exact Nat.zero_le _
  · have h1 := top_ge hd ht h0
    rcases Nat.lt_or_ge m l.length with h2 | h2
    · have h3 := pw_le (show m ≤ l.length - 1 by omega)
      omega
    · exact h2
theorem top_pos {l : List U32} (hd : Digs l) (ht : Top l) (h0 : l ≠ []) : 0 < valL l := Int.lt_of_lt_of_le (pw_pos _) (top_ge hd ht h0)
theorem top_lt_len {l m : List U32} (hl : Digs l) (hm : Digs m) (tm : Top m) (h : l.length < m.length) : valL l < valL m := by
  have h1 := valL_lt hl
  have h2 := top_ge hm tm (fun e => by rw [e] at h; simp at h)
  have h3 := pw_le (show l.length ≤ m.length - 1 by omega)
  omega
/-- one number's digits are one list -/
theorem valL_inj : ∀ {l m : List U32}, Digs l → Digs m → l.length = m.length → valL l = valL m → l = m
  | [], [], _, _, _, _ => rfl
  | [], _ :: _, _, _, h, _ => by simp at h
  | _ :: _, [], _, _, h, _ => by simp at h
  | d :: l, e :: m, hl, hm, h, hv => by
    rw [valL_cons, valL_cons] at hv
    have h1 := hl.head
    have h2 := hm.head
    have h3 : valL l = valL m := by omega
    have h4 : d.v = e.v := by omega
    have h5 := valL_inj hl.tail hm.tail (by simpa using h) h3
    cases d; cases e
    simp only at h4
    rw [h4, h5]
/-- sign and digits of a whole number -/
structure IsInt (neg : Bool) (l : List U32) (z : Int) : Prop where
  digs : Digs l
  top : Top l
  sign : l = [] → neg = false
  val : z = if neg = true then -valL l else valL l
theorem IsInt.abs {neg : Bool} {l : List U32} {z : Int} (h : IsInt neg l z) : valL l = z.natAbs := by
  have h1 := valL_nonneg h.digs
  have h2 := h.val
  split at h2 <;> omega
theorem IsInt.neg_iff {neg : Bool} {l : List U32} {z : Int} (h : IsInt neg l z) : neg = decide (z < 0) := by
  have h2 := h.val
  by_cases h0 : l = []
  · have h3 := h.sign h0
    subst h0
    rw [h3] at h2 ⊢
    rw [valL_nil] at h2
    have : ¬ z < 0 := by simp at h2; omega
    simp [this]
  · have h1 := top_pos h.digs h.top h0
    cases neg with
    | true =>
      rw [if_pos rfl] at h2
      have : z < 0 := by omega
      simp [this]
    | false =>
      rw [if_neg (by decide)] at h2
      have : ¬ z < 0 := by omega
      simp [this]
theorem IsInt.zero_iff {neg : Bool} {l : List U32} {z : Int} (h : IsInt neg l z) : l.length = 0 ↔ z = 0 := by
  have h2 := h.val
  constructor
  · intro h0
    have h0 := List.eq_nil_of_length_eq_zero h0
    subst h0
    rw [valL_nil] at h2
    split at h2 <;> omega
  · intro hz
    by_cases h0 : l = []
    · rw [h0]; rfl
    · have h1 := top_pos h.digs h.top h0
      split at h2 <;> omega
theorem IsInt.len {neg : Bool} {l : List U32} {z : Int} (h : IsInt neg l z) {m : Nat} (hz : (z.natAbs : Int) < pw m) : l.length ≤ m := by
  refine top_len h.digs h.top ?_
  rw [h.abs]; exact hz
/-- what a handle stands for -/
def Num (G : Imm) (x : IV) (z : Int) : Prop := ∃ l : List U32, l.length = x.n ∧ x.n ≤ x.c ∧ Arr G x.a l ∧ IsInt x.neg l z
theorem Num.up {G G' : Imm} {x : IV} {z : Int} (h : Num G x z) (hl : G.le G') : Num G' x z := by
  obtain ⟨l, h1, h0, h2, h3⟩ := h
  exact ⟨l, h1, h0, h2.up hl, h3⟩
theorem Num.zero (G : Imm) : Num G ⟨false, none, 0, 0⟩ 0 := ⟨[], rfl, Nat.le_refl _, Arr.nil G, ⟨Digs.nil, Top.nil, fun _ => rfl, rfl⟩⟩
end Go.Sl
