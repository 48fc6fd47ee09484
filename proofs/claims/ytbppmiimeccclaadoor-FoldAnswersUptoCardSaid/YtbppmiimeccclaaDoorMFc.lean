/- Parts of the proof (part 3): what the rows' text needs of the texts that lead to it. -/
import Derived.Test.YtbppmiimeccclaaDoorMFb
set_option maxRecDepth 100000
namespace Go.Sl
open Go
section
variable {P : Program} {B : Bs} {D : List Deferred}
/-- a loop under which more and more is frozen -/
theorem Wc.loopG {ι : Type} {r : Option Nat} {c : Code} {Q : Exit → Act → World → Prop} {e : Env} {H : Hp} {G : Imm} (I : ι → Env × Hp) (g : ι → Imm) (φ : ι → Prop) (μ : ι → Nat) (i0 : ι) (h0 : φ i0) (hg : G = g i0)
    (he : e.sub (I i0).1) (hH : H.sub (I i0).2)
    (hb : ∀ i, φ i → Wc r P c B ⟨(I i).1, D, (I i).2, g i⟩ (Exit.then (Again B (fun i => ⟨(I i).1, D, (I i).2, g i⟩) φ μ (μ i)) Q)) : Wc r P (.loop c) B ⟨e, D, H, G⟩ Q :=
  Wc.loopS (fun i => ⟨(I i).1, D, (I i).2, g i⟩) φ μ i0 h0 (fun _ _ h => by rw [hg] at h; exact h.sub he hH) hb
end
/-- numbers in a row -/
def Nums (G : Imm) (l : List IV) (zs : List Int) : Prop := l.length = zs.length ∧ ∀ i : Nat, i < l.length → Num G (l[i]?.getD default) (zs[i]?.getD 0)
theorem Nums.up {G G' : Imm} {l : List IV} {zs : List Int} (h : Nums G l zs) (hl : G.le G') : Nums G' l zs := ⟨h.1, fun i hi => (h.2 i hi).up hl⟩
theorem Nums.nil (G : Imm) : Nums G [] [] := ⟨rfl, fun i hi => by simp at hi⟩
theorem Nums.at {G : Imm} {l : List IV} {zs : List Int} (h : Nums G l zs) {m : Int} (hm : 0 ≤ m ∧ m < l.length) : Num G (l[m.toNat]?.getD default) (zs[m.toNat]?.getD 0) := h.2 _ (by omega)
theorem Nums.snoc {G : Imm} {l : List IV} {zs : List Int} (h : Nums G l zs) {x : IV} {z : Int} (hx : Num G x z) : Nums G (l ++ [x]) (zs ++ [z]) := by
  refine ⟨by simp [h.1], fun i hi => ?_⟩
  rw [List.length_append, List.length_singleton] at hi
  by_cases hc : i < l.length
  · rw [List.getElem?_append_left hc, List.getElem?_append_left (by rw [← h.1]; exact hc)]
    exact h.2 i hc
  · have e : i = l.length := by omega
    subst e
    rw [List.getElem?_concat_length, h.1, List.getElem?_concat_length]
    exact hx
/-- all smaller than m digits -/
def Below (m : Nat) (zs : List Int) : Prop := ∀ z ∈ zs, (z.natAbs : Int) < pw m
theorem Below.at {m : Nat} {zs : List Int} (h : Below m zs) (i : Nat) : ((zs[i]?.getD 0).natAbs : Int) < pw m := by
  cases hx : zs[i]? with
  | none => exact pw_pos m
  | some z => exact h z (List.mem_of_getElem? hx)
theorem Below.mono {m k : Nat} {zs : List Int} (h : Below m zs) (hk : m ≤ k) : Below k zs := fun z hz => Int.lt_of_lt_of_le (h z hz) (pw_le hk)
end Go.Sl
set_option linter.unusedVariables false
namespace Go.Sl
open Go
def Lims (l : List U32) : Prop := ∀ d ∈ l, 0 ≤ d.v ∧ d.v < 4294967296
def valB : List U32 → Int
  | [] => 0
  | d :: l => d.v + 4294967296 * valB l
def pb (n : Nat) : Int := ((4294967296 ^ n : Nat) : Int)
theorem pb_zero : pb 0 = 1 := rfl
theorem pb_succ (n : Nat) : pb (n + 1) = 4294967296 * pb n := by unfold pb; rw [Nat.pow_succ, Nat.mul_comm, Int.natCast_mul]; rfl
theorem pb_pos (n : Nat) : 0 < pb n := by unfold pb; exact Int.ofNat_lt.2 (Nat.pow_pos (by decide))
theorem pb_add (m n : Nat) : pb (m + n) = pb m * pb n := by unfold pb; rw [Nat.pow_add, Int.natCast_mul]
theorem pb_le {m n : Nat} (h : m ≤ n) : pb m ≤ pb n := by unfold pb; exact Int.ofNat_le.2 (Nat.pow_le_pow_right (by decide) h)
theorem valB_nil : valB [] = 0 := rfl
theorem valB_cons (d : U32) (l : List U32) : valB (d :: l) = d.v + 4294967296 * valB l := rfl
theorem Lims.nil : Lims [] := fun d h => by simp at h
theorem Lims.tail {d : U32} {l : List U32} (h : Lims (d :: l)) : Lims l := fun x hx => h x (List.mem_cons_of_mem _ hx)
theorem Lims.head {d : U32} {l : List U32} (h : Lims (d :: l)) : 0 ≤ d.v ∧ d.v < 4294967296 := h d List.mem_cons_self
theorem Lims.append {l m : List U32} (h : Lims l) (h' : Lims m) : Lims (l ++ m) := fun x hx => by
  rcases List.mem_append.1 hx with h1 | h1
  · exact h x h1
  · exact h' x h1
theorem Lims.one {d : Int} (h : 0 ≤ d ∧ d < 4294967296) : Lims [⟨d⟩] := fun x hx => by
  have : x = ⟨d⟩ := by simpa using hx
  subst this; exact h
theorem Lims.take {l : List U32} (h : Lims l) (n : Nat) : Lims (l.take n) := fun x hx => h x (List.mem_of_mem_take hx)
theorem Lims.at {l : List U32} (h : Lims l) {m : Int} (hm : 0 ≤ m ∧ m < l.length) : 0 ≤ (l[m.toNat]?.getD default).v ∧ (l[m.toNat]?.getD default).v < 4294967296 := by
  have hl : m.toNat < l.length := by omega
  rw [List.getElem?_eq_getElem hl]; exact h _ (List.getElem_mem hl)
theorem valB_nonneg : ∀ {l : List U32}, Lims l → 0 ≤ valB l
  | [], _ => Int.le_refl 0
  | d :: l, h => by
    have h1 := valB_nonneg h.tail
    have h2 := h.head
    rw [valB_cons]; omega
theorem valB_lt : ∀ {l : List U32}, Lims l → valB l < pb l.length
  | [], _ => by decide
  | d :: l, h => by
    have h1 := valB_lt h.tail
    have h2 := h.head
    rw [valB_cons, List.length_cons, pb_succ]; omega
theorem valB_append : ∀ (l m : List U32), valB (l ++ m) = valB l + pb l.length * valB m
  | [], m => by rw [List.nil_append, valB_nil, List.length_nil, pb_zero]; omega
  | d :: l, m => by
    rw [List.cons_append, valB_cons, valB_cons, valB_append l m, List.length_cons, pb_succ, Int.mul_add, ← Int.mul_assoc]; omega
theorem valB_one (d : U32) : valB [d] = d.v := by rw [valB_cons, valB_nil]; omega
theorem valB_snoc (l : List U32) (d : U32) : valB (l ++ [d]) = valB l + pb l.length * d.v := by rw [valB_append, valB_one]
theorem valB_take_succ {l : List U32} {k : Nat} (h : k < l.length) : valB (l.take (k + 1)) = valB (l.take k) + pb k * (l[((k : Nat) : Int).toNat]?.getD default).v := by
  rw [List.take_add_one, Int.toNat_natCast, List.getElem?_eq_getElem h]
  simp only [Option.toList_some, Option.getD_some]
  rw [valB_snoc, List.length_take, Nat.min_eq_left (Nat.le_of_lt h)]
theorem valB_replicate (n : Nat) : valB (List.replicate n ⟨0⟩) = 0 := by
  induction n with
  | zero => rfl
  | succ n ih => rw [List.replicate_succ, valB_cons, ih]; rfl
theorem Lims.zeros (n : Nat) : Lims (List.replicate n ⟨0⟩) := fun x hx => by
  have := List.eq_of_mem_replicate hx
  subst this; exact ⟨by decide, by decide⟩
/-- noughts at the top count nothing -/
theorem valB_trim {l : List U32} {n : Nat} (h : ∀ j, n ≤ j → j < l.length → (l[j]?.getD default).v = 0) : valB (l.take n) = valB l := by
  rcases Nat.lt_or_ge n l.length with hn | hn
  · have e : l = l.take n ++ l.drop n := (List.take_append_drop n l).symm
    have hz : ∀ (m : List U32), (∀ j, j < m.length → (m[j]?.getD default).v = 0) → valB m = 0 := by
      intro m
      induction m with
      | nil => intro _; rfl
      | cons d m ih =>
        intro h0
        have h1 := h0 0 (by simp)
        simp only [List.getElem?_cons_zero, Option.getD_some] at h1
        rw [valB_cons, h1, ih fun j hj => by have := h0 (j + 1) (by simpa using hj); simpa using this]; rfl
    have h2 : valB (l.drop n) = 0 := hz _ fun j hj => by
      rw [List.getElem?_drop]
      exact h (n + j) (by omega) (by rw [List.length_drop] at hj; omega)
    have h3 : valB l = valB (l.take n ++ l.drop n) := by rw [List.take_append_drop]
    rw [h3, valB_append, h2]; omega
  · rw [take_all hn]
theorem ltop_ge {l : List U32} (hd : Lims l) (ht : Top l) (h0 : l ≠ []) : pb (l.length - 1) ≤ valB l := by
  have hl : 0 < l.length := List.length_pos_iff.2 h0
  have h1 : (l[l.length - 1]?.getD default).v ≠ 0 := by
    rcases ht with h | h
    · exact absurd h h0
    · exact h
  have h2 := valB_take_succ (l := l) (k := l.length - 1) (by omega)
  rw [Nat.sub_add_cancel hl, take_all (Nat.le_refl _), Int.toNat_natCast] at h2
  have h3 := valB_nonneg (hd.take (l.length - 1))
  have h4 : (1 : Int) ≤ (l[l.length - 1]?.getD default).v := by
    have := hd.at (m := ((l.length - 1 : Nat) : Int)) (by omega)
    rw [Int.toNat_natCast] at this
    omega
  have h5 := Int.mul_le_mul_of_nonneg_left h4 (Int.le_of_lt (pb_pos (l.length - 1)))
  omega
theorem ltop_len {l : List U32} (hd : Lims l) (ht : Top l) {m : Nat} (h : valB l < pb m) : l.length ≤ m := by
  by_cases h0 : l = []
  · subst h0; exact Nat.zero_le _
  · have h1 := ltop_ge hd ht h0
    rcases Nat.lt_or_ge m l.length with h2 | h2
    · have h3 := pb_le (show m ≤ l.length - 1 by omega)
      omega
    · exact h2
theorem ltop_pos {l : List U32} (hd : Lims l) (ht : Top l) (h0 : l ≠ []) : 0 < valB l := Int.lt_of_lt_of_le (pb_pos _) (ltop_ge hd ht h0)
theorem ltop_lt_len {l m : List U32} (hl : Lims l) (hm : Lims m) (tm : Top m) (h : l.length < m.length) : valB l < valB m := by
  have h1 := valB_lt hl
  have h2 := ltop_ge hm tm (fun e => by rw [e] at h; simp at h)
  have h3 := pb_le (show l.length ≤ m.length - 1 by omega)
  omega
/-- sign and digits of a whole number -/
structure IsBig (neg : Bool) (l : List U32) (z : Int) : Prop where
  digs : Lims l
  top : Top l
  sign : l = [] → neg = false
  val : z = if neg = true then -valB l else valB l
theorem IsBig.abs {neg : Bool} {l : List U32} {z : Int} (h : IsBig neg l z) : valB l = z.natAbs := by
  have h1 := valB_nonneg h.digs
  have h2 := h.val
  split at h2 <;> omega
theorem IsBig.neg_iff {neg : Bool} {l : List U32} {z : Int} (h : IsBig neg l z) : neg = decide (z < 0) := by
  have h2 := h.val
  by_cases h0 : l = []
  · have h3 := h.sign h0
    subst h0
    rw [h3] at h2 ⊢
    rw [valB_nil] at h2
    have : ¬ z < 0 := by simp at h2; omega
    simp [this]
  · have h1 := ltop_pos h.digs h.top h0
    cases neg with
    | true =>
      rw [if_pos rfl] at h2
      have : z < 0 := by omega
      simp [this]
    | false =>
      rw [if_neg (by decide)] at h2
      have : ¬ z < 0 := by omega
      simp [this]
theorem IsBig.zero_iff {neg : Bool} {l : List U32} {z : Int} (h : IsBig neg l z) : l.length = 0 ↔ z = 0 := by
  have h2 := h.val
  constructor
  · intro h0
    have h0 := List.eq_nil_of_length_eq_zero h0
    subst h0
    rw [valB_nil] at h2
    split at h2 <;> omega
  · intro hz
    by_cases h0 : l = []
    · rw [h0]; rfl
    · have h1 := ltop_pos h.digs h.top h0
      split at h2 <;> omega
theorem IsBig.len {neg : Bool} {l : List U32} {z : Int} (h : IsBig neg l z) {m : Nat} (hz : (z.natAbs : Int) < pb m) : l.length ≤ m := by
  refine ltop_len h.digs h.top ?_
  rw [h.abs]; exact hz
/-- what a handle stands for -/
def Big (G : Imm) (x : IV) (z : Int) : Prop := ∃ l : List U32, l.length = x.n ∧ x.n ≤ x.c ∧ Arr G x.a l ∧ IsBig x.neg l z
theorem Big.up {G G' : Imm} {x : IV} {z : Int} (h : Big G x z) (hl : G.le G') : Big G' x z := by
  obtain ⟨l, h1, h0, h2, h3⟩ := h
  exact ⟨l, h1, h0, h2.up hl, h3⟩
theorem Big.zero (G : Imm) : Big G ⟨false, none, 0, 0⟩ 0 := ⟨[], rfl, Nat.le_refl _, Arr.nil G, ⟨Lims.nil, Top.nil, fun _ => rfl, rfl⟩⟩
end Go.Sl
set_option linter.unusedVariables false
namespace Go.Sl
open Go
theorem bits_and_u64_nat (a b : Nat) (ha : a < 18446744073709551616) (hb : b < 18446744073709551616) : bits .and .u64 (a : Int) (b : Int) = ((a &&& b : Nat) : Int) := by
  have hx : a &&& b < 2 ^ 64 := Nat.and_lt_two_pow _ (by omega)
  have h1 : (BitVec.ofInt 64 (a : Int)).toNat = a := by
    rw [BitVec.ofInt_natCast, BitVec.toNat_ofNat]; exact Nat.mod_eq_of_lt (by omega)
  have h2 : (BitVec.ofInt 64 (b : Int)).toNat = b := by
    rw [BitVec.ofInt_natCast, BitVec.toNat_ofNat]; exact Nat.mod_eq_of_lt (by omega)
  show IntKind.u64.wrap ((BitVec.ofInt 64 (a : Int) &&& BitVec.ofInt 64 (b : Int)).toNat : Int) = _
  rw [BitVec.toNat_and, h1, h2, IntKind.wrap_u64]
  omega
theorem bits_or_u64_nat (a b : Nat) (ha : a < 18446744073709551616) (hb : b < 18446744073709551616) : bits .or .u64 (a : Int) (b : Int) = ((a ||| b : Nat) : Int) := by
  have hx : a ||| b < 2 ^ 64 := Nat.or_lt_two_pow (by omega) (by omega)
  have h1 : (BitVec.ofInt 64 (a : Int)).toNat = a := by
    rw [BitVec.ofInt_natCast, BitVec.toNat_ofNat]; exact Nat.mod_eq_of_lt (by omega)
  have h2 : (BitVec.ofInt 64 (b : Int)).toNat = b := by
    rw [BitVec.ofInt_natCast, BitVec.toNat_ofNat]; exact Nat.mod_eq_of_lt (by omega)
  show IntKind.u64.wrap ((BitVec.ofInt 64 (a : Int) ||| BitVec.ofInt 64 (b : Int)).toNat : Int) = _
  rw [BitVec.toNat_or, h1, h2, IntKind.wrap_u64]
  omega
theorem and_one_u64 (x : Int) (h : 0 ≤ x ∧ x < 18446744073709551616) : bits .and .u64 x 1 = x % 2 := by
  have h1 := bits_and_u64_nat x.toNat 1 (by omega) (by omega)
  rw [Nat.and_one_is_mod, Int.toNat_of_nonneg h.1] at h1
  have h2 : ((x.toNat % 2 : Nat) : Int) = x % 2 := by omega
  exact h1.trans h2
theorem and_low_u64 (x : Int) (h : 0 ≤ x ∧ x < 18446744073709551616) : bits .and .u64 x 4294967295 = x % 4294967296 := by
  have h1 := bits_and_u64_nat x.toNat 4294967295 (by omega) (by omega)
  rw [show (4294967295 : Nat) = 2 ^ 32 - 1 by decide, Nat.and_two_pow_sub_one_eq_mod, Int.toNat_of_nonneg h.1] at h1
  have h2 : ((x.toNat % 2 ^ 32 : Nat) : Int) = x % 4294967296 := by omega
  exact h1.trans h2
/-- a high half and a low one -/
theorem or_low_u64 (x y : Int) (hx : 0 ≤ x ∧ x < 4294967296) (hy : 0 ≤ y ∧ y < 4294967296) : bits .or .u64 (x * 4294967296) y = x * 4294967296 + y := by
  have h1 := bits_or_u64_nat (2 ^ 32 * x.toNat) y.toNat (by omega) (by omega)
  rw [← Nat.two_pow_add_eq_or_of_lt (b := y.toNat) (i := 32) (by omega) x.toNat] at h1
  have e1 : ((2 ^ 32 * x.toNat : Nat) : Int) = x * 4294967296 := by omega
  have e2 : ((2 ^ 32 * x.toNat + y.toNat : Nat) : Int) = x * 4294967296 + y := by omega
  rw [e1, e2, Int.toNat_of_nonneg hy.1] at h1
  exact h1
/-- a low half and a high one -/
theorem or_high_u64 (x y : Int) (hx : 0 ≤ x ∧ x < 4294967296) (hy : 0 ≤ y ∧ y < 4294967296) : bits .or .u64 y (x * 4294967296) = x * 4294967296 + y := by
  have h1 := bits_or_u64_nat y.toNat (2 ^ 32 * x.toNat) (by omega) (by omega)
  rw [Nat.or_comm, ← Nat.two_pow_add_eq_or_of_lt (b := y.toNat) (i := 32) (by omega) x.toNat] at h1
  have e1 : ((2 ^ 32 * x.toNat : Nat) : Int) = x * 4294967296 := by omega
  have e2 : ((2 ^ 32 * x.toNat + y.toNat : Nat) : Int) = x * 4294967296 + y := by omega
  rw [e1, e2, Int.toNat_of_nonneg hy.1] at h1
  exact h1
/-- what lies below a power, and a multiple of it, in 32 bits -/
theorem or_part_u32 (x y : Int) (s : Nat) (hx : 0 ≤ x ∧ x < ((2 ^ s : Nat) : Int)) (hy : 0 ≤ y ∧ y < 4294967296) (hs : s ≤ 32) (hm : y % ((2 ^ s : Nat) : Int) = 0) : bits .or .u32 x y = x + y := by
  have hp : 2 ^ s ≤ 2 ^ 32 := Nat.pow_le_pow_right (by decide) hs
  have h1 := bits_or_u32_nat x.toNat y.toNat (by omega) (by omega)
  have hm' : y.toNat % 2 ^ s = 0 := by
    have h2 : ((y.toNat % 2 ^ s : Nat) : Int) = 0 := by rw [Int.natCast_emod, Int.toNat_of_nonneg hy.1]; exact hm
    exact Int.ofNat_eq_zero.1 h2
  have h3 := Nat.div_add_mod y.toNat (2 ^ s)
  rw [hm', Nat.add_zero] at h3
  have h4 := Nat.two_pow_add_eq_or_of_lt (b := x.toNat) (i := s) (by omega) (y.toNat / 2 ^ s)
  rw [h3] at h4
  rw [Nat.or_comm, ← h4, Int.toNat_of_nonneg hx.1, Int.toNat_of_nonneg hy.1] at h1
  rw [h1]
  omega
section
variable {P : Program} {e : Env} {H : Hp} {G : Imm} {ty : TypeId} {t t' : TypeId} {x y : Operand} {m n : Int} {k : IntKind}
theorem Qy.shr32 (hx : e.ev x = some (.int .u64 m)) (hy : e.ev y = some (.int k 32)) (h0 : 0 ≤ m) : Qy P (.binOp .shr t x y t') ty e H G (.int .u64 (m / 4294967296)) := by
  have h := Qy.shr (P := P) (H := H) (G := G) (ty := ty) (t := t) (t' := t') hx hy (by decide)
  have e1 : m.fdiv (2 ^ (Min.min (32 : Int).toNat IntKind.u64.bits)) = m / 4294967296 := by
    rw [show Min.min (32 : Int).toNat IntKind.u64.bits = 32 by decide]
    exact Int.fdiv_eq_ediv_of_nonneg _ (by decide)
  rw [e1] at h; exact h
theorem Qy.shl32 (hx : e.ev x = some (.int .u64 m)) (hy : e.ev y = some (.int k 32)) (h0 : 0 ≤ m ∧ m < 4294967296) : Qy P (.binOp .shl t x y t') ty e H G (.int .u64 (m * 4294967296)) := by
  have h := Qy.shl (P := P) (H := H) (G := G) (ty := ty) (t := t) (t' := t') hx hy (by decide)
  have e1 : IntKind.u64.wrap (m * 2 ^ (Min.min (32 : Int).toNat IntKind.u64.bits)) = m * 4294967296 := by
    rw [show Min.min (32 : Int).toNat IntKind.u64.bits = 32 by decide]
    exact IntWalk.u64_in _ (by omega)
  rw [e1] at h; exact h
theorem Qy.trunc32 {s : TypeId} (hs : (P.underlying s).isSome = true) (ht : P.underlying t = some (.int .u32)) (hx : e.ev x = some (.int .u64 m)) : Qy P (.convert s t x) ty e H G (.int .u32 (m % 4294967296)) := by
  have h := Qy.conv (P := P) (H := H) (G := G) (ty := ty) hs ht hx
  rw [IntKind.wrap_u32] at h
  exact h
theorem Qy.and1 (hx : e.ev x = some (.int .u64 m)) (hy : e.ev y = some (.int .u64 1)) (h0 : 0 ≤ m ∧ m < 18446744073709551616) : Qy P (.binOp .and t x y t') ty e H G (.int .u64 (m % 2)) := by
  have h := Qy.andW (P := P) (H := H) (G := G) (ty := ty) (t := t) (t' := t') hx hy
  rw [and_one_u64 m h0] at h; exact h
theorem Qy.andLow (hx : e.ev x = some (.int .u64 m)) (hy : e.ev y = some (.int .u64 4294967295)) (h0 : 0 ≤ m ∧ m < 18446744073709551616) : Qy P (.binOp .and t x y t') ty e H G (.int .u64 (m % 4294967296)) := by
  have h := Qy.andW (P := P) (H := H) (G := G) (ty := ty) (t := t) (t' := t') hx hy
  rw [and_low_u64 m h0] at h; exact h
theorem Qy.orLow (hx : e.ev x = some (.int .u64 (m * 4294967296))) (hy : e.ev y = some (.int .u64 n)) (h0 : 0 ≤ m ∧ m < 4294967296) (h1 : 0 ≤ n ∧ n < 4294967296) : Qy P (.binOp .or t x y t') ty e H G (.int .u64 (m * 4294967296 + n)) := by
  have h := Qy.orW (P := P) (H := H) (G := G) (ty := ty) (t := t) (t' := t') hx hy
  rw [or_low_u64 m n h0 h1] at h; exact h
theorem Qy.orHigh (hx : e.ev x = some (.int .u64 n)) (hy : e.ev y = some (.int .u64 (m * 4294967296))) (h0 : 0 ≤ m ∧ m < 4294967296) (h1 : 0 ≤ n ∧ n < 4294967296) : Qy P (.binOp .or t x y t') ty e H G (.int .u64 (m * 4294967296 + n)) := by
  have h := Qy.orW (P := P) (H := H) (G := G) (ty := ty) (t := t) (t' := t') hx hy
  rw [or_high_u64 m n h0 h1] at h; exact h
/-- by so many bits as a slot says -/
theorem Qy.shlV {s : Nat} (hx : e.ev x = some (.int .u64 m)) (hy : e.ev y = some (.int k (s : Int))) (h0 : 0 ≤ m ∧ m < 4294967296) (hs : s ≤ 32) : Qy P (.binOp .shl t x y t') ty e H G (.int .u64 (m * ((2 ^ s : Nat) : Int))) := by
  have h := Qy.shl (P := P) (H := H) (G := G) (ty := ty) (t := t) (t' := t') hx hy (by omega)
  have e1 : IntKind.u64.wrap (m * 2 ^ (Min.min (s : Int).toNat IntKind.u64.bits)) = m * ((2 ^ s : Nat) : Int) := by
    rw [Int.toNat_natCast, Nat.min_eq_left (Nat.le_trans hs (by decide))]
    have e2 : (2 : Int) ^ s = ((2 ^ s : Nat) : Int) := by rw [Int.natCast_pow]; rfl
    rw [e2]
    have hp : (1 : Int) ≤ ((2 ^ s : Nat) : Int) ∧ ((2 ^ s : Nat) : Int) ≤ 4294967296 := by
      have h1 : 0 < 2 ^ s := Nat.pow_pos (by decide)
      have h2 : 2 ^ s ≤ 2 ^ 32 := Nat.pow_le_pow_right (by decide) hs
      omega
    have h3 := Int.mul_le_mul_of_nonneg_left hp.2 h0.1
    have h4 := Int.mul_nonneg h0.1 (show (0 : Int) ≤ ((2 ^ s : Nat) : Int) by omega)
    exact IntWalk.u64_in _ (by omega)
  rw [e1] at h; exact h
theorem Qy.shrV {s : Nat} (hx : e.ev x = some (.int .u64 m)) (hy : e.ev y = some (.int k (s : Int))) (h0 : 0 ≤ m) (hs : s ≤ 32) : Qy P (.binOp .shr t x y t') ty e H G (.int .u64 (m / ((2 ^ s : Nat) : Int))) := by
  have h := Qy.shr (P := P) (H := H) (G := G) (ty := ty) (t := t) (t' := t') hx hy (by omega)
  have e1 : m.fdiv (2 ^ (Min.min (s : Int).toNat IntKind.u64.bits)) = m / ((2 ^ s : Nat) : Int) := by
    rw [Int.toNat_natCast, Nat.min_eq_left (Nat.le_trans hs (by decide))]
    have e2 : (2 : Int) ^ s = ((2 ^ s : Nat) : Int) := by rw [Int.natCast_pow]; rfl
    rw [e2]
    exact Int.fdiv_eq_ediv_of_nonneg _ (Int.natCast_nonneg _)
  rw [e1] at h; exact h
end
end Go.Sl
set_option linter.unusedVariables false
namespace Go.Sl
open Go
theorem bcarry (P s : Int) : P * (s % 4294967296) + 4294967296 * P * (s / 4294967296) = P * s := by
  have h := Int.emod_add_mul_ediv s 4294967296
  have e : 4294967296 * P * (s / 4294967296) = P * (4294967296 * (s / 4294967296)) := by rw [Int.mul_comm 4294967296 P, Int.mul_assoc]
  rw [e, ← Int.mul_add, h]
/-- a limb, nought behind the end -/
def lg (l : List U32) (i : Nat) : Int := (l[((i : Nat) : Int).toNat]?.getD default).v
theorem lg_lt {l : List U32} (h : Lims l) {i : Nat} (hi : i < l.length) : 0 ≤ lg l i ∧ lg l i < 4294967296 := h.at (by omega)
theorem lg_end {l : List U32} {i : Nat} (hi : l.length ≤ i) : lg l i = 0 := by
  unfold lg; rw [Int.toNat_natCast, List.getElem?_eq_none hi]; rfl
theorem lg_rng {l : List U32} (h : Lims l) (i : Nat) : 0 ≤ lg l i ∧ lg l i < 4294967296 := by
  rcases Nat.lt_or_ge i l.length with h1 | h1
  · exact lg_lt h h1
  · rw [lg_end h1]; decide
theorem lg_set {l : List U32} {i : Nat} (h : i < l.length) (d : Int) : lg (l.set i ⟨d⟩) i = d := by
  unfold lg
  rw [Int.toNat_natCast, List.getElem?_eq_getElem (by rw [List.length_set]; exact h), List.getElem_set_self]; rfl
theorem lg_set_ne {l : List U32} {i j : Nat} (h : i ≠ j) (d : U32) : lg (l.set i d) j = lg l j := by
  unfold lg
  rw [Int.toNat_natCast, List.getElem?_set_ne h]
theorem bval_step (l : List U32) (i : Nat) : valB (l.take (i + 1)) = valB (l.take i) + pb i * lg l i := by
  rcases Nat.lt_or_ge i l.length with h | h
  · exact valB_take_succ h
  · rw [take_all h, take_all (by omega), lg_end h, Int.mul_zero, Int.add_zero]
theorem bdrop_step {l : List U32} {i : Nat} (h : i < l.length) : valB (l.drop i) = lg l i + 4294967296 * valB (l.drop (i + 1)) := by
  rw [List.drop_eq_getElem_cons h, valB_cons]
  unfold lg
  rw [Int.toNat_natCast, List.getElem?_eq_getElem h]; rfl
theorem bval_split (l : List U32) {m : Nat} (h : m ≤ l.length) : valB l = valB (l.take m) + pb m * valB (l.drop m) := by
  have h1 : valB l = valB (l.take m ++ l.drop m) := by rw [List.take_append_drop]
  rw [h1, valB_append, List.length_take, Nat.min_eq_left h]
theorem valB_set : ∀ (l : List U32) (k : Nat) (d : U32), k < l.length → valB (l.set k d) = valB l + pb k * (d.v - lg l k)
  | [], k, d, h => by simp at h
  | x :: l, 0, d, _ => by
    rw [List.set_cons_zero, valB_cons, valB_cons, pb_zero]
    show _ = _ + 1 * (d.v - x.v)
    omega
  | x :: l, k + 1, d, h => by
    have ih := valB_set l k d (by simpa using h)
    have e : lg (x :: l) (k + 1) = lg l k := by unfold lg; rw [Int.toNat_natCast, Int.toNat_natCast, List.getElem?_cons_succ]
    rw [List.set_cons_succ, valB_cons, valB_cons, ih, pb_succ, e, Int.mul_add, ← Int.mul_assoc]
    omega
theorem lims_set {l : List U32} (h : Lims l) (k : Nat) {s : Int} (hs : 0 ≤ s ∧ s < 4294967296) : Lims (l.set k ⟨s⟩) := fun d hd => by
  rcases List.mem_or_eq_of_mem_set hd with h1 | h1
  · exact h d h1
  · subst h1; exact hs
theorem mod32 (s : Int) : 0 ≤ s % 4294967296 ∧ s % 4294967296 < 4294967296 := ⟨Int.emod_nonneg _ (by decide), Int.emod_lt_of_pos _ (by decide)⟩
/-- so many limbs are left, if the noughts at the top are struck -/
def Trim (l : List U32) (n : Nat) : Prop := n ≤ l.length ∧ (∀ j, n ≤ j → j < l.length → (l[j]?.getD default).v = 0) ∧ (n = 0 ∨ (l[n - 1]?.getD default).v ≠ 0)
theorem Trim.val {l : List U32} {n : Nat} (h : Trim l n) : valB (l.take n) = valB l := valB_trim h.2.1
theorem Trim.top {l : List U32} {n : Nat} (h : Trim l n) : Top (l.take n) := by
  obtain ⟨h1, h2, h3⟩ := h
  rcases h3 with h3 | h3
  · subst h3; exact .inl rfl
  · by_cases h0 : n = 0
    · subst h0; exact .inl rfl
    · refine .inr ?_
      rw [List.length_take, Nat.min_eq_left h1, List.getElem?_take, if_pos (by omega)]
      exact h3
theorem Trim.len {l : List U32} {n : Nat} (h : Trim l n) : (l.take n).length = n := by rw [List.length_take, Nat.min_eq_left h.1]
theorem Trim.pos {l : List U32} {n : Nat} (h : Trim l n) (hd : Lims l) : 0 < n ↔ 0 < valB l := by
  rw [← h.val]
  constructor
  · intro h0
    exact ltop_pos (hd.take n) h.top (fun e => by have := h.len; rw [e] at this; simp at this; omega)
  · intro h0
    rcases Nat.eq_zero_or_pos n with h1 | h1
    · rw [h1, List.take_zero, valB_nil] at h0; omega
    · exact h1
theorem barr_sub {α : Type} [Cells α] {G : Imm} {a : Option Addr} {c sz : Nat} {l : List α} (h : Arr G a l) (n : Nat) : Arr G (subA a c 0 sz) (l.take n) := by
  refine ⟨flat_length _, ?_⟩
  rcases h.2 with h0 | ⟨b, o, rfl, hr⟩
  · left; rw [List.length_take]; omega
  · refine .inr ⟨b, o, ?_, fun i v hi => hr i v ?_⟩
    · unfold subA
      split
      · rfl
      · simp [Addr.add]
    · have e : flat l = flat (l.take n) ++ flat (l.drop n) := by rw [← flat_append, List.take_append_drop]
      rw [e, List.getElem?_append_left (List.getElem?_eq_some_iff.1 hi).1]; exact hi
/-- the sum's next limb -/
theorem add_next {la lb r : List U32} {i : Nat} {cy s : Int} (hi : i < r.length) (hv : valB (la.take i) + valB (lb.take i) = valB (r.take i) + pb i * cy) (hs : s = cy + lg la i + lg lb i) :
    valB (la.take (i + 1)) + valB (lb.take (i + 1)) = valB ((r.set i ⟨s % 4294967296⟩).take (i + 1)) + pb (i + 1) * (s / 4294967296) := by
  rw [bval_step, bval_step, bval_step (r.set i _), lg_set hi, List.take_set_of_le (Nat.le_refl i), pb_succ]
  have h := bcarry (pb i) s
  rw [hs, Int.mul_add, Int.mul_add] at h
  rw [← hs] at h
  omega
/-- the difference's next limb -/
theorem sub_next {la lb r : List U32} {i : Nat} {cy cy' s : Int} (hi : i < r.length) (hv : valB (la.take i) - valB (lb.take i) = valB (r.take i) - pb i * cy) (hs : s = lg la i - lg lb i - cy + 4294967296 * cy') :
    valB (la.take (i + 1)) - valB (lb.take (i + 1)) = valB ((r.set i ⟨s⟩).take (i + 1)) - pb (i + 1) * cy' := by
  rw [bval_step, bval_step, bval_step (r.set i _), lg_set hi, List.take_set_of_le (Nat.le_refl i), pb_succ]
  have h : pb i * s = pb i * lg la i - pb i * lg lb i - pb i * cy + 4294967296 * pb i * cy' := by
    rw [hs, Int.mul_add, Int.mul_sub, Int.mul_sub, ← Int.mul_assoc, Int.mul_comm (pb i) 4294967296]
  omega
theorem sub_end {la lb r : List U32} {n : Nat} {cy : Int} (hn : n = la.length) (hb : lb.length ≤ la.length) (hle : valB lb ≤ valB la) (hri : r.length = n) (hd : Lims r) (hc : 0 ≤ cy ∧ cy ≤ 1) (hv : valB (la.take n) - valB (lb.take n) = valB (r.take n) - pb n * cy) : valB r = valB la - valB lb := by
  rw [take_all (by omega), take_all (by omega), take_all (by omega)] at hv
  have h := valB_lt hd
  rw [hri] at h
  have hcy : cy = 0 := by
    rcases (show cy = 0 ∨ cy = 1 by omega) with h1 | h1
    · exact h1
    · rw [h1, Int.mul_one] at hv; omega
  rw [hcy, Int.mul_zero] at hv
  omega
/-- the product's next limb -/
theorem bmul_next {r lb : List U32} {i j : Nat} {c s x A : Int} (hk : i + j < r.length) (hv : valB r + pb (i + j) * c = A + pb i * (x * valB (lb.take j))) (hs : s = c + (x * lg lb j + lg r (i + j))) :
    valB (r.set (i + j) ⟨s % 4294967296⟩) + pb (i + (j + 1)) * (s / 4294967296) = A + pb i * (x * valB (lb.take (j + 1))) := by
  rw [valB_set r (i + j) ⟨s % 4294967296⟩ hk, bval_step, ← Nat.add_assoc, pb_succ]
  have h1 := bcarry (pb (i + j)) s
  have h2 : pb (i + j) * s = pb (i + j) * c + (pb (i + j) * (x * lg lb j) + pb (i + j) * lg r (i + j)) := by rw [hs, Int.mul_add, Int.mul_add]
  have h3 : pb i * (x * (valB (lb.take j) + pb j * lg lb j)) = pb i * (x * valB (lb.take j)) + pb (i + j) * (x * lg lb j) := by
    rw [Int.mul_add, Int.mul_add, pb_add]
    congr 1
    rw [Int.mul_assoc, ← Int.mul_assoc x, Int.mul_comm x (pb j), Int.mul_assoc]
  have h4 : pb (i + j) * (s % 4294967296 - lg r (i + j)) = pb (i + j) * (s % 4294967296) - pb (i + j) * lg r (i + j) := Int.mul_sub _ _ _
  show valB r + pb (i + j) * (s % 4294967296 - lg r (i + j)) + 4294967296 * pb (i + j) * (s / 4294967296) = _
  rw [h3, h4]
  omega
/-- the last carry is laid where nought stands -/
theorem bmul_end {la lb r : List U32} {i : Nat} {c : Int} (hk : i + lb.length < r.length) (hz : lg r (i + lb.length) = 0) (hv : valB r + pb (i + lb.length) * c = valB (la.take i) * valB lb + pb i * (lg la i * valB (lb.take lb.length))) :
    valB (r.set (i + lb.length) ⟨c⟩) = valB (la.take (i + 1)) * valB lb := by
  rw [valB_set r _ _ hk, hz, take_all (Nat.le_refl _)] at *
  show valB r + pb (i + lb.length) * (c - 0) = _
  rw [Int.sub_zero, hv, bval_step, Int.add_mul, Int.mul_assoc]
theorem bmul_small {x y : Int} (hx : 0 ≤ x ∧ x < 4294967296) (hy : 0 ≤ y ∧ y < 4294967296) : 0 ≤ x * y ∧ x * y ≤ 18446744065119617025 := by
  refine ⟨Int.mul_nonneg hx.1 hy.1, ?_⟩
  have h1 : x * y ≤ 4294967295 * y := Int.mul_le_mul_of_nonneg_right (by omega) hy.1
  omega
/-- division by one limb -/
theorem bshort_next {la q : List U32} {i : Nat} {r B : Int} (hi : i < la.length) (hq : i < q.length) (hv : valB (la.drop (i + 1)) = valB (q.drop (i + 1)) * B + r) :
    valB (la.drop i) = valB ((q.set i ⟨(r * 4294967296 + lg la i) / B⟩).drop i) * B + (r * 4294967296 + lg la i) % B := by
  rw [bdrop_step hi, bdrop_step (l := q.set i _) (by rw [List.length_set]; exact hq), lg_set hq, List.drop_set_of_lt (by omega), hv]
  have h := Int.emod_add_mul_ediv (r * 4294967296 + lg la i) B
  rw [Int.add_mul, Int.mul_comm ((r * 4294967296 + lg la i) / B) B, Int.mul_assoc 4294967296, Int.mul_add]
  omega
theorem bshort_lt {r a B : Int} (hr : 0 ≤ r ∧ r < B) (ha : 0 ≤ a ∧ a < 4294967296) : 0 ≤ (r * 4294967296 + a) / B ∧ (r * 4294967296 + a) / B < 4294967296 := by
  refine ⟨Int.ediv_nonneg (by omega) (by omega), Int.ediv_lt_of_lt_mul (by omega) ?_⟩
  have h1 := Int.mul_le_mul_of_nonneg_right (show r + 1 ≤ B by omega) (show (0 : Int) ≤ 4294967296 by decide)
  rw [Int.mul_comm 4294967296 B]
  omega
theorem bone_val {lb : List U32} (h : lb.length = 1) : valB lb = lg lb 0 := by
  match lb, h with
  | [d], _ => rw [valB_one]; rfl
theorem u32_same {x y : U32} (h : x.v = y.v) : x = y := by cases x; cases y; simp only at h; rw [h]
theorem bdrop_same {la lb : List U32} {k : Nat} (hn : la.length = lb.length) (h : ∀ j, k ≤ j → j < la.length → lg la j = lg lb j) : la.drop k = lb.drop k := by
  refine List.ext_getElem? fun i => ?_
  rw [List.getElem?_drop, List.getElem?_drop]
  rcases Nat.lt_or_ge (k + i) la.length with h1 | h1
  · have h2 := h (k + i) (by omega) h1
    unfold lg at h2
    rw [Int.toNat_natCast] at h2
    rw [List.getElem?_eq_getElem h1, List.getElem?_eq_getElem (by omega)] at h2 ⊢
    exact congrArg some (u32_same h2)
  · rw [List.getElem?_eq_none h1, List.getElem?_eq_none (by omega)]
theorem bhigh_lt {la lb : List U32} {k : Nat} (hn : la.length = lb.length) (hk : k < la.length) (da : Lims la) (db : Lims lb) (h : ∀ j, k + 1 ≤ j → j < la.length → lg la j = lg lb j) (hlt : lg la k < lg lb k) : valB la < valB lb := by
  have e := bdrop_same hn h
  have h1 := bval_split la (show k + 1 ≤ la.length by omega)
  have h2 := bval_split lb (show k + 1 ≤ lb.length by omega)
  rw [e] at h1
  rw [bval_step] at h1 h2
  have h3 := valB_lt (da.take k)
  rw [List.length_take, Nat.min_eq_left (by omega)] at h3
  have h4 := valB_nonneg (db.take k)
  have h5 := Int.mul_le_mul_of_nonneg_left (show lg la k + 1 ≤ lg lb k by omega) (Int.le_of_lt (pb_pos k))
  rw [Int.mul_add, Int.mul_one] at h5
  omega
end Go.Sl
set_option linter.unusedVariables false
namespace Go.Sl
open Go
theorem kn_low {p Ul U3 Vl V2 g : Int} (hp : 0 < p) (hUl : Ul < p) (hVl : 0 ≤ Vl) (hg : 0 ≤ g) (h : U3 < g * V2) : Ul + p * U3 < g * (Vl + p * V2) := by
  have h1 := Int.mul_le_mul_of_nonneg_left (show U3 + 1 ≤ g * V2 by omega) (Int.le_of_lt hp)
  have h2 := Int.mul_nonneg hg hVl
  rw [Int.mul_add, Int.mul_one] at h1
  rw [Int.mul_add, Int.mul_left_comm g p]
  omega
theorem kn_high {p Ul U3 Vl V2 g : Int} (hp : 0 < p) (hUl : 0 ≤ Ul) (hVl : 0 ≤ Vl ∧ Vl < p) (hg : 0 ≤ g ∧ g < 4294967296) (hV2 : 4294967296 ≤ V2) (h : g * V2 ≤ U3) : (g - 1) * (Vl + p * V2) ≤ Ul + p * U3 := by
  have h1 := Int.mul_le_mul_of_nonneg_left h (Int.le_of_lt hp)
  have h2 := Int.mul_le_mul_of_nonneg_left (Int.le_of_lt hVl.2) hg.1
  have h3 := Int.mul_le_mul_of_nonneg_right (Int.le_of_lt hg.2) (Int.le_of_lt hp)
  have h4 := Int.mul_le_mul_of_nonneg_left hV2 (Int.le_of_lt hp)
  rw [Int.sub_mul, Int.one_mul, Int.mul_add, Int.mul_left_comm g p]
  rw [Int.mul_comm p 4294967296] at h4
  omega
theorem kn_cmp {g v1 v2 high rest u2 : Int} (h : g * v1 + rest = high) : g * (v2 + 4294967296 * v1) - (u2 + 4294967296 * high) = g * v2 - (rest * 4294967296 + u2) := by
  rw [Int.mul_add, Int.mul_left_comm g 4294967296, ← h]
  omega
/-- the guess ends below 2^32 where what is left outgrows a limb -/
theorem kn_break {g v1 high rest : Int} (h : g * v1 + rest = high) (hr : 4294967296 ≤ rest) (hv : 0 < v1) (hh : high < v1 * 4294967296 + 4294967296) : g < 4294967296 := by
  rcases Int.lt_or_le g 4294967296 with h1 | h1
  · exact h1
  · have h2 := Int.mul_le_mul_of_nonneg_right h1 (Int.le_of_lt hv)
    omega
section
variable {u v : List U32} {m : Nat}
theorem top3 (hu : u.length = m + 3) : valB u = valB (u.take m) + pb m * (lg u m + 4294967296 * (lg u (m + 2) * 4294967296 + lg u (m + 1))) := by
  have h0 := bval_split u (show m ≤ u.length by omega)
  rw [bdrop_step (l := u) (i := m) (by omega), bdrop_step (l := u) (i := m + 1) (by omega), bdrop_step (l := u) (i := m + 1 + 1) (by omega), List.drop_eq_nil_of_le (show u.length ≤ m + 1 + 1 + 1 by omega), valB_nil] at h0
  rw [h0]
  congr 2
  show lg u m + 4294967296 * (lg u (m + 1) + 4294967296 * (lg u (m + 2) + 4294967296 * 0)) = _
  omega
theorem top2 (hv : v.length = m + 2) : valB v = valB (v.take m) + pb m * (lg v m + 4294967296 * lg v (m + 1)) := by
  have h0 := bval_split v (show m ≤ v.length by omega)
  rw [bdrop_step (l := v) (i := m) (by omega), bdrop_step (l := v) (i := m + 1) (by omega), List.drop_eq_nil_of_le (show v.length ≤ m + 1 + 1 by omega), valB_nil] at h0
  rw [h0]
  congr 2
  omega
theorem take_rng {l : List U32} (d : Lims l) (h : m ≤ l.length) : 0 ≤ valB (l.take m) ∧ valB (l.take m) < pb m := by
  have h1 := valB_lt (d.take m)
  rw [List.length_take, Nat.min_eq_left h] at h1
  exact ⟨valB_nonneg (d.take m), h1⟩
variable (hu : u.length = m + 3) (hv : v.length = m + 2) (du : Lims u) (dv : Lims v)
include hu hv du dv
/-- the first guess is not too small -/
theorem kn_first {g rest high : Int} (hh : high = lg u (m + 2) * 4294967296 + lg u (m + 1)) (h1 : 0 < lg v (m + 1)) (hg : g = high / lg v (m + 1)) (hr : rest = high % lg v (m + 1)) :
    g * lg v (m + 1) + rest = high ∧ 0 ≤ g ∧ 0 ≤ rest ∧ rest < lg v (m + 1) ∧ valB u < (g + 1) * valB v := by
  have a1 := lg_rng du (m + 2)
  have a2 := lg_rng du (m + 1)
  have a3 := lg_rng du m
  have a4 := lg_rng dv m
  have hn : 0 ≤ high := by omega
  have e1 := Int.emod_add_mul_ediv high (lg v (m + 1))
  have e2 := Int.emod_lt_of_pos high h1
  have e3 := Int.emod_nonneg high (show lg v (m + 1) ≠ 0 by omega)
  have e4 := Int.ediv_nonneg hn (Int.le_of_lt h1)
  rw [← hg, ← hr] at e1
  rw [← hr] at e2 e3
  rw [← hg] at e4
  rw [Int.mul_comm] at e1
  refine ⟨by omega, e4, e3, e2, ?_⟩
  rw [top3 hu, top2 hv, ← hh]
  refine kn_low (pb_pos m) (take_rng du (by omega)).2 (take_rng dv (by omega)).1 (by omega) ?_
  have e5 : (g + 1) * lg v (m + 1) = g * lg v (m + 1) + lg v (m + 1) := by rw [Int.add_mul, Int.one_mul]
  have e6 := Int.mul_nonneg (show 0 ≤ g + 1 by omega) a4.1
  rw [Int.mul_add, Int.mul_left_comm (g + 1) 4294967296, e5]
  omega
/-- a guess that is too great by what is seen -/
theorem kn_dec {g rest high : Int} (hh : high = lg u (m + 2) * 4294967296 + lg u (m + 1)) (h : g * lg v (m + 1) + rest = high) (hg : 0 ≤ g) (hc : rest * 4294967296 + lg u m < g * lg v m) : valB u < g * valB v := by
  have e := kn_cmp (v2 := lg v m) (u2 := lg u m) h
  rw [top3 hu, top2 hv, ← hh]
  exact kn_low (pb_pos m) (take_rng du (by omega)).2 (take_rng dv (by omega)).1 hg (by omega)
/-- a guess that is at most one too great -/
theorem kn_end {g rest high : Int} (hh : high = lg u (m + 2) * 4294967296 + lg u (m + 1)) (h : g * lg v (m + 1) + rest = high) (hg : 0 ≤ g ∧ g < 4294967296) (h1 : 1 ≤ lg v (m + 1)) (hc : g * lg v m ≤ rest * 4294967296 + lg u m) : (g - 1) * valB v ≤ valB u := by
  have e := kn_cmp (v2 := lg v m) (u2 := lg u m) h
  have a4 := lg_rng dv m
  rw [top3 hu, top2 hv, ← hh]
  exact kn_high (pb_pos m) (take_rng du (by omega)).1 (take_rng dv (by omega)) hg (by omega) (by omega)
end
/-- what is taken away, limb by limb -/
theorem less_next {u v w : List U32} {i : Nat} {t c c' b b' s : Int} (hi : i < w.length) (hv : valB (u.take i) - t * valB (v.take i) = valB (w.take i) - pb i * (b + c)) (hc : c' = c + lg v i * t)
    (hs : s = lg u i - c' % 4294967296 - b + 4294967296 * b') :
    valB (u.take (i + 1)) - t * valB (v.take (i + 1)) = valB ((w.set i ⟨s⟩).take (i + 1)) - pb (i + 1) * (b' + c' / 4294967296) := by
  rw [bval_step, bval_step, bval_step (w.set i _), lg_set hi, List.take_set_of_le (Nat.le_refl i), pb_succ]
  have h1 := bcarry (pb i) c'
  have h2 : pb i * c' = pb i * c + t * (pb i * lg v i) := by rw [hc, Int.mul_add, Int.mul_comm (lg v i) t, Int.mul_left_comm t]
  have h3 : pb i * s = pb i * lg u i - pb i * (c' % 4294967296) - pb i * b + 4294967296 * pb i * b' := by
    rw [hs, Int.mul_add, Int.mul_sub, Int.mul_sub, ← Int.mul_assoc, Int.mul_comm (pb i) 4294967296]
  rw [Int.mul_add] at hv
  rw [Int.mul_add t, Int.mul_add (4294967296 * pb i)]
  omega
theorem less_carry {c x t : Int} (hc : 0 ≤ c ∧ c < 4294967296) (hx : 0 ≤ x ∧ x < 4294967296) (ht : 0 ≤ t ∧ t < 4294967296) : 0 ≤ c + x * t ∧ c + x * t < 18446744073709551616 ∧ 0 ≤ (c + x * t) / 4294967296 ∧ (c + x * t) / 4294967296 < 4294967296 ∧ 0 ≤ x * t ∧ x * t ≤ 18446744065119617025 := by
  have h := bmul_small hx ht
  omega
/-- once is added back -/
theorem back_end {u v w z : List U32} {n : Nat} {g c : Int} (hu : valB w = valB u - g * valB v + pb n) (hlow : (g - 1) * valB v ≤ valB u) (hup : valB u < g * valB v) (hw : w.length = n) (hz : z.length = n) (hvn : valB v < pb n) (hvl : v.length ≤ n) (dz : Lims z) (hc : 0 ≤ c ∧ c ≤ 1)
    (hs : valB (w.take n) + valB (v.take n) = valB (z.take n) + pb n * c) : valB z = valB u - (g - 1) * valB v := by
  rw [take_all (by omega), take_all (by omega), take_all (by omega)] at hs
  have h1 := valB_nonneg dz
  have h2 := valB_lt dz
  rw [hz] at h2
  have e : (g - 1) * valB v = g * valB v - valB v := by rw [Int.sub_mul, Int.one_mul]
  have hc1 : c = 1 := by
    rcases (show c = 0 ∨ c = 1 by omega) with h | h
    · rw [h, Int.mul_zero] at hs; omega
    · exact h
  rw [hc1, Int.mul_one] at hs
  omega
/-- a window of a row is turned -/
theorem win_val (p w w' q : List U32) (h : w'.length = w.length) : valB (p ++ (w' ++ q)) = valB (p ++ (w ++ q)) + pb p.length * (valB w' - valB w) := by
  rw [valB_append, valB_append, valB_append, valB_append, h, Int.mul_add, Int.mul_add, Int.mul_sub]
  omega
/-- one limb of the quotient -/
theorem quo_next {A V q g : Int} {R R' : Int} {l : List U32} {k : Nat} (hk : k < l.length) (hz : lg l k = 0) (hA : A = valB l * V + R) (hR : R' = R + pb k * (-(g * V))) : A = valB (l.set k ⟨g⟩) * V + R' := by
  rw [valB_set l k _ hk, hz, hA, hR, Int.sub_zero, Int.add_mul, Int.mul_assoc, Int.mul_neg]
  show _ = valB l * V + pb k * (g * V) + (R + -(pb k * (g * V)))
  omega
end Go.Sl
set_option linter.unusedVariables false
namespace Go.Sl
open Go
section
variable {P : Program} {ops : Array Oper} {rest : List Oper} {B : Bs} {e : Env} {D : List Deferred} {H : Hp} {G : Imm} {K : Act → World → Prop}
  {ty : TypeId} {pos : String} {after : Array Edge} {d : Nat}
theorem win_get {p w q : List U32} {m : Int} (hm : 0 ≤ m ∧ m < w.length) : (p ++ (w ++ q))[((p.length : Int) + m).toNat]?.getD default = w[m.toNat]?.getD default := by
  have h1 : ((p.length : Int) + m).toNat = p.length + m.toNat := by omega
  rw [h1, List.getElem?_append_right (by omega), Nat.add_sub_cancel_left, List.getElem?_append_left (by omega)]
theorem win_set {p w q : List U32} {m : Int} (hm : 0 ≤ m ∧ m < w.length) (z : U32) : (p ++ (w ++ q)).set ((p.length : Int) + m).toNat z = p ++ (w.set m.toNat z ++ q) := by
  have h1 : ((p.length : Int) + m).toNat = p.length + m.toNat := by omega
  rw [h1, List.set_append_right _ _ (by omega), Nat.add_sub_cancel_left, List.set_append_left _ _ (by omega)]
theorem win_off {k : Nat} {m : Int} (hm : 0 ≤ m) : k + m.toNat * 1 = 0 + ((k : Int) + m).toNat * Cells.sz U32 + 0 := by
  show k + m.toNat * 1 = 0 + ((k : Int) + m).toNat * 1 + 0
  omega
theorem Qy.loadW {T : TypeId} {x : Operand} {b : Nat} {E : TypeId} {p w q : List U32} {junk : List Value} {m : Int} (t : Nat) (h1 : oneB P T = true) (hx : e.ev x = some (.pointer (some ⟨b, p.length + m.toNat * 1, none⟩)))
    (ht : H.get t = some (some b, Row E (p ++ (w ++ q)) junk)) (hm : 0 ≤ m ∧ m < w.length) : Qy P (.load T x) ty e H G (.int .u32 (w[m.toNat]?.getD default).v) := by
  rw [win_off hm.1] at hx
  refine Qy.loadF (m := (p.length : Int) + m) t 0 h1 hx ht ⟨by omega, by rw [List.length_append, List.length_append]; omega⟩ rfl ?_
  rw [win_get hm]; rfl
theorem Wl.setW {T : TypeId} {x y : Operand} {b : Nat} {E : TypeId} {p w q : List U32} {junk : List Value} {m n : Int} (t : Nat) (hs : (P.info? T).map (·.size) = some 1)
    (hx : e.ev x = some (.pointer (some ⟨b, p.length + m.toNat * 1, none⟩))) (hy : e.ev y = some (.int .u32 n)) (ht : H.get t = some (some b, Row E (p ++ (w ++ q)) junk)) (hm : 0 ≤ m ∧ m < w.length)
    (h : Wl P ops rest B ⟨e, D, (t, some b, Row E (p ++ (w.set m.toNat ⟨n⟩ ++ q)) junk) :: H, G⟩ K) : Wl P ops (⟨none, .store T x y, ty, pos, after, none⟩ :: rest) B ⟨e, D, H, G⟩ K := by
  rw [win_off hm.1] at hx
  refine Wl.setF (m := (p.length : Int) + m) (z := (⟨n⟩ : U32)) t hs hx hy rfl ht ⟨by omega, by rw [List.length_append, List.length_append]; omega⟩ ?_
  rw [win_set hm]; exact h
theorem Qy.cutHM {T : TypeId} {x hi mx : Operand} {a : Option Addr} {n c E sz : Nat} {k k' : IntKind} {m m' : Int} (hT : isSlice P T E sz) (hx : e.ev x = some (.slice a n c)) (hh : e.ev hi = some (.int k m)) (hh' : e.ev mx = some (.int k' m')) (h0 : 0 ≤ m) (h1 : m ≤ m') (h2 : m' ≤ c) :
    Qy P (.slice T x none (some hi) (some mx)) ty e H G (.slice (subA a m'.toNat 0 sz) m.toNat m'.toNat) := fun ac w _ _ _ _ hk => by
  have hr := run_sizeOf (P := P) w hT.2
  have hu : P.underlying T = some (.slice (P.elem T)) := by simp [Program.elem, hT.1]
  have he : P.elem T = E := by simp [Program.elem, hT.1]
  have := run_slice_hm (P := P) (w := w) T a n c hu k k' m m' h0 h1 h2
  simp only [execOp, hk.eval hx, Option.map_some, Option.map_none, hk.eval hh, hk.eval hh', Sem.run_bind, run_sliceAt_slice (P := P) (w := w) T _ _ _ _ hu, this, he, hr, Result.andThen_ok, Sem.run_pure, sliced, subA, Nat.sub_zero]
end
end Go.Sl
set_option linter.unusedVariables false
namespace Go.Sl
open Go
section
variable {P : Program} {ops : Array Oper} {rest : List Oper} {B : Bs} {e : Env} {D : List Deferred} {H : Hp} {G : Imm} {K : Act → World → Prop}
  {ty : TypeId} {pos : String} {after : Array Edge} {d : Nat} {α : Type} [Cells α]
theorem run_copyRow {w : World} (hw : HoldH H G w) {T T2 E : Nat} (hT : isSlice P T E (Cells.sz α)) {t b : Nat} {ad : Option Addr} {c c2 : Nat} {xs ys : List α} {junk : List Value}
    (ht : H.get t = some (some b, Row E xs junk)) (hsrc : Src H G ad ys) (hle : ys.length ≤ xs.length) :
    ∃ w', (Builtin.copy_ #[T, T2] ty #[.slice (some ⟨b, 0, none⟩) xs.length c, .slice ad ys.length c2]).run P w = .ok (.int .i64 (ys.length : Int)) w' ∧ Upd (· = b) w w' ∧ w'.heap[b]? = some (Row E (ys ++ xs.drop ys.length) junk) := by
  have hb := hw.own t b _ ht
  have hmin : Nat.min ys.length xs.length = ys.length := Nat.min_eq_left hle
  cases hq : P.info? E with
  | none => have := hT.2; simp [hq] at this
  | some i =>
    have hi : i.size = Cells.sz α := by have := hT.2; simpa [hq] using this
    rcases hsrc w hw with ⟨rfl, rfl⟩ | ⟨src, rfl, hsr⟩
    · refine ⟨w, ?_, Upd.refl _ _, by simpa using hb⟩
      have hm0 : Nat.min (0 : Nat) xs.length = 0 := Nat.zero_min _
      simp [Builtin.copy_, run_underlying hT.1, Builtin.lenOf, Builtin.firstCells, sizeOf, typeInfo, hq, storeCells, hm0, goInt]
    · have hl := run_loadCells_list (P := P) w src (flat ys) hsr
      have hfy : (flat ys).length = ys.length * Cells.sz α := flat_length ys
      have hfx : (flat xs).length = xs.length * Cells.sz α := flat_length xs
      have hmul := Nat.mul_le_mul_right (Cells.sz α) hle
      have hfit : 0 + 0 + (flat ys).length ≤ ((flat xs ++ junk).toArray).size := by
        rw [List.size_toArray, List.length_append]; omega
      have hst := run_storeCells_at P b 0 E (flat ys) 0 (flat xs ++ junk).toArray w hb hfit (fun v hv => List.all_eq_true.1 (flat_all ys) v hv)
      refine ⟨_, ?_, setRow_upd w b (((flat xs ++ junk).toArray.toList.take (0 + 0) ++ flat ys ++ (flat xs ++ junk).toArray.toList.drop (0 + 0 + (flat ys).length)).toArray), ?_⟩
      · rw [hfy] at hl
        simp [Builtin.copy_, run_underlying hT.1, Builtin.lenOf, Builtin.firstCells, sizeOf, typeInfo, hq, hi, hmin, hl, hst, goInt]
      · rw [setRow_heap w b _ _ E _ hb]
        have hsplit : flat xs = flat (xs.take ys.length) ++ flat (xs.drop ys.length) := by rw [← flat_append, List.take_append_drop]
        have htl : (flat (xs.take ys.length)).length = (flat ys).length := by rw [flat_length, flat_length, List.length_take, Nat.min_eq_left hle]
        unfold Row
        rw [flat_append]
        simp only [Nat.add_zero, Nat.zero_add, List.take_zero, List.nil_append]
        rw [hsplit, List.append_assoc, ← htl, List.drop_left, List.append_assoc]
theorem Wl.copyRow {x y : Operand} {T T2 E b : Nat} {ad : Option Addr} {c c2 : Nat} {xs ys : List α} {junk : List Value} (t : Nat) (hn : Nat.ble (d + 1) B.n = true) (hT : isSlice P T E (Cells.sz α))
    (hx : e.ev x = some (.slice (some ⟨b, 0, none⟩) xs.length c)) (hy : e.ev y = some (.slice ad ys.length c2)) (ht : H.get t = some (some b, Row E xs junk)) (hsrc : Src H G ad ys) (hle : ys.length ≤ xs.length)
    (h : Wl P ops rest B ⟨(d, .int .i64 (ys.length : Int)) :: e, D, (t, some b, Row E (ys ++ xs.drop ys.length) junk) :: H, G⟩ K) :
    Wl P ops (⟨some d, .call { callee := .builtin .copy, args := #[x, y], argTypes := #[T, T2] }, ty, pos, after, none⟩ :: rest) B ⟨e, D, H, G⟩ K := by
  refine Wl.writes (v := .int .i64 (ys.length : Int)) (x := .value (.int .i64 (ys.length : Int))) ht (.inr ⟨rfl, d, rfl, hn⟩) (fun a w hh => ?_) h
  obtain ⟨w', hrun, hu, hb⟩ := run_copyRow (c := c) (c2 := c2) (T2 := T2) (ty := ty) hh.mem hT ht hsrc hle
  refine ⟨w', ?_, hu, hb⟩
  simp only [execOp, resolve, invoke, builtin, Sem.run_bind, Sem.run_pure, Result.andThen_ok, List.map_toArray, List.map_cons, List.map_nil, hh.eval hx, hh.eval hy, hrun]
end
/-- what is less than nought comes round -/
theorem Qy.usubN {P : Program} {e : Env} {H : Hp} {G : Imm} {ty t t' : TypeId} {x y : Operand} {m n : Int} (hx : e.ev x = some (.int .u64 m)) (hy : e.ev y = some (.int .u64 n)) (h0 : m < n ∧ 0 ≤ m ∧ n ≤ 18446744073709551615) : Qy P (.binOp .sub t x y t') ty e H G (.int .u64 (m - n + 18446744073709551616)) := by
  have h := Qy.subW (P := P) (H := H) (G := G) (ty := ty) (t := t) (t' := t') hx hy
  have e1 : IntKind.u64.wrap (m - n) = m - n + 18446744073709551616 := by rw [IntKind.wrap_u64]; omega
  rw [e1] at h; exact h
/-- a function that looks at nothing and answers a value -/
theorem Does.pureCalls {P : Program} {f : FuncId} {args : List Value} {G : Imm} {u : Value} (h : ∀ w, Calls P f args.toArray w fun e w' => e = .returned u ∧ w' = w) : Does P f args G [] (fun v G' Ho => v = u ∧ G' = G ∧ Ho = []) :=
  fun w hw => (h w).mono fun e w' he => by
    obtain ⟨rfl, rfl⟩ := he
    exact ⟨u, G, [], rfl, hw, Imm.le_refl G, Upd.refl _ _, fun b h1 h2 => absurd h2 h1, fun t b o ht => by simp [Hp.get] at ht, rfl, rfl, rfl⟩
end Go.Sl
set_option maxRecDepth 100000
set_option linter.unusedVariables false
namespace Go.Proofs.YtbppmiimeccclaaDoor
open Go Go.Sl
set_option maxHeartbeats 4000000
/-- what a comparison answers -/
def cmpZ (x y : Int) : Int := if x < y then -1 else if y < x then 1 else 0
theorem cmpZ_lt {x y : Int} (h : x < y) : cmpZ x y = -1 := if_pos h
theorem cmpZ_gt {x y : Int} (h : y < x) : cmpZ x y = 1 := by unfold cmpZ; rw [if_neg (by omega), if_pos h]
theorem cmpZ_eq {x y : Int} (h : x = y) : cmpZ x y = 0 := by unfold cmpZ; rw [if_neg (by omega), if_neg (by omega)]
theorem cmpZ_congr {x y u v : Int} (h1 : x < y ↔ u < v) (h2 : y < x ↔ v < u) : cmpZ x y = cmpZ u v := by unfold cmpZ; simp only [h1, h2]
theorem trim_val {l m : List U32} (he : m = l.take m.length) (ht : Trim l m.length) : valB m = valB l := by rw [he]; exact ht.val
theorem trim_top {l m : List U32} (he : m = l.take m.length) (ht : Trim l m.length) : Top m := by rw [he]; exact ht.top
theorem trim_lims {l m : List U32} (he : m = l.take m.length) (hd : Lims l) : Lims m := by rw [he]; exact hd.take _
attribute [local irreducible] valB pb cmpZ
/-- the noughts at the top are struck -/
theorem c96 (G : Imm) (a : Option Addr) (c : Nat) (l : List U32) (hl : Arr G a l) (hb : l.length ≤ 1099511627776) (hc : l.length ≤ c) :
    Does Tryd.prog 96 [.slice a l.length c] G [] (fun v G' Ho => ∃ (b : Option Addr) (m : List U32), v = .slice b m.length m.length ∧ Arr G b m ∧ m = l.take m.length ∧ Trim l m.length ∧ m.length ≤ l.length ∧ G' = G ∧ Ho = []) := by
  refine Does.enter Tryd.func96 rfl Tryd.ntmps96 rfl (fun w => ?_)
  refine Wc.seq ?_
  refine Wc.region rfl ?_
  refine Wl.q rfl (Qy.assign rfl) ?_
  refine Wl.done ?_
  refine Ar.next ?_
  refine Wc.seq ?_
  refine Wc.region rfl ?_
  refine Wl.q rfl (Qy.move rfl) ?_
  refine Wl.q rfl (Qy.len T.sl65 rfl) ?_
  refine Wl.q rfl (Qy.assign rfl) ?_
  refine Wl.done ?_
  refine Ar.next ?_
  refine Wc.seq ?_
  refine Wc.block ?_
  refine Wc.loop (ι := Nat) (fun n => ([(3, .int .i64 (n : Int)), (2, Go.Value.slice Option.none 0 0), (0, Go.Value.slice a (List.length l) c)], [])) (fun n => n ≤ l.length ∧ (∀ j, n ≤ j → j < l.length → (l[j]?.getD default).v = 0)) (fun n => n) (l.length) (⟨Nat.le_refl _, fun j h1 h2 => absurd h2 (by omega)⟩) ⟨rfl, rfl, rfl, trivial⟩ trivial (fun n => fun (hk : n ≤ l.length ∧ (∀ j, n ≤ j → j < l.length → (l[j]?.getD default).v = 0)) => ?_)
  obtain ⟨hn, hz⟩ := hk
  have done : (n = 0 ∨ (l[n - 1]?.getD default).v ≠ 0) → ∃ (b : Option Addr) (m : List U32), Value.slice (subA a n 0 1) n n = .slice b m.length m.length ∧ Arr G b m ∧ m = l.take m.length ∧ Trim l m.length ∧ m.length ≤ l.length ∧ G = G ∧ ([] : Hp) = [] := fun ht => by
    have e : (l.take n).length = n := by rw [List.length_take, Nat.min_eq_left hn]
    refine ⟨subA a n 0 1, l.take n, by rw [e], barr_sub hl n, by rw [e], ?_, by rw [e]; exact hn, rfl, rfl⟩
    rw [e]; exact ⟨hn, hz, ht⟩
  refine Wc.seq ?_
  refine Wc.seq ?_
  refine Wc.region rfl ?_
  refine Wl.q rfl (Qy.move rfl) ?_
  refine Wl.q rfl (Qy.gtr rfl rfl) ?_
  refine Wl.q rfl (Qy.move rfl) ?_
  apply Wl.joinAnd 7 8 15 rfl
  intro hg1
  refine Wl.want rfl rfl ?_
  refine Wl.q rfl (Qy.move rfl) ?_
  refine Wl.want rfl rfl ?_
  refine Wl.q rfl (Qy.move rfl) ?_
  refine Wl.want rfl rfl ?_
  refine Wl.q rfl (Qy.sub rfl rfl (by omega)) ?_
  refine Wl.want rfl rfl ?_
  refine Wl.q rfl (Qy.at (α := U32) T.sl65 rfl rfl (by assumption) (by omega)) ?_
  refine Wl.want rfl rfl ?_
  refine Wl.q rfl (Qy.loadG T.one128 rfl (Arr.cell (by assumption) (by omega) 0 rfl rfl)) ?_
  refine Wl.want rfl rfl ?_
  refine Wl.q rfl (Qy.eql rfl rfl) ?_
  refine Wl.q rfl (Qy.pick rfl rfl) ?_
  exact Wl.back 7 0 rfl rfl rfl rfl rfl
  intro hg1
  refine Wl.pass rfl rfl rfl ?_
  refine Wl.pass rfl rfl rfl ?_
  refine Wl.pass rfl rfl rfl ?_
  refine Wl.pass rfl rfl rfl ?_
  refine Wl.pass rfl rfl rfl ?_
  refine Wl.pass rfl rfl rfl ?_
  refine Wl.q rfl (Qy.pick rfl rfl) ?_
  exact Wl.back 7 0 rfl rfl rfl rfl rfl
  refine Wl.done ?_
  refine Ar.next ?_
  refine Wc.cond rfl (fun hc1 => ?_) (fun hc1 => ?_)
  refine Wc.skip ?_
  refine Ar.next ?_
  refine Wc.block ?_
  refine Wc.region rfl ?_
  refine Wl.q rfl (Qy.move rfl) ?_
  refine Wl.q rfl (Qy.sub rfl rfl (by omega)) ?_
  refine Wl.q rfl (Qy.assign rfl) ?_
  refine Wl.done ?_
  refine Ar.outNormal ?_
  rotate_left
  refine Wc.exit ?_
  refine Ar.passExit ?_
  refine Ar.passExit ?_
  refine Ar.here ?_
  refine Ar.next ?_
  refine Wc.seq ?_
  refine Wc.region rfl ?_
  refine Wl.q rfl (Qy.move rfl) ?_
  refine Wl.q rfl (Qy.move rfl) ?_
  refine Wl.q rfl (Qy.move rfl) ?_
  refine Wl.q rfl (Qy.cutHM T.sl65 rfl rfl rfl (by omega) (by omega) (by omega)) ?_
  refine Wl.q rfl (Qy.assign rfl) ?_
  refine Wl.done ?_
  refine Ar.next ?_
  refine Wc.ret ?_
  refine Ar.out1 (.inr rfl) (Ho := Hp.only _ []) rfl (.tmp rfl) (Hp.sub_only _ _) ?_
  rotate_left
  · refine Ar.re 3 rfl (show _ = Value.int .i64 ((n - 1 : Nat) : Int) by congr 1; omega) ?_
    refine Ar.again (n - 1) ?_ ?_ rfl ⟨rfl, rfl, rfl, trivial⟩ trivial
    · refine ⟨by omega, fun j h1 h2 => ?_⟩
      rcases Nat.lt_or_ge j n with h3 | h3
      · have e : j = (((n : Nat) : Int) - 1).toNat := by omega
        rw [e]; exact hc1.2
      · exact hz j h3 h2
    · omega
  · refine done ?_
    rcases Nat.eq_zero_or_pos n with h | h
    · exact .inl h
    · refine .inr fun h2 => hc1 ⟨by omega, ?_⟩
      have e : (((n : Nat) : Int) - 1).toNat = n - 1 := by omega
      rw [e]; exact h2
theorem c74 (G : Imm) (a b : Option Addr) (ca cb : Nat) (la lb : List U32) (ha : Arr G a la) (hb : Arr G b lb) (da : Lims la) (db : Lims lb) (h1 : la.length ≤ 1073741824) (h2 : lb.length ≤ 1073741824) (h3 : la.length ≤ ca) (h4 : lb.length ≤ cb) :
    Does Tryd.prog 74 [.slice a la.length ca, .slice b lb.length cb] G [] (fun v G' Ho => v = .int .i64 (cmpZ (valB la) (valB lb)) ∧ G' = G ∧ Ho = []) := by
  refine Does.enter Tryd.func74 rfl Tryd.ntmps74 rfl (fun w => ?_)
  refine Wc.seq ?_
  refine Wc.region rfl ?_
  refine Wl.q rfl (Qy.assign rfl) ?_
  refine Wl.done ?_
  refine Ar.next ?_
  refine Wc.seq ?_
  refine Wc.region rfl ?_
  refine Wl.q rfl (Qy.move rfl) ?_
  refine Wl.call 0 rfl T.fn96 rfl (c96 _ _ _ _ (by assumption) (by omega) (by first | assumption | omega)) (tags_of trivial) (fun v1 G1 Ho1 hle1 hp => ?_)
  obtain ⟨ta1, tm1, rfl, hta1, hte1, htr1, htl1, rfl, rfl⟩ := hp
  refine Wl.q rfl (Qy.move rfl) ?_
  refine Wl.call 0 rfl T.fn96 rfl (c96 _ _ _ _ (by assumption) (by omega) (by first | assumption | omega)) (tags_of trivial) (fun v2 G2 Ho2 hle2 hp => ?_)
  obtain ⟨ta2, tm2, rfl, hta2, hte2, htr2, htl2, rfl, rfl⟩ := hp
  refine Wl.q rfl (Qy.assign rfl) ?_
  refine Wl.q rfl (Qy.assign rfl) ?_
  refine Wl.done ?_
  refine Ar.next ?_
  refine Wc.seq ?_
  refine Wc.block ?_
  refine Wc.seq ?_
  refine Wc.region rfl ?_
  refine Wl.q rfl (Qy.move rfl) ?_
  refine Wl.q rfl (Qy.len T.sl65 rfl) ?_
  refine Wl.q rfl (Qy.move rfl) ?_
  refine Wl.q rfl (Qy.len T.sl65 rfl) ?_
  refine Wl.q rfl (Qy.lss rfl rfl) ?_
  refine Wl.q rfl (Qy.assign rfl) ?_
  refine Wl.done ?_
  refine Ar.next ?_
  refine Wc.cond rfl (fun hc1 => ?_) (fun hc1 => ?_)
  refine Wc.seq ?_
  refine Wc.region rfl ?_
  refine Wl.q rfl (Qy.assign rfl) ?_
  refine Wl.done ?_
  refine Ar.next ?_
  refine Wc.ret ?_
  refine Ar.outRet ?_
  refine Ar.passRet ?_
  refine Ar.out1 (.inr rfl) (Ho := Hp.only _ []) rfl (.tmp rfl) (Hp.sub_only _ _) ?_
  rotate_left
  refine Wc.seq ?_
  refine Wc.region rfl ?_
  refine Wl.q rfl (Qy.move rfl) ?_
  refine Wl.q rfl (Qy.len T.sl65 rfl) ?_
  refine Wl.q rfl (Qy.move rfl) ?_
  refine Wl.q rfl (Qy.len T.sl65 rfl) ?_
  refine Wl.q rfl (Qy.gtr rfl rfl) ?_
  refine Wl.q rfl (Qy.assign rfl) ?_
  refine Wl.done ?_
  refine Ar.next ?_
  refine Wc.cond rfl (fun hc2 => ?_) (fun hc2 => ?_)
  refine Wc.seq ?_
  refine Wc.region rfl ?_
  refine Wl.q rfl (Qy.assign rfl) ?_
  refine Wl.done ?_
  refine Ar.next ?_
  refine Wc.ret ?_
  refine Ar.outRet ?_
  refine Ar.passRet ?_
  refine Ar.out1 (.inr rfl) (Ho := Hp.only _ []) rfl (.tmp rfl) (Hp.sub_only _ _) ?_
  rotate_left
  refine Wc.skip ?_
  refine Ar.outNormal ?_
  refine Ar.next ?_
  refine Wc.seq ?_
  refine Wc.seq ?_
  refine Wc.region rfl ?_
  refine Wl.q rfl (Qy.move rfl) ?_
  refine Wl.q rfl (Qy.len T.sl65 rfl) ?_
  refine Wl.q rfl (Qy.sub rfl rfl (by omega)) ?_
  refine Wl.q rfl (Qy.assign rfl) ?_
  refine Wl.done ?_
  refine Ar.next ?_
  refine Wc.block ?_
  rotate_left
  · rw [← trim_val hte1 htr1, ← trim_val hte2 htr2]
    exact ⟨by rw [cmpZ_lt (ltop_lt_len (trim_lims hte1 da) (trim_lims hte2 db) (trim_top hte2 htr2) (by omega))], rfl, rfl⟩
  · rw [← trim_val hte1 htr1, ← trim_val hte2 htr2]
    exact ⟨by rw [cmpZ_gt (ltop_lt_len (trim_lims hte2 db) (trim_lims hte1 da) (trim_top hte1 htr1) (by omega))], rfl, rfl⟩
  rw [← trim_val hte1 htr1, ← trim_val hte2 htr2]
  have dma := trim_lims hte1 da
  have dmb := trim_lims hte2 db
  have l1 := htr1.1
  have l2 := htr2.1
  have hn : tm1.length = tm2.length := by omega
  refine Wc.loop (ι := Nat) (fun k => ([(5, .int .i64 ((k : Int) - 1)), (1, Go.Value.slice ta2 (List.length tm2) (List.length tm2)), (0, Go.Value.slice ta1 (List.length tm1) (List.length tm1))], [])) (fun k => k ≤ tm1.length ∧ ∀ j, k ≤ j → j < tm1.length → lg tm1 j = lg tm2 j) (fun k => k) (tm1.length) (⟨Nat.le_refl _, fun j h1 h2 => absurd h2 (by omega)⟩) ⟨rfl, rfl, rfl, trivial⟩ trivial (fun k => fun (hk : k ≤ tm1.length ∧ ∀ j, k ≤ j → j < tm1.length → lg tm1 j = lg tm2 j) => ?_)
  obtain ⟨hk1, hz⟩ := hk
  rcases Nat.eq_zero_or_pos k with rfl | hpos
  · refine Wc.seq ?_
    refine Wc.seq ?_
    refine Wc.region rfl ?_
    refine Wl.q rfl (Qy.move rfl) ?_
    refine Wl.q rfl (Qy.geq rfl rfl) ?_
    refine Wl.done ?_
    refine Ar.next ?_
    refine Wc.condN rfl (by first | assumption | omega) ?_
    refine Wc.exit ?_
    refine Ar.passExit ?_
    refine Ar.passExit ?_
    refine Ar.here ?_
    refine Ar.next ?_
    refine Wc.seq ?_
    refine Wc.region rfl ?_
    refine Wl.q rfl (Qy.assign rfl) ?_
    refine Wl.done ?_
    refine Ar.next ?_
    refine Wc.ret ?_
    refine Ar.out1 (.inr rfl) (Ho := Hp.only _ []) rfl (.tmp rfl) (Hp.sub_only _ _) ?_
    have e : tm1 = tm2 := by
      have := bdrop_same (k := 0) hn hz
      simpa using this
    exact ⟨by rw [e, cmpZ_eq rfl], rfl, rfl⟩
  · have e1 : (tm1[(((k : Nat) : Int) - 1).toNat]?.getD default).v = lg tm1 (k - 1) := by
      unfold lg; rw [show (((k : Nat) : Int) - 1).toNat = ((k - 1 : Nat) : Int).toNat by omega]
    have e2 : (tm2[(((k : Nat) : Int) - 1).toNat]?.getD default).v = lg tm2 (k - 1) := by
      unfold lg; rw [show (((k : Nat) : Int) - 1).toNat = ((k - 1 : Nat) : Int).toNat by omega]
    have hz' : ∀ j, (k - 1) + 1 ≤ j → j < tm1.length → lg tm1 j = lg tm2 j := fun j h1 h2 => hz j (by omega) h2
    refine Wc.seq ?_
    refine Wc.seq ?_
    refine Wc.region rfl ?_
    refine Wl.q rfl (Qy.move rfl) ?_
    refine Wl.q rfl (Qy.geq rfl rfl) ?_
    refine Wl.done ?_
    refine Ar.next ?_
    refine Wc.condP rfl (by first | assumption | omega) ?_
    refine Wc.skip ?_
    refine Ar.next ?_
    refine Wc.seq ?_
    refine Wc.block ?_
    refine Wc.block ?_
    refine Wc.seq ?_
    refine Wc.draw [] [] T.mixed rfl ?_
    refine Gm.q 0 [] (by kernel_rfl) rfl rfl (Qy.move rfl) ?_
    refine Gm.q 1 [] (by kernel_rfl) rfl rfl (Qy.move rfl) ?_
    refine Gm.q 2 [] (by kernel_rfl) rfl rfl (Qy.at (α := U32) T.sl65 rfl rfl (by assumption) (by omega)) ?_
    refine Gm.q 3 [] (by kernel_rfl) rfl rfl (Qy.loadG T.one128 rfl (Arr.cell (by assumption) (by omega) 0 rfl rfl)) ?_
    refine Gm.q 4 [] (by kernel_rfl) rfl rfl (Qy.move rfl) ?_
    refine Gm.q 5 [] (by kernel_rfl) rfl rfl (Qy.move rfl) ?_
    refine Gm.q 6 [] (by kernel_rfl) rfl rfl (Qy.at (α := U32) T.sl65 rfl rfl (by assumption) (by omega)) ?_
    refine Gm.q 7 [] (by kernel_rfl) rfl rfl (Qy.loadG T.one128 rfl (Arr.cell (by assumption) (by omega) 0 rfl rfl)) ?_
    refine Gm.q 8 [] (by kernel_rfl) rfl rfl (Qy.lss rfl rfl) ?_
    refine Gm.q 9 [] (by kernel_rfl) rfl rfl (Qy.assign rfl) ?_
    refine Gm.doneA (by kernel_rfl) trivial (by first | exact Imm.le_refl _ | assumption | (refine Imm.le_trans ?_ (by assumption); first | assumption | (refine Imm.le_trans ?_ (by assumption); assumption))) ?_
    refine Ar.next ?_
    refine Wc.cond rfl (fun hc3 => ?_) (fun hc3 => ?_)
    refine Wc.seq ?_
    refine Wc.region rfl ?_
    refine Wl.q rfl (Qy.assign rfl) ?_
    refine Wl.done ?_
    refine Ar.next ?_
    refine Wc.ret ?_
    refine Ar.outRet ?_
    refine Ar.outRet ?_
    refine Ar.passRet ?_
    refine Ar.passRet ?_
    refine Ar.outRet ?_
    refine Ar.passRet ?_
    refine Ar.out1 (.inr rfl) (Ho := Hp.only _ []) rfl (.tmp rfl) (Hp.sub_only _ _) ?_
    rotate_left
    refine Wc.seq ?_
    refine Wc.draw [] [] T.mixed rfl ?_
    refine Gm.q 0 [] (by kernel_rfl) rfl rfl (Qy.move rfl) ?_
    refine Gm.q 1 [] (by kernel_rfl) rfl rfl (Qy.move rfl) ?_
    refine Gm.q 2 [] (by kernel_rfl) rfl rfl (Qy.at (α := U32) T.sl65 rfl rfl (by assumption) (by omega)) ?_
    refine Gm.q 3 [] (by kernel_rfl) rfl rfl (Qy.loadG T.one128 rfl (Arr.cell (by assumption) (by omega) 0 rfl rfl)) ?_
    refine Gm.q 4 [] (by kernel_rfl) rfl rfl (Qy.move rfl) ?_
    refine Gm.q 5 [] (by kernel_rfl) rfl rfl (Qy.move rfl) ?_
    refine Gm.q 6 [] (by kernel_rfl) rfl rfl (Qy.at (α := U32) T.sl65 rfl rfl (by assumption) (by omega)) ?_
    refine Gm.q 7 [] (by kernel_rfl) rfl rfl (Qy.loadG T.one128 rfl (Arr.cell (by assumption) (by omega) 0 rfl rfl)) ?_
    refine Gm.q 8 [] (by kernel_rfl) rfl rfl (Qy.gtr rfl rfl) ?_
    refine Gm.q 9 [] (by kernel_rfl) rfl rfl (Qy.assign rfl) ?_
    refine Gm.doneA (by kernel_rfl) trivial (by first | exact Imm.le_refl _ | assumption | (refine Imm.le_trans ?_ (by assumption); first | assumption | (refine Imm.le_trans ?_ (by assumption); assumption))) ?_
    refine Ar.next ?_
    refine Wc.cond rfl (fun hc4 => ?_) (fun hc4 => ?_)
    refine Wc.seq ?_
    refine Wc.region rfl ?_
    refine Wl.q rfl (Qy.assign rfl) ?_
    refine Wl.done ?_
    refine Ar.next ?_
    refine Wc.ret ?_
    refine Ar.outRet ?_
    refine Ar.outRet ?_
    refine Ar.passRet ?_
    refine Ar.passRet ?_
    refine Ar.outRet ?_
    refine Ar.passRet ?_
    refine Ar.out1 (.inr rfl) (Ho := Hp.only _ []) rfl (.tmp rfl) (Hp.sub_only _ _) ?_
    rotate_left
    refine Wc.skip ?_
    refine Ar.outNormal ?_
    refine Ar.outNormal ?_
    refine Ar.next ?_
    refine Wc.region rfl ?_
    refine Wl.q rfl (Qy.move rfl) ?_
    refine Wl.q rfl (Qy.sub rfl rfl (by omega)) ?_
    refine Wl.q rfl (Qy.assign rfl) ?_
    refine Wl.done ?_
    rotate_left
    · exact ⟨by rw [cmpZ_lt (bhigh_lt hn (by omega) dma dmb hz' (by omega))], rfl, rfl⟩
    · exact ⟨by rw [cmpZ_gt (bhigh_lt hn.symm (by omega) dmb dma (fun j h1 h2 => (hz' j h1 (by omega)).symm) (by omega))], rfl, rfl⟩
    · refine Ar.re 5 rfl (show _ = Value.int .i64 (((k - 1 : Nat) : Int) - 1) by congr 1; omega) ?_
      refine Ar.again (k - 1) ?_ ?_ rfl ⟨rfl, rfl, rfl, trivial⟩ trivial
      · refine ⟨by omega, fun j h1 h2 => ?_⟩
        rcases Nat.lt_or_ge j k with h3 | h3
        · have e : j = k - 1 := by omega
          rw [e]; omega
        · exact hz j h3 h2
      · omega
/-- a number of its own, without noughts at the top -/
theorem c95 (G : Imm) (a : Option Addr) (c : Nat) (l : List U32) (hl : Arr G a l) (hb : l.length ≤ 1073741824) (hc : l.length ≤ c) :
    Does Tryd.prog 95 [.slice a l.length c] G [] (fun v G' Ho => ∃ (b : Option Addr) (m : List U32), v = .slice b m.length m.length ∧ Arr G' b m ∧ m = l.take m.length ∧ Trim l m.length ∧ m.length ≤ l.length ∧ Ho = []) := by
  refine Does.enter Tryd.func95 rfl Tryd.ntmps95 rfl (fun w => ?_)
  refine Wc.seq ?_
  refine Wc.region rfl ?_
  refine Wl.q rfl (Qy.assign rfl) ?_
  refine Wl.done ?_
  refine Ar.next ?_
  refine Wc.seq ?_
  refine Wc.region rfl ?_
  refine Wl.q rfl (Qy.move rfl) ?_
  refine Wl.call 0 rfl T.fn96 rfl (c96 _ _ _ _ (by assumption) (by omega) (by first | assumption | omega)) (tags_of trivial) (fun v1 G1 Ho1 hle1 hp => ?_)
  obtain ⟨ta1, tm1, rfl, hta1, hte1, htr1, htl1, rfl, rfl⟩ := hp
  refine Wl.q rfl (Qy.assign rfl) ?_
  refine Wl.done ?_
  refine Ar.next ?_
  refine Wc.seq ?_
  refine Wc.region rfl ?_
  refine Wl.q rfl (Qy.move rfl) ?_
  refine Wl.q rfl (Qy.len T.sl65 rfl) ?_
  refine Wl.make (α := U32) 0 rfl T.sl65 T.el128 rfl rfl (by omega) (by omega) (fun b1 => ?_)
  refine Wl.q rfl (Qy.assign rfl) ?_
  refine Wl.done ?_
  refine Ar.next ?_
  refine Wc.seq ?_
  refine Wc.region rfl ?_
  refine Wl.q rfl (Qy.move rfl) ?_
  refine Wl.q rfl (Qy.move rfl) ?_
  refine Wl.copyRow (α := U32) 0 rfl T.sl65 rfl rfl rfl (Src.arr (by assumption)) (by first | omega | (simp only [List.length_append, List.length_cons, List.length_nil, List.length_replicate]; omega)) ?_
  refine Wl.done ?_
  refine Ar.next ?_
  refine Wc.seq ?_
  refine Wc.region rfl ?_
  refine Wl.q rfl (Qy.move rfl) ?_
  refine Wl.q rfl (Qy.assign rfl) ?_
  refine Wl.done ?_
  refine Ar.next ?_
  refine Wc.ret ?_
  have e1 : (List.replicate ((tm1.length : Nat) : Int).toNat (default : U32)).length = tm1.length := by rw [List.length_replicate, Int.toNat_natCast]
  refine Ar.reH 0 (Row 128 tm1 []) rfl (by rw [List.drop_eq_nil_of_le (by rw [e1]; exact Nat.le_refl _), List.append_nil]) ?_
  refine Ar.re 2 rfl (show _ = Value.slice (some ⟨b1, 0, none⟩) tm1.length tm1.length by rw [e1]) ?_
  refine Ar.freezeRow 0 rfl (OwnA.made (xs := tm1) (by simp only [maxLen]; omega)) (fun G9 hle9 hA => ?_)
  refine Ar.out1 (.inr rfl) (Ho := []) rfl (.tmp rfl) trivial ?_
  exact ⟨_, tm1, rfl, hA, hte1, htr1, htl1, rfl⟩
end Go.Proofs.YtbppmiimeccclaaDoor
set_option maxRecDepth 100000
set_option linter.unusedVariables false
namespace Go.Proofs.YtbppmiimeccclaaDoor
open Go Go.Sl
set_option maxHeartbeats 4000000
/-- a list of limbs, none a nought at the top, that stays as it is -/
def Nat32 (G : Imm) (v : Value) (z : Int) (n : Nat) : Prop := ∃ (b : Option Addr) (m : List U32), v = .slice b m.length m.length ∧ Arr G b m ∧ Lims m ∧ Top m ∧ valB m = z ∧ m.length ≤ n
theorem Nat32.of {G : Imm} {b : Option Addr} {l m : List U32} {z : Int} {n : Nat} (h : Arr G b m) (he : m = l.take m.length) (ht : Trim l m.length) (hd : Lims l) (hz : valB l = z) (hn : m.length ≤ n) : Nat32 G (.slice b m.length m.length) z n :=
  ⟨b, m, rfl, h, trim_lims he hd, trim_top he ht, (trim_val he ht).trans hz, hn⟩
attribute [local irreducible] valB pb cmpZ
theorem c90 (G : Imm) (a b : Option Addr) (ca cb : Nat) (la lb : List U32) (ha : Arr G a la) (hb : Arr G b lb) (da : Lims la) (db : Lims lb) (h1 : la.length ≤ 1073741824) (h2 : lb.length ≤ 1073741824) :
    Does Tryd.prog 90 [.slice a la.length ca, .slice b lb.length cb] G [] (fun v G' Ho => Nat32 G' v (valB la + valB lb) (max la.length lb.length + 1) ∧ Ho = []) := by
  refine Does.enter Tryd.func90 rfl Tryd.ntmps90 rfl (fun w => ?_)
  refine Wc.seq ?_
  refine Wc.region rfl ?_
  refine Wl.q rfl (Qy.assign rfl) ?_
  refine Wl.done ?_
  refine Ar.next ?_
  refine Wc.meet (ι := Option Addr × Nat × List U32 × (Option Addr × Nat × List U32)) (fun (xa, ka, l1, (xb, kb, l2)) => ([(0, .slice xa l1.length ka), (1, .slice xb l2.length kb), (4, Go.Value.slice Option.none 0 0)], [])) (fun (xa, ka, l1, (xb, kb, l2)) => Arr G xa l1 ∧ Arr G xb l2 ∧ Lims l1 ∧ Lims l2 ∧ l2.length ≤ l1.length ∧ l1.length ≤ max la.length lb.length ∧ valB l1 + valB l2 = valB la + valB lb) ?_ (fun ⟨xa, ka, l1, (xb, kb, l2)⟩ => fun (hk : Arr G xa l1 ∧ Arr G xb l2 ∧ Lims l1 ∧ Lims l2 ∧ l2.length ≤ l1.length ∧ l1.length ≤ max la.length lb.length ∧ valB l1 + valB l2 = valB la + valB lb) => ?_)
  · by_cases hlt : la.length < lb.length
    · refine Wc.seq ?_
      refine Wc.region rfl ?_
      refine Wl.q rfl (Qy.move rfl) ?_
      refine Wl.q rfl (Qy.len T.sl65 rfl) ?_
      refine Wl.q rfl (Qy.move rfl) ?_
      refine Wl.q rfl (Qy.len T.sl65 rfl) ?_
      refine Wl.q rfl (Qy.lss rfl rfl) ?_
      refine Wl.done ?_
      refine Ar.next ?_
      refine Wc.condP rfl (by first | assumption | omega) ?_
      refine Wc.region rfl ?_
      refine Wl.q rfl (Qy.move rfl) ?_
      refine Wl.q rfl (Qy.move rfl) ?_
      refine Wl.q rfl (Qy.assign rfl) ?_
      refine Wl.q rfl (Qy.assign rfl) ?_
      refine Wl.done ?_
      refine Ar.meet ((b, cb, lb, (a, ca, la))) ?_ rfl ⟨rfl, rfl, rfl, trivial⟩ trivial
      exact ⟨hb, ha, db, da, by omega, by omega, Int.add_comm _ _⟩
    · refine Wc.seq ?_
      refine Wc.region rfl ?_
      refine Wl.q rfl (Qy.move rfl) ?_
      refine Wl.q rfl (Qy.len T.sl65 rfl) ?_
      refine Wl.q rfl (Qy.move rfl) ?_
      refine Wl.q rfl (Qy.len T.sl65 rfl) ?_
      refine Wl.q rfl (Qy.lss rfl rfl) ?_
      refine Wl.done ?_
      refine Ar.next ?_
      refine Wc.condN rfl (by first | assumption | omega) ?_
      refine Wc.skip ?_
      refine Ar.meet ((a, ca, la, (b, cb, lb))) ?_ rfl ⟨rfl, rfl, rfl, trivial⟩ trivial
      exact ⟨ha, hb, da, db, by omega, by omega, rfl⟩
  obtain ⟨ha1, hb1, d1, d2, hl21, hl1, hsum⟩ := hk
  clear ha hb
  refine Wc.seq ?_
  refine Wc.region rfl ?_
  refine Wl.q rfl (Qy.move rfl) ?_
  refine Wl.q rfl (Qy.len T.sl65 rfl) ?_
  refine Wl.q rfl (Qy.add rfl rfl (by omega)) ?_
  refine Wl.make (α := U32) 0 rfl T.sl65 T.el128 rfl rfl (by omega) (by omega) (fun b1 => ?_)
  refine Wl.q rfl (Qy.assign rfl) ?_
  refine Wl.done ?_
  refine Ar.next ?_
  refine Wc.seq ?_
  refine Wc.region rfl ?_
  refine Wl.q rfl (Qy.assign rfl) ?_
  refine Wl.done ?_
  refine Ar.next ?_
  refine Wc.seq ?_
  refine Wc.seq ?_
  refine Wc.region rfl ?_
  refine Wl.q rfl (Qy.move rfl) ?_
  refine Wl.q rfl (Qy.len T.sl65 rfl) ?_
  refine Wl.q rfl (Qy.move rfl) ?_
  refine Wl.done ?_
  refine Ar.next ?_
  refine Wc.block ?_
  obtain ⟨N, hN⟩ : ∃ N, N = l1.length + 1 := ⟨_, rfl⟩
  have hM : ((l1.length : Int) + 1).toNat = N := by omega
  rw [hM]
  have hown : ∀ r : List U32, r.length = N → OwnA (some ⟨b1, 0, none⟩) N r [] := fun r hr => .inr ⟨b1, rfl, by rw [hr]; rfl, by omega, by simp only [maxLen]; omega⟩
  refine Wc.re 5 rfl (show _ = Value.slice (some ⟨b1, 0, none⟩) (List.replicate N (default : U32)).length N by rw [List.length_replicate]) ?_
  refine Wc.loop (ι := Nat × Int × List U32) (fun (i, cy, r) => ([(22, .int .i64 (i : Int)), (6, .int .u64 cy), (5, .slice (some ⟨b1, 0, none⟩) r.length N), (21, Go.Value.int Go.IntKind.i64 (↑(List.length l1) : Int)), (20, Go.Value.slice xa (List.length l1) ka), (0, Go.Value.slice xa (List.length l1) ka), (1, Go.Value.slice xb (List.length l2) kb), (4, Go.Value.slice Option.none 0 0)], [(0, some b1, Row 128 r [])])) (fun (i, cy, r) => i ≤ l1.length ∧ r.length = N ∧ Lims r ∧ 0 ≤ cy ∧ cy ≤ 1 ∧ valB (l1.take i) + valB (l2.take i) = valB (r.take i) + pb i * cy) (fun (i, cy, r) => l1.length - i) ((0, 0, List.replicate N (default : U32))) (⟨Nat.zero_le _, List.length_replicate, Lims.zeros N, by decide, by decide, by rw [List.take_zero, List.take_zero, List.take_zero, Int.mul_zero, Int.add_zero, valB_nil]; rfl⟩) ⟨rfl, rfl, rfl, rfl, rfl, rfl, rfl, rfl, trivial⟩ ⟨rfl, trivial⟩ (fun ⟨i, cy, r⟩ => fun (hk : i ≤ l1.length ∧ r.length = N ∧ Lims r ∧ 0 ≤ cy ∧ cy ≤ 1 ∧ valB (l1.take i) + valB (l2.take i) = valB (r.take i) + pb i * cy) => ?_)
  obtain ⟨hi, hrN, hdr, hc0, hc1, hv⟩ := hk
  have hor := hown r hrN
  rcases Nat.lt_or_ge i l1.length with hia | hia
  · have r1 : 0 ≤ (l1[((i : Nat) : Int).toNat]?.getD default).v ∧ (l1[((i : Nat) : Int).toNat]?.getD default).v < 4294967296 := lg_lt d1 hia
    rcases Nat.lt_or_ge i l2.length with hib | hib
    · have r2 : 0 ≤ (l2[((i : Nat) : Int).toNat]?.getD default).v ∧ (l2[((i : Nat) : Int).toNat]?.getD default).v < 4294967296 := lg_lt d2 hib
      refine Wc.seq ?_
      refine Wc.region rfl ?_
      refine Wl.q rfl (Qy.lss rfl rfl) ?_
      refine Wl.done ?_
      refine Ar.next ?_
      refine Wc.seq ?_
      refine Wc.condP rfl (by first | assumption | omega) ?_
      refine Wc.skip ?_
      refine Ar.next ?_
      refine Wc.seq ?_
      refine Wc.block ?_
      refine Wc.seq ?_
      refine Wc.region rfl ?_
      refine Wl.q rfl (Qy.move rfl) ?_
      refine Wl.q rfl (Qy.at (α := U32) T.sl65 rfl rfl (by assumption) (by omega)) ?_
      refine Wl.q rfl (Qy.loadG T.one128 rfl (Arr.cell (by assumption) (by omega) 0 rfl rfl)) ?_
      refine Wl.q rfl (Qy.assign rfl) ?_
      refine Wl.q rfl (Qy.assign rfl) ?_
      refine Wl.done ?_
      refine Ar.next ?_
      refine Wc.seq ?_
      refine Wc.region rfl ?_
      refine Wl.q rfl (Qy.move rfl) ?_
      refine Wl.q rfl (Qy.move rfl) ?_
      refine Wl.q rfl (Qy.conv64 rfl T.u126 rfl (by omega)) ?_
      refine Wl.q rfl (Qy.uadd64 rfl rfl (by omega)) ?_
      refine Wl.q rfl (Qy.assign rfl) ?_
      refine Wl.done ?_
      refine Ar.next ?_
      refine Wc.seq ?_
      refine Wc.seq ?_
      refine Wc.region rfl ?_
      refine Wl.q rfl (Qy.move rfl) ?_
      refine Wl.q rfl (Qy.move rfl) ?_
      refine Wl.q rfl (Qy.len T.sl65 rfl) ?_
      refine Wl.q rfl (Qy.lss rfl rfl) ?_
      refine Wl.done ?_
      refine Ar.next ?_
      refine Wc.condP rfl (by first | assumption | omega) ?_
      refine Wc.region rfl ?_
      refine Wl.q rfl (Qy.move rfl) ?_
      refine Wl.q rfl (Qy.move rfl) ?_
      refine Wl.q rfl (Qy.move rfl) ?_
      refine Wl.q rfl (Qy.at (α := U32) T.sl65 rfl rfl (by assumption) (by omega)) ?_
      refine Wl.q rfl (Qy.loadG T.one128 rfl (Arr.cell (by assumption) (by omega) 0 rfl rfl)) ?_
      refine Wl.q rfl (Qy.conv64 rfl T.u126 rfl (by omega)) ?_
      refine Wl.q rfl (Qy.uadd64 rfl rfl (by omega)) ?_
      refine Wl.q rfl (Qy.assign rfl) ?_
      refine Wl.done ?_
      refine Ar.next ?_
      refine Wc.seq ?_
      refine Wc.region rfl ?_
      refine Wl.q rfl (Qy.move rfl) ?_
      refine Wl.q rfl (Qy.move rfl) ?_
      refine Wl.q rfl (Qy.move rfl) ?_
      refine Wl.q rfl (Qy.trunc32 rfl T.u128 rfl) ?_
      refine Wl.q rfl (Qy.indexAddrO (α := U32) T.sl65 rfl rfl (by assumption) (by omega)) ?_
      refine Wl.setO (z := _) 0 T.size128 rfl rfl rfl (by assumption) (by omega) rfl (fun ho1 => ?_)
      refine Wl.done ?_
      refine Ar.next ?_
      refine Wc.region rfl ?_
      refine Wl.q rfl (Qy.move rfl) ?_
      refine Wl.q rfl (Qy.shr32 rfl rfl (by omega)) ?_
      refine Wl.q rfl (Qy.assign rfl) ?_
      refine Wl.done ?_
      refine Ar.outNormal ?_
      refine Ar.next ?_
      refine Wc.region rfl ?_
      refine Wl.q rfl (Qy.add rfl rfl (by omega)) ?_
      refine Wl.q rfl (Qy.move rfl) ?_
      refine Wl.done ?_
      refine Ar.reH 0 (Row 128 (r.set i (⟨(cy + (l1[((i : Nat) : Int).toNat]?.getD default).v + (l2[((i : Nat) : Int).toNat]?.getD default).v) % 4294967296⟩ : U32)) []) rfl (by rw [Int.toNat_natCast]) ?_
      refine Ar.re 5 rfl (show _ = Value.slice (some ⟨b1, 0, none⟩) (r.set i (⟨(cy + (l1[((i : Nat) : Int).toNat]?.getD default).v + (l2[((i : Nat) : Int).toNat]?.getD default).v) % 4294967296⟩ : U32)).length N by rw [List.length_set]) ?_
      refine Ar.again ((i + 1, (cy + (l1[((i : Nat) : Int).toNat]?.getD default).v + (l2[((i : Nat) : Int).toNat]?.getD default).v) / 4294967296, r.set i (⟨(cy + (l1[((i : Nat) : Int).toNat]?.getD default).v + (l2[((i : Nat) : Int).toNat]?.getD default).v) % 4294967296⟩ : U32))) ?_ ?_ rfl ⟨rfl, rfl, rfl, rfl, rfl, rfl, rfl, rfl, trivial⟩ ⟨rfl, trivial⟩
      · exact ⟨by omega, by rw [List.length_set]; exact hrN, lims_set hdr _ (mod32 _), by omega, by omega, add_next (by omega) hv rfl⟩
      · show l1.length - (i + 1) < l1.length - i
        omega
    · have z := lg_end hib
      refine Wc.seq ?_
      refine Wc.region rfl ?_
      refine Wl.q rfl (Qy.lss rfl rfl) ?_
      refine Wl.done ?_
      refine Ar.next ?_
      refine Wc.seq ?_
      refine Wc.condP rfl (by first | assumption | omega) ?_
      refine Wc.skip ?_
      refine Ar.next ?_
      refine Wc.seq ?_
      refine Wc.block ?_
      refine Wc.seq ?_
      refine Wc.region rfl ?_
      refine Wl.q rfl (Qy.move rfl) ?_
      refine Wl.q rfl (Qy.at (α := U32) T.sl65 rfl rfl (by assumption) (by omega)) ?_
      refine Wl.q rfl (Qy.loadG T.one128 rfl (Arr.cell (by assumption) (by omega) 0 rfl rfl)) ?_
      refine Wl.q rfl (Qy.assign rfl) ?_
      refine Wl.q rfl (Qy.assign rfl) ?_
      refine Wl.done ?_
      refine Ar.next ?_
      refine Wc.seq ?_
      refine Wc.region rfl ?_
      refine Wl.q rfl (Qy.move rfl) ?_
      refine Wl.q rfl (Qy.move rfl) ?_
      refine Wl.q rfl (Qy.conv64 rfl T.u126 rfl (by omega)) ?_
      refine Wl.q rfl (Qy.uadd64 rfl rfl (by omega)) ?_
      refine Wl.q rfl (Qy.assign rfl) ?_
      refine Wl.done ?_
      refine Ar.next ?_
      refine Wc.seq ?_
      refine Wc.seq ?_
      refine Wc.region rfl ?_
      refine Wl.q rfl (Qy.move rfl) ?_
      refine Wl.q rfl (Qy.move rfl) ?_
      refine Wl.q rfl (Qy.len T.sl65 rfl) ?_
      refine Wl.q rfl (Qy.lss rfl rfl) ?_
      refine Wl.done ?_
      refine Ar.next ?_
      refine Wc.condN rfl (by first | assumption | omega) ?_
      refine Wc.skip ?_
      refine Ar.next ?_
      refine Wc.seq ?_
      refine Wc.region rfl ?_
      refine Wl.q rfl (Qy.move rfl) ?_
      refine Wl.q rfl (Qy.move rfl) ?_
      refine Wl.q rfl (Qy.move rfl) ?_
      refine Wl.q rfl (Qy.trunc32 rfl T.u128 rfl) ?_
      refine Wl.q rfl (Qy.indexAddrO (α := U32) T.sl65 rfl rfl (by assumption) (by omega)) ?_
      refine Wl.setO (z := _) 0 T.size128 rfl rfl rfl (by assumption) (by omega) rfl (fun ho1 => ?_)
      refine Wl.done ?_
      refine Ar.next ?_
      refine Wc.region rfl ?_
      refine Wl.q rfl (Qy.move rfl) ?_
      refine Wl.q rfl (Qy.shr32 rfl rfl (by omega)) ?_
      refine Wl.q rfl (Qy.assign rfl) ?_
      refine Wl.done ?_
      refine Ar.outNormal ?_
      refine Ar.next ?_
      refine Wc.region rfl ?_
      refine Wl.q rfl (Qy.add rfl rfl (by omega)) ?_
      refine Wl.q rfl (Qy.move rfl) ?_
      refine Wl.done ?_
      refine Ar.reH 0 (Row 128 (r.set i (⟨(cy + (l1[((i : Nat) : Int).toNat]?.getD default).v) % 4294967296⟩ : U32)) []) rfl (by rw [Int.toNat_natCast]) ?_
      refine Ar.re 5 rfl (show _ = Value.slice (some ⟨b1, 0, none⟩) (r.set i (⟨(cy + (l1[((i : Nat) : Int).toNat]?.getD default).v) % 4294967296⟩ : U32)).length N by rw [List.length_set]) ?_
      refine Ar.again ((i + 1, (cy + (l1[((i : Nat) : Int).toNat]?.getD default).v) / 4294967296, r.set i (⟨(cy + (l1[((i : Nat) : Int).toNat]?.getD default).v) % 4294967296⟩ : U32))) ?_ ?_ rfl ⟨rfl, rfl, rfl, rfl, rfl, rfl, rfl, rfl, trivial⟩ ⟨rfl, trivial⟩
      · exact ⟨by omega, by rw [List.length_set]; exact hrN, lims_set hdr _ (mod32 _), by omega, by omega, add_next (by omega) hv (by rw [z, Int.add_zero]; rfl)⟩
      · show l1.length - (i + 1) < l1.length - i
        omega
  · have hii : i = l1.length := by omega
    subst hii
    refine Wc.seq ?_
    refine Wc.region rfl ?_
    refine Wl.q rfl (Qy.lss rfl rfl) ?_
    refine Wl.done ?_
    refine Ar.next ?_
    refine Wc.seq ?_
    refine Wc.condN rfl (by first | assumption | omega) ?_
    refine Wc.exit ?_
    refine Ar.passExit ?_
    refine Ar.passExit ?_
    refine Ar.here ?_
    refine Ar.next ?_
    refine Wc.seq ?_
    refine Wc.region rfl ?_
    refine Wl.q rfl (Qy.move rfl) ?_
    refine Wl.q rfl (Qy.move rfl) ?_
    refine Wl.q rfl (Qy.len T.sl65 rfl) ?_
    refine Wl.q rfl (Qy.move rfl) ?_
    refine Wl.q rfl (Qy.conv32 rfl T.u128 rfl (by omega)) ?_
    refine Wl.q rfl (Qy.indexAddrO (α := U32) T.sl65 rfl rfl (by assumption) (by omega)) ?_
    refine Wl.setO (z := _) 0 T.size128 rfl rfl rfl (by assumption) (by omega) rfl (fun ho1 => ?_)
    refine Wl.done ?_
    refine Ar.next ?_
    refine Wc.seq ?_
    refine Wc.region rfl ?_
    refine Wl.q rfl (Qy.move rfl) ?_
    have hd2 := lims_set hdr l1.length (s := cy) (by omega)
    have hlen : (r.set l1.length (⟨cy⟩ : U32)).length = N := by rw [List.length_set]; exact hrN
    have hval : valB (r.set l1.length (⟨cy⟩ : U32)) = valB la + valB lb := by
      rw [take_all (Nat.le_refl _), take_all hl21] at hv
      rw [← hsum, hv]
      have h3 := bval_step (r.set l1.length (⟨cy⟩ : U32)) l1.length
      rw [take_all (by omega), List.take_set_of_le (Nat.le_refl _), lg_set (by omega)] at h3
      exact h3
    refine Wl.reH 0 (Row 128 (r.set l1.length (⟨cy⟩ : U32)) []) rfl (by rw [Int.toNat_natCast]) ?_
    refine Wl.re 56 rfl (show _ = Value.slice (some ⟨b1, 0, none⟩) (r.set l1.length (⟨cy⟩ : U32)).length N by rw [List.length_set]) ?_
    refine Wl.freezeRow 0 rfl (hown _ hlen) (fun G9 hle9 hA => ?_)
    refine Wl.call 1 rfl T.fn96 rfl (c96 _ _ _ _ (by assumption) (by omega) (by first | assumption | omega)) (tags_of trivial) (fun v1 G1 Ho1 hle1 hp => ?_)
    obtain ⟨ta1, tm1, rfl, hta1, hte1, htr1, htl1, rfl, rfl⟩ := hp
    refine Wl.q rfl (Qy.assign rfl) ?_
    refine Wl.done ?_
    refine Ar.next ?_
    refine Wc.ret ?_
    refine Ar.out1 (.inr rfl) (Ho := Hp.only _ []) rfl (.tmp rfl) (Hp.sub_only _ _) ?_
    exact ⟨Nat32.of hta1 hte1 htr1 hd2 hval (by omega), rfl⟩
end Go.Proofs.YtbppmiimeccclaaDoor
set_option maxRecDepth 100000
set_option linter.unusedVariables false
namespace Go.Proofs.YtbppmiimeccclaaDoor
open Go Go.Sl
set_option maxHeartbeats 4000000
attribute [local irreducible] valB pb cmpZ
theorem c91 (G : Imm) (a b : Option Addr) (ca cb : Nat) (la lb : List U32) (ha : Arr G a la) (hb : Arr G b lb) (da : Lims la) (db : Lims lb) (h1 : la.length ≤ 1073741824) (h2 : lb.length ≤ la.length) (h3 : la.length ≤ ca) (h4 : lb.length ≤ cb) (hle : valB lb ≤ valB la) :
    Does Tryd.prog 91 [.slice a la.length ca, .slice b lb.length cb] G [] (fun v G' Ho => ∃ r, v = .tuple #[r, .int .i64 0] ∧ Nat32 G' r (valB la - valB lb) la.length ∧ Ho = []) := by
  have hcmp : 0 ≤ cmpZ (valB la) (valB lb) := by
    rcases Int.lt_or_eq_of_le hle with h | h
    · rw [cmpZ_gt h]; decide
    · rw [cmpZ_eq h.symm]; decide
  refine Does.enter Tryd.func91 rfl Tryd.ntmps91 rfl (fun w => ?_)
  refine Wc.seq ?_
  refine Wc.region rfl ?_
  refine Wl.q rfl (Qy.assign rfl) ?_
  refine Wl.q rfl (Qy.assign rfl) ?_
  refine Wl.done ?_
  refine Ar.next ?_
  refine Wc.seq ?_
  refine Wc.seq ?_
  refine Wc.region rfl ?_
  refine Wl.q rfl (Qy.move rfl) ?_
  refine Wl.q rfl (Qy.move rfl) ?_
  refine Wl.call0 rfl T.fn74 rfl (c74 _ _ _ _ _ _ _ (by assumption) (by assumption) (by assumption) (by assumption) (by omega) (by omega) (by omega) (by omega)) ?_
  refine Wl.q rfl (Qy.lss rfl rfl) ?_
  refine Wl.done ?_
  refine Ar.next ?_
  refine Wc.condN rfl (by first | assumption | omega) ?_
  refine Wc.skip ?_
  refine Ar.next ?_
  refine Wc.seq ?_
  refine Wc.region rfl ?_
  refine Wl.q rfl (Qy.move rfl) ?_
  refine Wl.q rfl (Qy.len T.sl65 rfl) ?_
  refine Wl.make (α := U32) 0 rfl T.sl65 T.el128 rfl rfl (by omega) (by omega) (fun b1 => ?_)
  refine Wl.q rfl (Qy.assign rfl) ?_
  refine Wl.done ?_
  refine Ar.next ?_
  refine Wc.seq ?_
  refine Wc.region rfl ?_
  refine Wl.q rfl (Qy.assign rfl) ?_
  refine Wl.done ?_
  refine Ar.next ?_
  refine Wc.seq ?_
  refine Wc.seq ?_
  refine Wc.region rfl ?_
  refine Wl.q rfl (Qy.move rfl) ?_
  refine Wl.q rfl (Qy.len T.sl65 rfl) ?_
  refine Wl.q rfl (Qy.move rfl) ?_
  refine Wl.done ?_
  refine Ar.next ?_
  refine Wc.block ?_
  obtain ⟨N, hN⟩ : ∃ N, N = la.length := ⟨_, rfl⟩
  have hM : (la.length : Int).toNat = N := by omega
  rw [hM]
  have hown : ∀ r : List U32, r.length = N → OwnA (some ⟨b1, 0, none⟩) N r [] := fun r hr => .inr ⟨b1, rfl, by rw [hr]; rfl, by omega, by simp only [maxLen]; omega⟩
  refine Wc.re 6 rfl (show _ = Value.slice (some ⟨b1, 0, none⟩) (List.replicate N (default : U32)).length N by rw [List.length_replicate]) ?_
  refine Wc.loop (ι := Nat × Int × List U32) (fun (i, cy, r) => ([(21, .int .i64 (i : Int)), (7, .int .u64 cy), (6, .slice (some ⟨b1, 0, none⟩) r.length N), (20, Go.Value.int Go.IntKind.i64 (↑(List.length la) : Int)), (19, Go.Value.slice a (List.length la) ca), (5, Go.Value.int Go.IntKind.i64 0), (4, Go.Value.slice Option.none 0 0), (1, Go.Value.slice b (List.length lb) cb)], [(0, some b1, Row 128 r [])])) (fun (i, cy, r) => i ≤ la.length ∧ r.length = N ∧ Lims r ∧ 0 ≤ cy ∧ cy ≤ 1 ∧ valB (la.take i) - valB (lb.take i) = valB (r.take i) - pb i * cy) (fun (i, cy, r) => la.length - i) ((0, 0, List.replicate N (default : U32))) (⟨Nat.zero_le _, List.length_replicate, Lims.zeros N, by decide, by decide, by rw [List.take_zero, List.take_zero, List.take_zero, Int.mul_zero, Int.sub_zero, valB_nil]; rfl⟩) ⟨rfl, rfl, rfl, rfl, rfl, rfl, rfl, rfl, trivial⟩ ⟨rfl, trivial⟩ (fun ⟨i, cy, r⟩ => fun (hk : i ≤ la.length ∧ r.length = N ∧ Lims r ∧ 0 ≤ cy ∧ cy ≤ 1 ∧ valB (la.take i) - valB (lb.take i) = valB (r.take i) - pb i * cy) => ?_)
  obtain ⟨hi, hrN, hdr, hc0, hc1, hv⟩ := hk
  have hor := hown r hrN
  rcases Nat.lt_or_ge i la.length with hia | hia
  · have r1 : 0 ≤ (la[((i : Nat) : Int).toNat]?.getD default).v ∧ (la[((i : Nat) : Int).toNat]?.getD default).v < 4294967296 := lg_lt da hia
    have e1 : (la[((i : Nat) : Int).toNat]?.getD default).v = lg la i := rfl
    rcases Nat.lt_or_ge i lb.length with hib | hib
    · have r2 : 0 ≤ (lb[((i : Nat) : Int).toNat]?.getD default).v ∧ (lb[((i : Nat) : Int).toNat]?.getD default).v < 4294967296 := lg_lt db hib
      have e2 : (lb[((i : Nat) : Int).toNat]?.getD default).v = lg lb i := rfl
      by_cases hlt : (la[((i : Nat) : Int).toNat]?.getD default).v < cy + (lb[((i : Nat) : Int).toNat]?.getD default).v
      · refine Wc.seq ?_
        refine Wc.region rfl ?_
        refine Wl.q rfl (Qy.lss rfl rfl) ?_
        refine Wl.done ?_
        refine Ar.next ?_
        refine Wc.seq ?_
        refine Wc.condP rfl (by first | assumption | omega) ?_
        refine Wc.skip ?_
        refine Ar.next ?_
        refine Wc.seq ?_
        refine Wc.block ?_
        refine Wc.seq ?_
        refine Wc.region rfl ?_
        refine Wl.q rfl (Qy.move rfl) ?_
        refine Wl.q rfl (Qy.at (α := U32) T.sl65 rfl rfl (by assumption) (by omega)) ?_
        refine Wl.q rfl (Qy.loadG T.one128 rfl (Arr.cell (by assumption) (by omega) 0 rfl rfl)) ?_
        refine Wl.q rfl (Qy.assign rfl) ?_
        refine Wl.q rfl (Qy.assign rfl) ?_
        refine Wl.done ?_
        refine Ar.next ?_
        refine Wc.seq ?_
        refine Wc.region rfl ?_
        refine Wl.q rfl (Qy.move rfl) ?_
        refine Wl.q rfl (Qy.assign rfl) ?_
        refine Wl.done ?_
        refine Ar.next ?_
        refine Wc.seq ?_
        refine Wc.seq ?_
        refine Wc.region rfl ?_
        refine Wl.q rfl (Qy.move rfl) ?_
        refine Wl.q rfl (Qy.move rfl) ?_
        refine Wl.q rfl (Qy.len T.sl65 rfl) ?_
        refine Wl.q rfl (Qy.lss rfl rfl) ?_
        refine Wl.done ?_
        refine Ar.next ?_
        refine Wc.condP rfl (by first | assumption | omega) ?_
        refine Wc.region rfl ?_
        refine Wl.q rfl (Qy.move rfl) ?_
        refine Wl.q rfl (Qy.move rfl) ?_
        refine Wl.q rfl (Qy.move rfl) ?_
        refine Wl.q rfl (Qy.at (α := U32) T.sl65 rfl rfl (by assumption) (by omega)) ?_
        refine Wl.q rfl (Qy.loadG T.one128 rfl (Arr.cell (by assumption) (by omega) 0 rfl rfl)) ?_
        refine Wl.q rfl (Qy.conv64 rfl T.u126 rfl (by omega)) ?_
        refine Wl.q rfl (Qy.uadd64 rfl rfl (by omega)) ?_
        refine Wl.q rfl (Qy.assign rfl) ?_
        refine Wl.done ?_
        refine Ar.next ?_
        refine Wc.seq ?_
        refine Wc.region rfl ?_
        refine Wl.q rfl (Qy.move rfl) ?_
        refine Wl.q rfl (Qy.conv64 rfl T.u126 rfl (by omega)) ?_
        refine Wl.q rfl (Qy.move rfl) ?_
        refine Wl.q rfl (Qy.usubN rfl rfl (by omega)) ?_
        refine Wl.q rfl (Qy.assign rfl) ?_
        refine Wl.done ?_
        refine Ar.next ?_
        refine Wc.seq ?_
        refine Wc.region rfl ?_
        refine Wl.q rfl (Qy.move rfl) ?_
        refine Wl.q rfl (Qy.move rfl) ?_
        refine Wl.q rfl (Qy.move rfl) ?_
        refine Wl.q rfl (Qy.trunc32 rfl T.u128 rfl) ?_
        refine Wl.q rfl (Qy.indexAddrO (α := U32) T.sl65 rfl rfl (by assumption) (by omega)) ?_
        refine Wl.setO (z := _) 0 T.size128 rfl rfl rfl (by assumption) (by omega) rfl (fun ho1 => ?_)
        refine Wl.done ?_
        refine Ar.next ?_
        refine Wc.region rfl ?_
        refine Wl.q rfl (Qy.move rfl) ?_
        refine Wl.q rfl (Qy.shr32 rfl rfl (by omega)) ?_
        refine Wl.q rfl (Qy.and1 rfl rfl (by omega)) ?_
        refine Wl.q rfl (Qy.assign rfl) ?_
        refine Wl.done ?_
        refine Ar.outNormal ?_
        refine Ar.next ?_
        refine Wc.region rfl ?_
        refine Wl.q rfl (Qy.add rfl rfl (by omega)) ?_
        refine Wl.q rfl (Qy.move rfl) ?_
        refine Wl.done ?_
        have es : ((la[((i : Nat) : Int).toNat]?.getD default).v - (cy + (lb[((i : Nat) : Int).toNat]?.getD default).v) + 18446744073709551616) % 4294967296 = ((la[((i : Nat) : Int).toNat]?.getD default).v - (cy + (lb[((i : Nat) : Int).toNat]?.getD default).v) + 4294967296) := by omega
        have ec : ((la[((i : Nat) : Int).toNat]?.getD default).v - (cy + (lb[((i : Nat) : Int).toNat]?.getD default).v) + 18446744073709551616) / 4294967296 % 2 = 1 := by omega
        refine Ar.re 7 rfl (show _ = Value.int .u64 1 by rw [ec]) ?_
        refine Ar.reH 0 (Row 128 (r.set i (⟨((la[((i : Nat) : Int).toNat]?.getD default).v - (cy + (lb[((i : Nat) : Int).toNat]?.getD default).v) + 4294967296)⟩ : U32)) []) rfl (by rw [es, Int.toNat_natCast]) ?_
        refine Ar.re 6 rfl (show _ = Value.slice (some ⟨b1, 0, none⟩) (r.set i (⟨((la[((i : Nat) : Int).toNat]?.getD default).v - (cy + (lb[((i : Nat) : Int).toNat]?.getD default).v) + 4294967296)⟩ : U32)).length N by rw [List.length_set]) ?_
        refine Ar.again ((i + 1, 1, r.set i (⟨((la[((i : Nat) : Int).toNat]?.getD default).v - (cy + (lb[((i : Nat) : Int).toNat]?.getD default).v) + 4294967296)⟩ : U32))) ?_ ?_ rfl ⟨rfl, rfl, rfl, rfl, rfl, rfl, rfl, rfl, trivial⟩ ⟨rfl, trivial⟩
        · exact ⟨by omega, by rw [List.length_set]; exact hrN, lims_set hdr _ (by omega), by decide, by decide, sub_next (cy' := 1) (by omega) hv (by rw [← e1, ← e2]; omega)⟩
        · show la.length - (i + 1) < la.length - i
          omega
      · refine Wc.seq ?_
        refine Wc.region rfl ?_
        refine Wl.q rfl (Qy.lss rfl rfl) ?_
        refine Wl.done ?_
        refine Ar.next ?_
        refine Wc.seq ?_
        refine Wc.condP rfl (by first | assumption | omega) ?_
        refine Wc.skip ?_
        refine Ar.next ?_
        refine Wc.seq ?_
        refine Wc.block ?_
        refine Wc.seq ?_
        refine Wc.region rfl ?_
        refine Wl.q rfl (Qy.move rfl) ?_
        refine Wl.q rfl (Qy.at (α := U32) T.sl65 rfl rfl (by assumption) (by omega)) ?_
        refine Wl.q rfl (Qy.loadG T.one128 rfl (Arr.cell (by assumption) (by omega) 0 rfl rfl)) ?_
        refine Wl.q rfl (Qy.assign rfl) ?_
        refine Wl.q rfl (Qy.assign rfl) ?_
        refine Wl.done ?_
        refine Ar.next ?_
        refine Wc.seq ?_
        refine Wc.region rfl ?_
        refine Wl.q rfl (Qy.move rfl) ?_
        refine Wl.q rfl (Qy.assign rfl) ?_
        refine Wl.done ?_
        refine Ar.next ?_
        refine Wc.seq ?_
        refine Wc.seq ?_
        refine Wc.region rfl ?_
        refine Wl.q rfl (Qy.move rfl) ?_
        refine Wl.q rfl (Qy.move rfl) ?_
        refine Wl.q rfl (Qy.len T.sl65 rfl) ?_
        refine Wl.q rfl (Qy.lss rfl rfl) ?_
        refine Wl.done ?_
        refine Ar.next ?_
        refine Wc.condP rfl (by first | assumption | omega) ?_
        refine Wc.region rfl ?_
        refine Wl.q rfl (Qy.move rfl) ?_
        refine Wl.q rfl (Qy.move rfl) ?_
        refine Wl.q rfl (Qy.move rfl) ?_
        refine Wl.q rfl (Qy.at (α := U32) T.sl65 rfl rfl (by assumption) (by omega)) ?_
        refine Wl.q rfl (Qy.loadG T.one128 rfl (Arr.cell (by assumption) (by omega) 0 rfl rfl)) ?_
        refine Wl.q rfl (Qy.conv64 rfl T.u126 rfl (by omega)) ?_
        refine Wl.q rfl (Qy.uadd64 rfl rfl (by omega)) ?_
        refine Wl.q rfl (Qy.assign rfl) ?_
        refine Wl.done ?_
        refine Ar.next ?_
        refine Wc.seq ?_
        refine Wc.region rfl ?_
        refine Wl.q rfl (Qy.move rfl) ?_
        refine Wl.q rfl (Qy.conv64 rfl T.u126 rfl (by omega)) ?_
        refine Wl.q rfl (Qy.move rfl) ?_
        refine Wl.q rfl (Qy.usub64 rfl rfl (by omega)) ?_
        refine Wl.q rfl (Qy.assign rfl) ?_
        refine Wl.done ?_
        refine Ar.next ?_
        refine Wc.seq ?_
        refine Wc.region rfl ?_
        refine Wl.q rfl (Qy.move rfl) ?_
        refine Wl.q rfl (Qy.move rfl) ?_
        refine Wl.q rfl (Qy.move rfl) ?_
        refine Wl.q rfl (Qy.conv32 rfl T.u128 rfl (by omega)) ?_
        refine Wl.q rfl (Qy.indexAddrO (α := U32) T.sl65 rfl rfl (by assumption) (by omega)) ?_
        refine Wl.setO (z := _) 0 T.size128 rfl rfl rfl (by assumption) (by omega) rfl (fun ho1 => ?_)
        refine Wl.done ?_
        refine Ar.next ?_
        refine Wc.region rfl ?_
        refine Wl.q rfl (Qy.move rfl) ?_
        refine Wl.q rfl (Qy.shr32 rfl rfl (by omega)) ?_
        refine Wl.q rfl (Qy.and1 rfl rfl (by omega)) ?_
        refine Wl.q rfl (Qy.assign rfl) ?_
        refine Wl.done ?_
        refine Ar.outNormal ?_
        refine Ar.next ?_
        refine Wc.region rfl ?_
        refine Wl.q rfl (Qy.add rfl rfl (by omega)) ?_
        refine Wl.q rfl (Qy.move rfl) ?_
        refine Wl.done ?_
        have es : ((la[((i : Nat) : Int).toNat]?.getD default).v - (cy + (lb[((i : Nat) : Int).toNat]?.getD default).v)) = ((la[((i : Nat) : Int).toNat]?.getD default).v - (cy + (lb[((i : Nat) : Int).toNat]?.getD default).v)) := by omega
        have ec : ((la[((i : Nat) : Int).toNat]?.getD default).v - (cy + (lb[((i : Nat) : Int).toNat]?.getD default).v)) / 4294967296 % 2 = 0 := by omega
        refine Ar.re 7 rfl (show _ = Value.int .u64 0 by rw [ec]) ?_
        refine Ar.reH 0 (Row 128 (r.set i (⟨((la[((i : Nat) : Int).toNat]?.getD default).v - (cy + (lb[((i : Nat) : Int).toNat]?.getD default).v))⟩ : U32)) []) rfl (by rw [es, Int.toNat_natCast]) ?_
        refine Ar.re 6 rfl (show _ = Value.slice (some ⟨b1, 0, none⟩) (r.set i (⟨((la[((i : Nat) : Int).toNat]?.getD default).v - (cy + (lb[((i : Nat) : Int).toNat]?.getD default).v))⟩ : U32)).length N by rw [List.length_set]) ?_
        refine Ar.again ((i + 1, 0, r.set i (⟨((la[((i : Nat) : Int).toNat]?.getD default).v - (cy + (lb[((i : Nat) : Int).toNat]?.getD default).v))⟩ : U32))) ?_ ?_ rfl ⟨rfl, rfl, rfl, rfl, rfl, rfl, rfl, rfl, trivial⟩ ⟨rfl, trivial⟩
        · exact ⟨by omega, by rw [List.length_set]; exact hrN, lims_set hdr _ (by omega), by decide, by decide, sub_next (cy' := 0) (by omega) hv (by rw [← e1, ← e2]; omega)⟩
        · show la.length - (i + 1) < la.length - i
          omega
    · have z := lg_end hib
      by_cases hlt : (la[((i : Nat) : Int).toNat]?.getD default).v < cy
      · refine Wc.seq ?_
        refine Wc.region rfl ?_
        refine Wl.q rfl (Qy.lss rfl rfl) ?_
        refine Wl.done ?_
        refine Ar.next ?_
        refine Wc.seq ?_
        refine Wc.condP rfl (by first | assumption | omega) ?_
        refine Wc.skip ?_
        refine Ar.next ?_
        refine Wc.seq ?_
        refine Wc.block ?_
        refine Wc.seq ?_
        refine Wc.region rfl ?_
        refine Wl.q rfl (Qy.move rfl) ?_
        refine Wl.q rfl (Qy.at (α := U32) T.sl65 rfl rfl (by assumption) (by omega)) ?_
        refine Wl.q rfl (Qy.loadG T.one128 rfl (Arr.cell (by assumption) (by omega) 0 rfl rfl)) ?_
        refine Wl.q rfl (Qy.assign rfl) ?_
        refine Wl.q rfl (Qy.assign rfl) ?_
        refine Wl.done ?_
        refine Ar.next ?_
        refine Wc.seq ?_
        refine Wc.region rfl ?_
        refine Wl.q rfl (Qy.move rfl) ?_
        refine Wl.q rfl (Qy.assign rfl) ?_
        refine Wl.done ?_
        refine Ar.next ?_
        refine Wc.seq ?_
        refine Wc.seq ?_
        refine Wc.region rfl ?_
        refine Wl.q rfl (Qy.move rfl) ?_
        refine Wl.q rfl (Qy.move rfl) ?_
        refine Wl.q rfl (Qy.len T.sl65 rfl) ?_
        refine Wl.q rfl (Qy.lss rfl rfl) ?_
        refine Wl.done ?_
        refine Ar.next ?_
        refine Wc.condN rfl (by first | assumption | omega) ?_
        refine Wc.skip ?_
        refine Ar.next ?_
        refine Wc.seq ?_
        refine Wc.region rfl ?_
        refine Wl.q rfl (Qy.move rfl) ?_
        refine Wl.q rfl (Qy.conv64 rfl T.u126 rfl (by omega)) ?_
        refine Wl.q rfl (Qy.move rfl) ?_
        refine Wl.q rfl (Qy.usubN rfl rfl (by omega)) ?_
        refine Wl.q rfl (Qy.assign rfl) ?_
        refine Wl.done ?_
        refine Ar.next ?_
        refine Wc.seq ?_
        refine Wc.region rfl ?_
        refine Wl.q rfl (Qy.move rfl) ?_
        refine Wl.q rfl (Qy.move rfl) ?_
        refine Wl.q rfl (Qy.move rfl) ?_
        refine Wl.q rfl (Qy.trunc32 rfl T.u128 rfl) ?_
        refine Wl.q rfl (Qy.indexAddrO (α := U32) T.sl65 rfl rfl (by assumption) (by omega)) ?_
        refine Wl.setO (z := _) 0 T.size128 rfl rfl rfl (by assumption) (by omega) rfl (fun ho1 => ?_)
        refine Wl.done ?_
        refine Ar.next ?_
        refine Wc.region rfl ?_
        refine Wl.q rfl (Qy.move rfl) ?_
        refine Wl.q rfl (Qy.shr32 rfl rfl (by omega)) ?_
        refine Wl.q rfl (Qy.and1 rfl rfl (by omega)) ?_
        refine Wl.q rfl (Qy.assign rfl) ?_
        refine Wl.done ?_
        refine Ar.outNormal ?_
        refine Ar.next ?_
        refine Wc.region rfl ?_
        refine Wl.q rfl (Qy.add rfl rfl (by omega)) ?_
        refine Wl.q rfl (Qy.move rfl) ?_
        refine Wl.done ?_
        have es : ((la[((i : Nat) : Int).toNat]?.getD default).v - (cy) + 18446744073709551616) % 4294967296 = ((la[((i : Nat) : Int).toNat]?.getD default).v - (cy) + 4294967296) := by omega
        have ec : ((la[((i : Nat) : Int).toNat]?.getD default).v - (cy) + 18446744073709551616) / 4294967296 % 2 = 1 := by omega
        refine Ar.re 7 rfl (show _ = Value.int .u64 1 by rw [ec]) ?_
        refine Ar.reH 0 (Row 128 (r.set i (⟨((la[((i : Nat) : Int).toNat]?.getD default).v - (cy) + 4294967296)⟩ : U32)) []) rfl (by rw [es, Int.toNat_natCast]) ?_
        refine Ar.re 6 rfl (show _ = Value.slice (some ⟨b1, 0, none⟩) (r.set i (⟨((la[((i : Nat) : Int).toNat]?.getD default).v - (cy) + 4294967296)⟩ : U32)).length N by rw [List.length_set]) ?_
        refine Ar.again ((i + 1, 1, r.set i (⟨((la[((i : Nat) : Int).toNat]?.getD default).v - (cy) + 4294967296)⟩ : U32))) ?_ ?_ rfl ⟨rfl, rfl, rfl, rfl, rfl, rfl, rfl, rfl, trivial⟩ ⟨rfl, trivial⟩
        · exact ⟨by omega, by rw [List.length_set]; exact hrN, lims_set hdr _ (by omega), by decide, by decide, sub_next (cy' := 1) (by omega) hv (by rw [← e1, z]; omega)⟩
        · show la.length - (i + 1) < la.length - i
          omega
      · refine Wc.seq ?_
        refine Wc.region rfl ?_
        refine Wl.q rfl (Qy.lss rfl rfl) ?_
        refine Wl.done ?_
        refine Ar.next ?_
        refine Wc.seq ?_
        refine Wc.condP rfl (by first | assumption | omega) ?_
        refine Wc.skip ?_
        refine Ar.next ?_
        refine Wc.seq ?_
        refine Wc.block ?_
        refine Wc.seq ?_
        refine Wc.region rfl ?_
        refine Wl.q rfl (Qy.move rfl) ?_
        refine Wl.q rfl (Qy.at (α := U32) T.sl65 rfl rfl (by assumption) (by omega)) ?_
        refine Wl.q rfl (Qy.loadG T.one128 rfl (Arr.cell (by assumption) (by omega) 0 rfl rfl)) ?_
        refine Wl.q rfl (Qy.assign rfl) ?_
        refine Wl.q rfl (Qy.assign rfl) ?_
        refine Wl.done ?_
        refine Ar.next ?_
        refine Wc.seq ?_
        refine Wc.region rfl ?_
        refine Wl.q rfl (Qy.move rfl) ?_
        refine Wl.q rfl (Qy.assign rfl) ?_
        refine Wl.done ?_
        refine Ar.next ?_
        refine Wc.seq ?_
        refine Wc.seq ?_
        refine Wc.region rfl ?_
        refine Wl.q rfl (Qy.move rfl) ?_
        refine Wl.q rfl (Qy.move rfl) ?_
        refine Wl.q rfl (Qy.len T.sl65 rfl) ?_
        refine Wl.q rfl (Qy.lss rfl rfl) ?_
        refine Wl.done ?_
        refine Ar.next ?_
        refine Wc.condN rfl (by first | assumption | omega) ?_
        refine Wc.skip ?_
        refine Ar.next ?_
        refine Wc.seq ?_
        refine Wc.region rfl ?_
        refine Wl.q rfl (Qy.move rfl) ?_
        refine Wl.q rfl (Qy.conv64 rfl T.u126 rfl (by omega)) ?_
        refine Wl.q rfl (Qy.move rfl) ?_
        refine Wl.q rfl (Qy.usub64 rfl rfl (by omega)) ?_
        refine Wl.q rfl (Qy.assign rfl) ?_
        refine Wl.done ?_
        refine Ar.next ?_
        refine Wc.seq ?_
        refine Wc.region rfl ?_
        refine Wl.q rfl (Qy.move rfl) ?_
        refine Wl.q rfl (Qy.move rfl) ?_
        refine Wl.q rfl (Qy.move rfl) ?_
        refine Wl.q rfl (Qy.conv32 rfl T.u128 rfl (by omega)) ?_
        refine Wl.q rfl (Qy.indexAddrO (α := U32) T.sl65 rfl rfl (by assumption) (by omega)) ?_
        refine Wl.setO (z := _) 0 T.size128 rfl rfl rfl (by assumption) (by omega) rfl (fun ho1 => ?_)
        refine Wl.done ?_
        refine Ar.next ?_
        refine Wc.region rfl ?_
        refine Wl.q rfl (Qy.move rfl) ?_
        refine Wl.q rfl (Qy.shr32 rfl rfl (by omega)) ?_
        refine Wl.q rfl (Qy.and1 rfl rfl (by omega)) ?_
        refine Wl.q rfl (Qy.assign rfl) ?_
        refine Wl.done ?_
        refine Ar.outNormal ?_
        refine Ar.next ?_
        refine Wc.region rfl ?_
        refine Wl.q rfl (Qy.add rfl rfl (by omega)) ?_
        refine Wl.q rfl (Qy.move rfl) ?_
        refine Wl.done ?_
        have es : ((la[((i : Nat) : Int).toNat]?.getD default).v - (cy)) = ((la[((i : Nat) : Int).toNat]?.getD default).v - (cy)) := by omega
        have ec : ((la[((i : Nat) : Int).toNat]?.getD default).v - (cy)) / 4294967296 % 2 = 0 := by omega
        refine Ar.re 7 rfl (show _ = Value.int .u64 0 by rw [ec]) ?_
        refine Ar.reH 0 (Row 128 (r.set i (⟨((la[((i : Nat) : Int).toNat]?.getD default).v - (cy))⟩ : U32)) []) rfl (by rw [es, Int.toNat_natCast]) ?_
        refine Ar.re 6 rfl (show _ = Value.slice (some ⟨b1, 0, none⟩) (r.set i (⟨((la[((i : Nat) : Int).toNat]?.getD default).v - (cy))⟩ : U32)).length N by rw [List.length_set]) ?_
        refine Ar.again ((i + 1, 0, r.set i (⟨((la[((i : Nat) : Int).toNat]?.getD default).v - (cy))⟩ : U32))) ?_ ?_ rfl ⟨rfl, rfl, rfl, rfl, rfl, rfl, rfl, rfl, trivial⟩ ⟨rfl, trivial⟩
        · exact ⟨by omega, by rw [List.length_set]; exact hrN, lims_set hdr _ (by omega), by decide, by decide, sub_next (cy' := 0) (by omega) hv (by rw [← e1, z]; omega)⟩
        · show la.length - (i + 1) < la.length - i
          omega
  · have hii : i = la.length := by omega
    subst hii
    refine Wc.seq ?_
    refine Wc.region rfl ?_
    refine Wl.q rfl (Qy.lss rfl rfl) ?_
    refine Wl.done ?_
    refine Ar.next ?_
    refine Wc.seq ?_
    refine Wc.condN rfl (by first | assumption | omega) ?_
    refine Wc.exit ?_
    refine Ar.passExit ?_
    refine Ar.passExit ?_
    refine Ar.here ?_
    refine Ar.next ?_
    refine Wc.seq ?_
    refine Wc.region rfl ?_
    refine Wl.q rfl (Qy.move rfl) ?_
    refine Wl.freezeRow 0 rfl hor (fun G9 hle9 hA => ?_)
    refine Wl.call 1 rfl T.fn96 rfl (c96 _ _ _ _ (by assumption) (by omega) (by first | assumption | omega)) (tags_of trivial) (fun v1 G1 Ho1 hle1 hp => ?_)
    obtain ⟨ta1, tm1, rfl, hta1, hte1, htr1, htl1, rfl, rfl⟩ := hp
    refine Wl.q rfl (Qy.assign rfl) ?_
    refine Wl.q rfl (Qy.assign rfl) ?_
    refine Wl.done ?_
    refine Ar.next ?_
    refine Wc.ret ?_
    refine Ar.out2 (.inr rfl) (Ho := Hp.only _ []) rfl (.tmp rfl) (.tmp rfl) (Hp.sub_only _ _) ?_
    exact ⟨_, rfl, Nat32.of hta1 hte1 htr1 hdr (sub_end rfl h2 hle (by omega) hdr ⟨hc0, hc1⟩ hv) (by omega), rfl⟩
end Go.Proofs.YtbppmiimeccclaaDoor
set_option maxRecDepth 100000
set_option linter.unusedVariables false
namespace Go.Proofs.YtbppmiimeccclaaDoor
open Go Go.Sl
set_option maxHeartbeats 4000000
theorem lg_zeros (n k : Nat) : lg (List.replicate n (default : U32)) k = 0 := by
  unfold lg
  rw [Int.toNat_natCast, List.getElem?_replicate]
  split <;> rfl
attribute [local irreducible] valB pb cmpZ
theorem c92 (G : Imm) (a b : Option Addr) (ca cb : Nat) (la lb : List U32) (ha : Arr G a la) (hb : Arr G b lb) (da : Lims la) (db : Lims lb) (h1 : la.length ≤ 536870912) (h2 : lb.length ≤ 536870912) :
    Does Tryd.prog 92 [.slice a la.length ca, .slice b lb.length cb] G [] (fun v G' Ho => Nat32 G' v (valB la * valB lb) (la.length + lb.length) ∧ Ho = []) := by
  refine Does.enter Tryd.func92 rfl Tryd.ntmps92 rfl (fun w => ?_)
  refine Wc.seq ?_
  refine Wc.region rfl ?_
  refine Wl.q rfl (Qy.assign rfl) ?_
  refine Wl.done ?_
  refine Ar.next ?_
  refine Wc.seq ?_
  refine Wc.region rfl ?_
  refine Wl.q rfl (Qy.move rfl) ?_
  refine Wl.q rfl (Qy.len T.sl65 rfl) ?_
  refine Wl.q rfl (Qy.move rfl) ?_
  refine Wl.q rfl (Qy.len T.sl65 rfl) ?_
  refine Wl.q rfl (Qy.add rfl rfl (by omega)) ?_
  refine Wl.make (α := U32) 0 rfl T.sl65 T.el128 rfl rfl (by omega) (by omega) (fun b1 => ?_)
  refine Wl.q rfl (Qy.assign rfl) ?_
  refine Wl.done ?_
  refine Ar.next ?_
  refine Wc.seq ?_
  refine Wc.seq ?_
  refine Wc.region rfl ?_
  refine Wl.q rfl (Qy.move rfl) ?_
  refine Wl.q rfl (Qy.len T.sl65 rfl) ?_
  refine Wl.q rfl (Qy.move rfl) ?_
  refine Wl.done ?_
  refine Ar.next ?_
  refine Wc.block ?_
  obtain ⟨N, hN⟩ : ∃ N, N = la.length + lb.length := ⟨_, rfl⟩
  have hM : ((la.length : Int) + (lb.length : Int)).toNat = N := by omega
  rw [hM]
  have hown : ∀ r : List U32, r.length = N → OwnA (some ⟨b1, 0, none⟩) N r [] := fun r hr => .inr ⟨b1, rfl, by rw [hr]; rfl, by omega, by simp only [maxLen]; omega⟩
  refine Wc.re 5 rfl (show _ = Value.slice (some ⟨b1, 0, none⟩) (List.replicate N (default : U32)).length N by rw [List.length_replicate]) ?_
  refine Wc.loop (ι := Nat × List U32) (fun (i, r) => ([(19, .int .i64 (i : Int)), (5, .slice (some ⟨b1, 0, none⟩) r.length N), (18, Go.Value.int Go.IntKind.i64 (↑(List.length la) : Int)), (17, Go.Value.slice a (List.length la) ca), (4, Go.Value.slice Option.none 0 0), (1, Go.Value.slice b (List.length lb) cb)], [(0, some b1, Row 128 r [])])) (fun (i, r) => i ≤ la.length ∧ r.length = N ∧ Lims r ∧ valB r = valB (la.take i) * valB lb ∧ ∀ k, i + lb.length ≤ k → lg r k = 0) (fun (i, r) => la.length - i) ((0, List.replicate N (default : U32))) (⟨Nat.zero_le _, List.length_replicate, Lims.zeros N, by rw [List.take_zero, valB_nil, Int.zero_mul]; exact valB_replicate N, fun k _ => lg_zeros N k⟩) ⟨rfl, rfl, rfl, rfl, rfl, rfl, trivial⟩ ⟨rfl, trivial⟩ (fun ⟨i, r⟩ => fun (hk : i ≤ la.length ∧ r.length = N ∧ Lims r ∧ valB r = valB (la.take i) * valB lb ∧ ∀ k, i + lb.length ≤ k → lg r k = 0) => ?_)
  obtain ⟨hi, hrN, hdr, hv, hz⟩ := hk
  rcases Nat.lt_or_ge i la.length with hia | hia
  · have hxi : 0 ≤ (la[((i : Nat) : Int).toNat]?.getD default).v ∧ (la[((i : Nat) : Int).toNat]?.getD default).v < 4294967296 := lg_lt da hia
    refine Wc.seq ?_
    refine Wc.region rfl ?_
    refine Wl.q rfl (Qy.lss rfl rfl) ?_
    refine Wl.done ?_
    refine Ar.next ?_
    refine Wc.seq ?_
    refine Wc.condP rfl (by first | assumption | omega) ?_
    refine Wc.skip ?_
    refine Ar.next ?_
    refine Wc.seq ?_
    refine Wc.block ?_
    refine Wc.seq ?_
    refine Wc.region rfl ?_
    refine Wl.q rfl (Qy.move rfl) ?_
    refine Wl.q rfl (Qy.at (α := U32) T.sl65 rfl rfl (by assumption) (by omega)) ?_
    refine Wl.q rfl (Qy.loadG T.one128 rfl (Arr.cell (by assumption) (by omega) 0 rfl rfl)) ?_
    refine Wl.q rfl (Qy.assign rfl) ?_
    refine Wl.q rfl (Qy.assign rfl) ?_
    refine Wl.done ?_
    refine Ar.next ?_
    refine Wc.seq ?_
    refine Wc.region rfl ?_
    refine Wl.q rfl (Qy.assign rfl) ?_
    refine Wl.done ?_
    refine Ar.next ?_
    refine Wc.seq ?_
    refine Wc.seq ?_
    refine Wc.region rfl ?_
    refine Wl.q rfl (Qy.move rfl) ?_
    refine Wl.q rfl (Qy.len T.sl65 rfl) ?_
    refine Wl.q rfl (Qy.move rfl) ?_
    refine Wl.done ?_
    refine Ar.next ?_
    refine Wc.block ?_
    refine Wc.loop (ι := Nat × Int × List U32) (fun (j, c, s) => ([(26, .int .i64 (j : Int)), (8, .int .u64 c), (5, .slice (some ⟨b1, 0, none⟩) s.length N), (17, .slice a la.length ca), (18, .int .i64 (la.length : Int)), (25, Go.Value.int Go.IntKind.i64 (↑(List.length lb) : Int)), (24, Go.Value.slice b (List.length lb) cb), (7, Go.Value.int Go.IntKind.u32 (Go.Sl.U32.v (Option.getD la[Int.toNat (↑i : Int)]? Inhabited.default))), (6, Go.Value.int Go.IntKind.i64 (↑i : Int)), (19, Go.Value.int Go.IntKind.i64 (↑i : Int)), (4, Go.Value.slice Option.none 0 0), (1, Go.Value.slice b (List.length lb) cb)], [(0, some b1, Row 128 s [])])) (fun (j, c, s) => 0 ≤ c ∧ c ≤ 4294967295 ∧ s.length = N ∧ Lims s ∧ valB s + pb (i + j) * c = valB (la.take i) * valB lb + pb i * (lg la i * valB (lb.take j)) ∧ j ≤ lb.length ∧ ∀ k, i + lb.length ≤ k → lg s k = 0) (fun (j, c, s) => lb.length - j) ((0, 0, r)) (⟨by decide, by decide, hrN, hdr, by rw [Int.mul_zero, List.take_zero, valB_nil, Int.mul_zero, Int.mul_zero, Int.add_zero, Int.add_zero]; exact hv, Nat.zero_le _, hz⟩) ⟨rfl, rfl, rfl, rfl, rfl, rfl, rfl, rfl, rfl, rfl, rfl, rfl, trivial⟩ ⟨rfl, trivial⟩ (fun ⟨j, c, s⟩ => fun (hk : 0 ≤ c ∧ c ≤ 4294967295 ∧ s.length = N ∧ Lims s ∧ valB s + pb (i + j) * c = valB (la.take i) * valB lb + pb i * (lg la i * valB (lb.take j)) ∧ j ≤ lb.length ∧ ∀ k, i + lb.length ≤ k → lg s k = 0) => ?_)
    obtain ⟨hc0, hc1, hsN, hds, hvs, hjl, hzs⟩ := hk
    have hos := hown s hsN
    have ekk : ((i : Int) + (j : Int)).toNat = i + j := by omega
    rcases Nat.lt_or_ge j lb.length with hjb | hjb
    · have hyj : 0 ≤ (lb[((j : Nat) : Int).toNat]?.getD default).v ∧ (lb[((j : Nat) : Int).toNat]?.getD default).v < 4294967296 := lg_lt db hjb
      have hxy := bmul_small hxi hyj
      have hxy2 : 0 ≤ (la[((i : Nat) : Int).toNat]?.getD default).v * (lb[((j : Nat) : Int).toNat]?.getD default).v ∧ (la[((i : Nat) : Int).toNat]?.getD default).v * (lb[((j : Nat) : Int).toNat]?.getD default).v ≤ 18446744073709551615 := by omega
      have hsk : 0 ≤ (s[((i : Int) + (j : Int)).toNat]?.getD default).v ∧ (s[((i : Int) + (j : Int)).toNat]?.getD default).v < 4294967296 := hds.at (by omega)
      refine Wc.seq ?_
      refine Wc.region rfl ?_
      refine Wl.q rfl (Qy.lss rfl rfl) ?_
      refine Wl.done ?_
      refine Ar.next ?_
      refine Wc.seq ?_
      refine Wc.condP rfl (by first | assumption | omega) ?_
      refine Wc.skip ?_
      refine Ar.next ?_
      refine Wc.seq ?_
      refine Wc.block ?_
      refine Wc.seq ?_
      refine Wc.region rfl ?_
      refine Wl.q rfl (Qy.move rfl) ?_
      refine Wl.q rfl (Qy.at (α := U32) T.sl65 rfl rfl (by assumption) (by omega)) ?_
      refine Wl.q rfl (Qy.loadG T.one128 rfl (Arr.cell (by assumption) (by omega) 0 rfl rfl)) ?_
      refine Wl.q rfl (Qy.assign rfl) ?_
      refine Wl.q rfl (Qy.assign rfl) ?_
      refine Wl.done ?_
      refine Ar.next ?_
      refine Wc.seq ?_
      refine Wc.region rfl ?_
      refine Wl.q rfl (Qy.move rfl) ?_
      refine Wl.q rfl (Qy.move rfl) ?_
      refine Wl.q rfl (Qy.conv64 rfl T.u126 rfl (by omega)) ?_
      refine Wl.q rfl (Qy.move rfl) ?_
      refine Wl.q rfl (Qy.conv64 rfl T.u126 rfl (by omega)) ?_
      refine Wl.q rfl (Qy.umul64 rfl rfl (by first | assumption | omega)) ?_
      refine Wl.q rfl (Qy.move rfl) ?_
      refine Wl.q rfl (Qy.move rfl) ?_
      refine Wl.q rfl (Qy.move rfl) ?_
      refine Wl.q rfl (Qy.add rfl rfl (by omega)) ?_
      refine Wl.q rfl (Qy.indexAddrO (α := U32) T.sl65 rfl rfl (by assumption) (by omega)) ?_
      refine Wl.q rfl (Qy.loadO 0 0 T.one128 rfl rfl (by assumption) (by omega) rfl rfl) ?_
      refine Wl.q rfl (Qy.conv64 rfl T.u126 rfl (by omega)) ?_
      refine Wl.q rfl (Qy.uadd64 rfl rfl (by omega)) ?_
      refine Wl.q rfl (Qy.uadd64 rfl rfl (by omega)) ?_
      refine Wl.q rfl (Qy.assign rfl) ?_
      refine Wl.done ?_
      refine Ar.next ?_
      refine Wc.seq ?_
      refine Wc.region rfl ?_
      refine Wl.q rfl (Qy.move rfl) ?_
      refine Wl.q rfl (Qy.move rfl) ?_
      refine Wl.q rfl (Qy.move rfl) ?_
      refine Wl.q rfl (Qy.add rfl rfl (by omega)) ?_
      refine Wl.q rfl (Qy.move rfl) ?_
      refine Wl.q rfl (Qy.trunc32 rfl T.u128 rfl) ?_
      refine Wl.q rfl (Qy.indexAddrO (α := U32) T.sl65 rfl rfl (by assumption) (by omega)) ?_
      refine Wl.setO (z := _) 0 T.size128 rfl rfl rfl (by assumption) (by omega) rfl (fun ho1 => ?_)
      refine Wl.done ?_
      refine Ar.next ?_
      refine Wc.region rfl ?_
      refine Wl.q rfl (Qy.move rfl) ?_
      refine Wl.q rfl (Qy.shr32 rfl rfl (by omega)) ?_
      refine Wl.q rfl (Qy.assign rfl) ?_
      refine Wl.done ?_
      refine Ar.outNormal ?_
      refine Ar.next ?_
      refine Wc.region rfl ?_
      refine Wl.q rfl (Qy.add rfl rfl (by omega)) ?_
      refine Wl.q rfl (Qy.move rfl) ?_
      refine Wl.done ?_
      rw [ekk] at ⊢ hsk
      refine Ar.re 5 rfl (show _ = Value.slice (some ⟨b1, 0, none⟩) (s.set (i + j) (⟨(c + ((la[((i : Nat) : Int).toNat]?.getD default).v * (lb[((j : Nat) : Int).toNat]?.getD default).v + (s[i + j]?.getD default).v)) % 4294967296⟩ : U32)).length N by rw [List.length_set]) ?_
      refine Ar.again ((j + 1, (c + ((la[((i : Nat) : Int).toNat]?.getD default).v * (lb[((j : Nat) : Int).toNat]?.getD default).v + (s[i + j]?.getD default).v)) / 4294967296, s.set (i + j) (⟨(c + ((la[((i : Nat) : Int).toNat]?.getD default).v * (lb[((j : Nat) : Int).toNat]?.getD default).v + (s[i + j]?.getD default).v)) % 4294967296⟩ : U32))) ?_ ?_ rfl ⟨rfl, rfl, rfl, rfl, rfl, rfl, rfl, rfl, rfl, rfl, rfl, rfl, trivial⟩ ⟨rfl, trivial⟩
      · exact ⟨by omega, by omega, by rw [List.length_set]; exact hsN, lims_set hds _ (mod32 _), bmul_next (by omega) hvs (by simp only [lg, Int.toNat_natCast]), by omega, fun k hk => by rw [lg_set_ne (by omega)]; exact hzs k hk⟩
      · show lb.length - (j + 1) < lb.length - j
        omega
    · have hjj : j = lb.length := by omega
      subst hjj
      refine Wc.seq ?_
      refine Wc.region rfl ?_
      refine Wl.q rfl (Qy.lss rfl rfl) ?_
      refine Wl.done ?_
      refine Ar.next ?_
      refine Wc.seq ?_
      refine Wc.condN rfl (by first | assumption | omega) ?_
      refine Wc.exit ?_
      refine Ar.passExit ?_
      refine Ar.passExit ?_
      refine Ar.here ?_
      refine Ar.next ?_
      refine Wc.region rfl ?_
      refine Wl.q rfl (Qy.move rfl) ?_
      refine Wl.q rfl (Qy.move rfl) ?_
      refine Wl.q rfl (Qy.move rfl) ?_
      refine Wl.q rfl (Qy.len T.sl65 rfl) ?_
      refine Wl.q rfl (Qy.add rfl rfl (by omega)) ?_
      refine Wl.q rfl (Qy.move rfl) ?_
      refine Wl.q rfl (Qy.conv32 rfl T.u128 rfl (by omega)) ?_
      refine Wl.q rfl (Qy.indexAddrO (α := U32) T.sl65 rfl rfl (by assumption) (by omega)) ?_
      refine Wl.setO (z := _) 0 T.size128 rfl rfl rfl (by assumption) (by omega) rfl (fun ho1 => ?_)
      refine Wl.done ?_
      refine Ar.outNormal ?_
      refine Ar.next ?_
      refine Wc.region rfl ?_
      refine Wl.q rfl (Qy.add rfl rfl (by omega)) ?_
      refine Wl.q rfl (Qy.move rfl) ?_
      refine Wl.done ?_
      rw [ekk]
      refine Ar.re 5 rfl (show _ = Value.slice (some ⟨b1, 0, none⟩) (s.set (i + lb.length) (⟨c⟩ : U32)).length N by rw [List.length_set]) ?_
      refine Ar.again ((i + 1, s.set (i + lb.length) (⟨c⟩ : U32))) ?_ ?_ rfl ⟨rfl, rfl, rfl, rfl, rfl, rfl, trivial⟩ ⟨rfl, trivial⟩
      · exact ⟨by omega, by rw [List.length_set]; exact hsN, lims_set hds _ (by omega), bmul_end (by omega) (hzs _ (Nat.le_refl _)) hvs, fun k hk => by rw [lg_set_ne (by omega)]; exact hzs k (by omega)⟩
      · show la.length - (i + 1) < la.length - i
        omega
  · have hor := hown r hrN
    rw [take_all hia] at hv
    refine Wc.seq ?_
    refine Wc.region rfl ?_
    refine Wl.q rfl (Qy.lss rfl rfl) ?_
    refine Wl.done ?_
    refine Ar.next ?_
    refine Wc.seq ?_
    refine Wc.condN rfl (by first | assumption | omega) ?_
    refine Wc.exit ?_
    refine Ar.passExit ?_
    refine Ar.passExit ?_
    refine Ar.here ?_
    refine Ar.next ?_
    refine Wc.seq ?_
    refine Wc.region rfl ?_
    refine Wl.q rfl (Qy.move rfl) ?_
    refine Wl.freezeRow 0 rfl hor (fun G9 hle9 hA => ?_)
    refine Wl.call 1 rfl T.fn96 rfl (c96 _ _ _ _ (by assumption) (by omega) (by first | assumption | omega)) (tags_of trivial) (fun v1 G1 Ho1 hle1 hp => ?_)
    obtain ⟨ta1, tm1, rfl, hta1, hte1, htr1, htl1, rfl, rfl⟩ := hp
    refine Wl.q rfl (Qy.assign rfl) ?_
    refine Wl.done ?_
    refine Ar.next ?_
    refine Wc.ret ?_
    refine Ar.out1 (.inr rfl) (Ho := Hp.only _ []) rfl (.tmp rfl) (Hp.sub_only _ _) ?_
    exact ⟨Nat32.of hta1 hte1 htr1 hdr hv (by omega), rfl⟩
theorem c110 (G : Imm) (a : Option Addr) (ca : Nat) (la : List U32) (B : Int) (ha : Arr G a la) (da : Lims la) (h1 : la.length ≤ 1073741824) (hB : 0 < B) (hB2 : B < 4294967296) :
    Does Tryd.prog 110 [.slice a la.length ca, .int .u32 B] G [] (fun v G' Ho => ∃ r q m, v = .tuple #[r, .int .u32 m, .int .i64 0] ∧ Nat32 G' r q la.length ∧ valB la = q * B + m ∧ 0 ≤ m ∧ m < B ∧ Ho = []) := by
  refine Does.enter Tryd.func110 rfl Tryd.ntmps110 rfl (fun w => ?_)
  refine Wc.seq ?_
  refine Wc.region rfl ?_
  refine Wl.q rfl (Qy.assign rfl) ?_
  refine Wl.q rfl (Qy.assign rfl) ?_
  refine Wl.q rfl (Qy.assign rfl) ?_
  refine Wl.done ?_
  refine Ar.next ?_
  refine Wc.seq ?_
  refine Wc.seq ?_
  refine Wc.region rfl ?_
  refine Wl.q rfl (Qy.move rfl) ?_
  refine Wl.q rfl (Qy.eql rfl rfl) ?_
  refine Wl.done ?_
  refine Ar.next ?_
  refine Wc.condN rfl (by first | assumption | omega) ?_
  refine Wc.skip ?_
  refine Ar.next ?_
  refine Wc.seq ?_
  refine Wc.region rfl ?_
  refine Wl.q rfl (Qy.move rfl) ?_
  refine Wl.q rfl (Qy.len T.sl65 rfl) ?_
  refine Wl.make (α := U32) 0 rfl T.sl65 T.el128 rfl rfl (by omega) (by omega) (fun b1 => ?_)
  refine Wl.q rfl (Qy.assign rfl) ?_
  refine Wl.done ?_
  refine Ar.next ?_
  refine Wc.seq ?_
  refine Wc.region rfl ?_
  refine Wl.q rfl (Qy.assign rfl) ?_
  refine Wl.done ?_
  refine Ar.next ?_
  refine Wc.seq ?_
  refine Wc.seq ?_
  refine Wc.region rfl ?_
  refine Wl.q rfl (Qy.move rfl) ?_
  refine Wl.q rfl (Qy.len T.sl65 rfl) ?_
  refine Wl.q rfl (Qy.sub rfl rfl (by omega)) ?_
  refine Wl.q rfl (Qy.assign rfl) ?_
  refine Wl.done ?_
  refine Ar.next ?_
  refine Wc.block ?_
  obtain ⟨N, hN⟩ : ∃ N, N = la.length := ⟨_, rfl⟩
  have hM : (la.length : Int).toNat = N := by omega
  rw [hM]
  have hown : ∀ r : List U32, r.length = N → OwnA (some ⟨b1, 0, none⟩) N r [] := fun r hr => .inr ⟨b1, rfl, by rw [hr]; rfl, by omega, by simp only [maxLen]; omega⟩
  refine Wc.re 7 rfl (show _ = Value.slice (some ⟨b1, 0, none⟩) (List.replicate N (default : U32)).length N by rw [List.length_replicate]) ?_
  refine Wc.loop (ι := Nat × Int × List U32) (fun (k, r, q) => ([(9, .int .i64 ((k : Int) - 1)), (8, .int .u64 r), (7, .slice (some ⟨b1, 0, none⟩) q.length N), (6, Go.Value.int Go.IntKind.i64 0), (5, Go.Value.int Go.IntKind.u32 0), (4, Go.Value.slice Option.none 0 0), (0, Go.Value.slice a (List.length la) ca), (1, Go.Value.int Go.IntKind.u32 B)], [(0, some b1, Row 128 q [])])) (fun (k, r, q) => k ≤ la.length ∧ q.length = N ∧ Lims q ∧ 0 ≤ r ∧ r < B ∧ valB (la.drop k) = valB (q.drop k) * B + r) (fun (k, r, q) => k) ((la.length, 0, List.replicate N (default : U32))) (⟨Nat.le_refl _, List.length_replicate, Lims.zeros N, by decide, hB, by rw [List.drop_eq_nil_of_le (Nat.le_refl _), List.drop_eq_nil_of_le (by rw [List.length_replicate]; omega), valB_nil, Int.zero_mul]; rfl⟩) ⟨rfl, rfl, rfl, rfl, rfl, rfl, rfl, rfl, trivial⟩ ⟨rfl, trivial⟩ (fun ⟨k, r, q⟩ => fun (hk : k ≤ la.length ∧ q.length = N ∧ Lims q ∧ 0 ≤ r ∧ r < B ∧ valB (la.drop k) = valB (q.drop k) * B + r) => ?_)
  obtain ⟨hk1, hqN, hdq, hr0, hr1, hv⟩ := hk
  have hoq := hown q hqN
  rcases Nat.eq_zero_or_pos k with rfl | hpos
  · rw [List.drop_zero, List.drop_zero] at hv
    refine Wc.seq ?_
    refine Wc.seq ?_
    refine Wc.region rfl ?_
    refine Wl.q rfl (Qy.move rfl) ?_
    refine Wl.q rfl (Qy.geq rfl rfl) ?_
    refine Wl.done ?_
    refine Ar.next ?_
    refine Wc.condN rfl (by first | assumption | omega) ?_
    refine Wc.exit ?_
    refine Ar.passExit ?_
    refine Ar.passExit ?_
    refine Ar.here ?_
    refine Ar.next ?_
    refine Wc.seq ?_
    refine Wc.region rfl ?_
    refine Wl.q rfl (Qy.move rfl) ?_
    refine Wl.freezeRow 0 rfl hoq (fun G9 hle9 hA => ?_)
    refine Wl.call 1 rfl T.fn96 rfl (c96 _ _ _ _ (by assumption) (by omega) (by first | assumption | omega)) (tags_of trivial) (fun v1 G1 Ho1 hle1 hp => ?_)
    obtain ⟨ta1, tm1, rfl, hta1, hte1, htr1, htl1, rfl, rfl⟩ := hp
    refine Wl.q rfl (Qy.move rfl) ?_
    refine Wl.q rfl (Qy.conv32 rfl T.u128 rfl (by omega)) ?_
    refine Wl.q rfl (Qy.assign rfl) ?_
    refine Wl.q rfl (Qy.assign rfl) ?_
    refine Wl.q rfl (Qy.assign rfl) ?_
    refine Wl.done ?_
    refine Ar.next ?_
    refine Wc.ret ?_
    refine Ar.out3 (.inr rfl) (Ho := Hp.only _ []) rfl (.tmp rfl) (.tmp rfl) (.tmp rfl) (Hp.sub_only _ _) ?_
    exact ⟨_, _, _, rfl, Nat32.of hta1 hte1 htr1 hdq rfl (by omega), hv, hr0, hr1, rfl⟩
  · obtain ⟨i, rfl⟩ : ∃ i, k = i + 1 := ⟨k - 1, by omega⟩
    have hai := lg_lt da (show i < la.length by omega)
    have ei : (((i + 1 : Nat) : Int) - 1).toNat = i := by omega
    have eA : (la[(((i + 1 : Nat) : Int) - 1).toNat]?.getD default).v = lg la i := by unfold lg; rw [ei, Int.toNat_natCast]
    have hsl := bshort_lt ⟨hr0, hr1⟩ hai
    have hsl' : 0 ≤ (r * 4294967296 + (la[(((i + 1 : Nat) : Int) - 1).toNat]?.getD default).v) / B ∧ (r * 4294967296 + (la[(((i + 1 : Nat) : Int) - 1).toNat]?.getD default).v) / B ≤ 4294967295 := by
      rw [eA]
      exact ⟨hsl.1, by have := hsl.2; omega⟩
    have hrm : 0 ≤ (r * 4294967296 + lg la i) % B ∧ (r * 4294967296 + lg la i) % B < B := ⟨Int.emod_nonneg _ (by omega), Int.emod_lt_of_pos _ hB⟩
    refine Wc.seq ?_
    refine Wc.seq ?_
    refine Wc.region rfl ?_
    refine Wl.q rfl (Qy.move rfl) ?_
    refine Wl.q rfl (Qy.geq rfl rfl) ?_
    refine Wl.done ?_
    refine Ar.next ?_
    refine Wc.condP rfl (by first | assumption | omega) ?_
    refine Wc.skip ?_
    refine Ar.next ?_
    refine Wc.seq ?_
    refine Wc.block ?_
    refine Wc.seq ?_
    refine Wc.region rfl ?_
    refine Wl.q rfl (Qy.move rfl) ?_
    refine Wl.q rfl (Qy.shl32 rfl rfl (by omega)) ?_
    refine Wl.q rfl (Qy.move rfl) ?_
    refine Wl.q rfl (Qy.move rfl) ?_
    refine Wl.q rfl (Qy.at (α := U32) T.sl65 rfl rfl (by assumption) (by omega)) ?_
    refine Wl.q rfl (Qy.loadG T.one128 rfl (Arr.cell (by assumption) (by omega) 0 rfl rfl)) ?_
    refine Wl.q rfl (Qy.conv64 rfl T.u126 rfl (by omega)) ?_
    refine Wl.q rfl (Qy.orLow rfl rfl (by omega) (by omega)) ?_
    refine Wl.q rfl (Qy.assign rfl) ?_
    refine Wl.done ?_
    refine Ar.next ?_
    refine Wc.seq ?_
    refine Wc.region rfl ?_
    refine Wl.q rfl (Qy.move rfl) ?_
    refine Wl.q rfl (Qy.move rfl) ?_
    refine Wl.q rfl (Qy.move rfl) ?_
    refine Wl.q rfl (Qy.move rfl) ?_
    refine Wl.q rfl (Qy.conv64 rfl T.u126 rfl (by omega)) ?_
    refine Wl.q rfl (Qy.uquo64 rfl rfl (by omega)) ?_
    refine Wl.q rfl (Qy.conv32 rfl T.u128 rfl (by omega)) ?_
    refine Wl.q rfl (Qy.indexAddrO (α := U32) T.sl65 rfl rfl (by assumption) (by omega)) ?_
    refine Wl.setO (z := _) 0 T.size128 rfl rfl rfl (by assumption) (by omega) rfl (fun ho1 => ?_)
    refine Wl.done ?_
    refine Ar.next ?_
    refine Wc.region rfl ?_
    refine Wl.q rfl (Qy.move rfl) ?_
    refine Wl.q rfl (Qy.move rfl) ?_
    refine Wl.q rfl (Qy.conv64 rfl T.u126 rfl (by omega)) ?_
    refine Wl.q rfl (Qy.urem rfl rfl (by omega)) ?_
    refine Wl.q rfl (Qy.assign rfl) ?_
    refine Wl.done ?_
    refine Ar.outNormal ?_
    refine Ar.next ?_
    refine Wc.region rfl ?_
    refine Wl.q rfl (Qy.move rfl) ?_
    refine Wl.q rfl (Qy.sub rfl rfl (by omega)) ?_
    refine Wl.q rfl (Qy.assign rfl) ?_
    refine Wl.done ?_
    rw [eA]
    refine Ar.re 9 rfl (show _ = Value.int .i64 ((i : Int) - 1) by congr 1; omega) ?_
    refine Ar.reH 0 (Row 128 (q.set i ⟨(r * 4294967296 + lg la i) / B⟩) []) rfl (by rw [ei]) ?_
    refine Ar.re 7 rfl (show _ = Value.slice (some ⟨b1, 0, none⟩) (q.set i ⟨(r * 4294967296 + lg la i) / B⟩).length N by rw [List.length_set]) ?_
    refine Ar.again ((i, (r * 4294967296 + lg la i) % B, q.set i ⟨(r * 4294967296 + lg la i) / B⟩)) ?_ ?_ rfl ⟨rfl, rfl, rfl, rfl, rfl, rfl, rfl, rfl, trivial⟩ ⟨rfl, trivial⟩
    · exact ⟨by omega, by rw [List.length_set]; exact hqN, lims_set hdq _ hsl, hrm.1, hrm.2, bshort_next (by omega) (by omega) hv⟩
    · show i < i + 1
      omega
end Go.Proofs.YtbppmiimeccclaaDoor
set_option maxRecDepth 100000
set_option linter.unusedVariables false
namespace Go.Proofs.YtbppmiimeccclaaDoor
open Go Go.Sl
set_option maxHeartbeats 4000000
theorem lg_drop {r s : List U32} {i : Nat} (h : s.drop i = r.drop i) : lg s i = lg r i := by
  have e : s[i]? = r[i]? := by
    have := congrArg (·[0]?) h
    simpa [List.getElem?_drop] using this
  unfold lg; rw [Int.toNat_natCast, e]
theorem bdrop_next {r s : List U32} {i : Nat} (h : s.drop i = r.drop i) (d : U32) : (s.set i d).drop (i + 1) = r.drop (i + 1) := by
  rw [List.drop_set_of_lt (by omega), ← List.drop_drop, ← List.drop_drop, h]
attribute [local irreducible] valB pb cmpZ
theorem c120 (G : Imm) (b : Nat) (p u q : List U32) (junk : List Value) (cw : Nat) (v : Option Addr) (cv : Nat) (lv : List U32) (t : Int) (hv : Arr G v lv) (du : Lims u) (dv : Lims lv) (h1 : u.length ≤ 1073741824) (h2 : lv.length < u.length) (ht : 0 ≤ t ∧ t < 4294967296) :
    Does Tryd.prog 120 [.slice (some ⟨b, p.length, none⟩) u.length cw, .slice v lv.length cv, .int .u64 t] G [(0, some b, Row 128 (p ++ (u ++ q)) junk)] (fun r G' Ho => ∃ (w : List U32) (o : Int), r = .bool (decide (0 < o)) ∧ Ho = [(0, some b, Row 128 (p ++ (w ++ q)) junk)] ∧ G' = G ∧ (o = 0 ∨ o = 1) ∧ w.length = u.length ∧ Lims w ∧ valB u - t * valB lv = valB w - pb u.length * o) := by
  refine Does.enter Tryd.func120 rfl Tryd.ntmps120 rfl (fun w => ?_)
  refine Wc.seq ?_
  refine Wc.region rfl ?_
  refine Wl.q rfl (Qy.assign rfl) ?_
  refine Wl.done ?_
  refine Ar.next ?_
  refine Wc.seq ?_
  refine Wc.region rfl ?_
  refine Wl.q rfl (Qy.assign rfl) ?_
  refine Wl.q rfl (Qy.assign rfl) ?_
  refine Wl.done ?_
  refine Ar.next ?_
  refine Wc.seq ?_
  refine Wc.seq ?_
  refine Wc.region rfl ?_
  refine Wl.q rfl (Qy.move rfl) ?_
  refine Wl.q rfl (Qy.len T.sl65 rfl) ?_
  refine Wl.q rfl (Qy.move rfl) ?_
  refine Wl.done ?_
  refine Ar.next ?_
  refine Wc.block ?_
  refine Wc.loop (ι := Nat × Int × Int × List U32) (fun (i, c, o, w) => ([(13, .int .i64 (i : Int)), (7, .int .u64 c), (8, .int .u64 o), (12, Go.Value.int Go.IntKind.i64 (↑(List.length u) : Int)), (6, Go.Value.bool Bool.false), (0, Go.Value.slice (Option.some (Go.Addr.mk b (List.length p) Option.none)) (List.length u) cw), (1, Go.Value.slice v (List.length lv) cv), (2, Go.Value.int Go.IntKind.u64 t)], [(0, some b, Row 128 (p ++ (w ++ q)) junk)])) (fun (i, c, o, w) => i ≤ u.length ∧ w.length = u.length ∧ Lims w ∧ 0 ≤ c ∧ c < 4294967296 ∧ 0 ≤ o ∧ o ≤ 1 ∧ (lv.length < i → c = 0) ∧ w.drop i = u.drop i ∧ valB (u.take i) - t * valB (lv.take i) = valB (w.take i) - pb i * (o + c)) (fun (i, c, o, w) => u.length - i) ((0, 0, 0, u)) (⟨Nat.zero_le _, rfl, du, by decide, by decide, by decide, by decide, fun _ => rfl, rfl, by rw [List.take_zero, List.take_zero, valB_nil, Int.mul_zero, Int.add_zero, Int.mul_zero]⟩) ⟨rfl, rfl, rfl, rfl, rfl, rfl, rfl, rfl, trivial⟩ ⟨rfl, trivial⟩ (fun ⟨i, c, o, w⟩ => fun (hk : i ≤ u.length ∧ w.length = u.length ∧ Lims w ∧ 0 ≤ c ∧ c < 4294967296 ∧ 0 ≤ o ∧ o ≤ 1 ∧ (lv.length < i → c = 0) ∧ w.drop i = u.drop i ∧ valB (u.take i) - t * valB (lv.take i) = valB (w.take i) - pb i * (o + c)) => ?_)
  obtain ⟨hi, hwn, hdw, hc0, hc1, ho0, ho1, hcz, hdrop, hval⟩ := hk
  rcases Nat.lt_or_ge i u.length with hia | hia
  · have hx : 0 ≤ (w[((i : Nat) : Int).toNat]?.getD default).v ∧ (w[((i : Nat) : Int).toNat]?.getD default).v < 4294967296 := lg_lt hdw (by omega)
    have ex : (w[((i : Nat) : Int).toNat]?.getD default).v = lg u i := lg_drop hdrop
    rcases Nat.lt_or_ge i lv.length with hib | hib
    · have hy : 0 ≤ (lv[((i : Nat) : Int).toNat]?.getD default).v ∧ (lv[((i : Nat) : Int).toNat]?.getD default).v < 4294967296 := lg_lt dv hib
      have hca := less_carry ⟨hc0, hc1⟩ hy ht
      have hm : 0 ≤ (lv[((i : Nat) : Int).toNat]?.getD default).v * t ∧ (lv[((i : Nat) : Int).toNat]?.getD default).v * t ≤ 18446744073709551615 := by omega
      by_cases hlt : (w[((i : Nat) : Int).toNat]?.getD default).v < (c + (lv[((i : Nat) : Int).toNat]?.getD default).v * t) % 4294967296
      · refine Wc.seq ?_
        refine Wc.region rfl ?_
        refine Wl.q rfl (Qy.lss rfl rfl) ?_
        refine Wl.done ?_
        refine Ar.next ?_
        refine Wc.seq ?_
        refine Wc.condP rfl (by first | assumption | omega) ?_
        refine Wc.skip ?_
        refine Ar.next ?_
        refine Wc.seq ?_
        refine Wc.block ?_
        refine Wc.seq ?_
        refine Wc.region rfl ?_
        refine Wl.q rfl (Qy.move rfl) ?_
        refine Wl.q rfl (Qy.assign rfl) ?_
        refine Wl.done ?_
        refine Ar.next ?_
        refine Wc.seq ?_
        refine Wc.seq ?_
        refine Wc.region rfl ?_
        refine Wl.q rfl (Qy.move rfl) ?_
        refine Wl.q rfl (Qy.move rfl) ?_
        refine Wl.q rfl (Qy.len T.sl65 rfl) ?_
        refine Wl.q rfl (Qy.lss rfl rfl) ?_
        refine Wl.done ?_
        refine Ar.next ?_
        refine Wc.condP rfl (by first | assumption | omega) ?_
        refine Wc.region rfl ?_
        refine Wl.q rfl (Qy.move rfl) ?_
        refine Wl.q rfl (Qy.move rfl) ?_
        refine Wl.q rfl (Qy.move rfl) ?_
        refine Wl.q rfl (Qy.at (α := U32) T.sl65 rfl rfl (by assumption) (by omega)) ?_
        refine Wl.q rfl (Qy.loadG T.one128 rfl (Arr.cell (by assumption) (by omega) 0 rfl rfl)) ?_
        refine Wl.q rfl (Qy.conv64 rfl T.u126 rfl (by omega)) ?_
        refine Wl.q rfl (Qy.move rfl) ?_
        refine Wl.q rfl (Qy.umul64 rfl rfl (by first | assumption | omega)) ?_
        refine Wl.q rfl (Qy.uadd64 rfl rfl (by omega)) ?_
        refine Wl.q rfl (Qy.assign rfl) ?_
        refine Wl.done ?_
        refine Ar.next ?_
        refine Wc.seq ?_
        refine Wc.region rfl ?_
        refine Wl.q rfl (Qy.move rfl) ?_
        refine Wl.q rfl (Qy.move rfl) ?_
        refine Wl.q rfl (Qy.indexAddr T.sl65 rfl rfl (by omega)) ?_
        refine Wl.q rfl (Qy.loadW 0 T.one128 rfl rfl (by omega)) ?_
        refine Wl.q rfl (Qy.conv64 rfl T.u126 rfl (by omega)) ?_
        refine Wl.q rfl (Qy.move rfl) ?_
        refine Wl.q rfl (Qy.andLow rfl rfl (by omega)) ?_
        refine Wl.q rfl (Qy.usubN rfl rfl (by omega)) ?_
        refine Wl.q rfl (Qy.move rfl) ?_
        refine Wl.q rfl (Qy.usub64 rfl rfl (by omega)) ?_
        refine Wl.q rfl (Qy.assign rfl) ?_
        refine Wl.done ?_
        refine Ar.next ?_
        refine Wc.seq ?_
        refine Wc.region rfl ?_
        refine Wl.q rfl (Qy.move rfl) ?_
        refine Wl.q rfl (Qy.shr32 rfl rfl (by omega)) ?_
        refine Wl.q rfl (Qy.assign rfl) ?_
        refine Wl.done ?_
        refine Ar.next ?_
        refine Wc.seq ?_
        refine Wc.region rfl ?_
        refine Wl.q rfl (Qy.move rfl) ?_
        refine Wl.q rfl (Qy.move rfl) ?_
        refine Wl.q rfl (Qy.move rfl) ?_
        refine Wl.q rfl (Qy.trunc32 rfl T.u128 rfl) ?_
        refine Wl.q rfl (Qy.indexAddr T.sl65 rfl rfl (by omega)) ?_
        refine Wl.setW 0 T.size128 rfl rfl rfl (by omega) ?_
        refine Wl.done ?_
        refine Ar.next ?_
        refine Wc.region rfl ?_
        refine Wl.q rfl (Qy.move rfl) ?_
        refine Wl.q rfl (Qy.shr32 rfl rfl (by omega)) ?_
        refine Wl.q rfl (Qy.and1 rfl rfl (by omega)) ?_
        refine Wl.q rfl (Qy.assign rfl) ?_
        refine Wl.done ?_
        refine Ar.outNormal ?_
        refine Ar.next ?_
        refine Wc.region rfl ?_
        refine Wl.q rfl (Qy.add rfl rfl (by omega)) ?_
        refine Wl.q rfl (Qy.move rfl) ?_
        refine Wl.done ?_
        have es : ((w[((i : Nat) : Int).toNat]?.getD default).v - (c + (lv[((i : Nat) : Int).toNat]?.getD default).v * t) % 4294967296 + 18446744073709551616 - o) % 4294967296 = ((w[((i : Nat) : Int).toNat]?.getD default).v - (c + (lv[((i : Nat) : Int).toNat]?.getD default).v * t) % 4294967296 - o + 4294967296 * 1) := by omega
        have ec : ((w[((i : Nat) : Int).toNat]?.getD default).v - (c + (lv[((i : Nat) : Int).toNat]?.getD default).v * t) % 4294967296 + 18446744073709551616 - o) / 4294967296 % 2 = 1 := by omega
        refine Ar.re 8 rfl (show _ = Value.int .u64 1 by rw [ec]) ?_
        refine Ar.reH 0 (Row 128 (p ++ (w.set i (⟨((w[((i : Nat) : Int).toNat]?.getD default).v - (c + (lv[((i : Nat) : Int).toNat]?.getD default).v * t) % 4294967296 - o + 4294967296 * 1)⟩ : U32) ++ q)) junk) rfl (by rw [← es, Int.toNat_natCast]) ?_
        refine Ar.again ((i + 1, (c + (lv[((i : Nat) : Int).toNat]?.getD default).v * t) / 4294967296, 1, w.set i (⟨((w[((i : Nat) : Int).toNat]?.getD default).v - (c + (lv[((i : Nat) : Int).toNat]?.getD default).v * t) % 4294967296 - o + 4294967296 * 1)⟩ : U32))) ?_ ?_ rfl ⟨rfl, rfl, rfl, rfl, rfl, rfl, rfl, rfl, trivial⟩ ⟨rfl, trivial⟩
        · exact ⟨by omega, by rw [List.length_set]; exact hwn, lims_set hdw _ (by omega), by omega, by omega, by decide, by decide, by omega, bdrop_next hdrop _, less_next (c' := (c + (lv[((i : Nat) : Int).toNat]?.getD default).v * t)) (b := o) (b' := 1) (by omega) hval (by rfl) (by rw [← ex])⟩
        · show u.length - (i + 1) < u.length - i
          omega
      · by_cases hlt2 : (w[((i : Nat) : Int).toNat]?.getD default).v - (c + (lv[((i : Nat) : Int).toNat]?.getD default).v * t) % 4294967296 < o
        · refine Wc.seq ?_
          refine Wc.region rfl ?_
          refine Wl.q rfl (Qy.lss rfl rfl) ?_
          refine Wl.done ?_
          refine Ar.next ?_
          refine Wc.seq ?_
          refine Wc.condP rfl (by first | assumption | omega) ?_
          refine Wc.skip ?_
          refine Ar.next ?_
          refine Wc.seq ?_
          refine Wc.block ?_
          refine Wc.seq ?_
          refine Wc.region rfl ?_
          refine Wl.q rfl (Qy.move rfl) ?_
          refine Wl.q rfl (Qy.assign rfl) ?_
          refine Wl.done ?_
          refine Ar.next ?_
          refine Wc.seq ?_
          refine Wc.seq ?_
          refine Wc.region rfl ?_
          refine Wl.q rfl (Qy.move rfl) ?_
          refine Wl.q rfl (Qy.move rfl) ?_
          refine Wl.q rfl (Qy.len T.sl65 rfl) ?_
          refine Wl.q rfl (Qy.lss rfl rfl) ?_
          refine Wl.done ?_
          refine Ar.next ?_
          refine Wc.condP rfl (by first | assumption | omega) ?_
          refine Wc.region rfl ?_
          refine Wl.q rfl (Qy.move rfl) ?_
          refine Wl.q rfl (Qy.move rfl) ?_
          refine Wl.q rfl (Qy.move rfl) ?_
          refine Wl.q rfl (Qy.at (α := U32) T.sl65 rfl rfl (by assumption) (by omega)) ?_
          refine Wl.q rfl (Qy.loadG T.one128 rfl (Arr.cell (by assumption) (by omega) 0 rfl rfl)) ?_
          refine Wl.q rfl (Qy.conv64 rfl T.u126 rfl (by omega)) ?_
          refine Wl.q rfl (Qy.move rfl) ?_
          refine Wl.q rfl (Qy.umul64 rfl rfl (by first | assumption | omega)) ?_
          refine Wl.q rfl (Qy.uadd64 rfl rfl (by omega)) ?_
          refine Wl.q rfl (Qy.assign rfl) ?_
          refine Wl.done ?_
          refine Ar.next ?_
          refine Wc.seq ?_
          refine Wc.region rfl ?_
          refine Wl.q rfl (Qy.move rfl) ?_
          refine Wl.q rfl (Qy.move rfl) ?_
          refine Wl.q rfl (Qy.indexAddr T.sl65 rfl rfl (by omega)) ?_
          refine Wl.q rfl (Qy.loadW 0 T.one128 rfl rfl (by omega)) ?_
          refine Wl.q rfl (Qy.conv64 rfl T.u126 rfl (by omega)) ?_
          refine Wl.q rfl (Qy.move rfl) ?_
          refine Wl.q rfl (Qy.andLow rfl rfl (by omega)) ?_
          refine Wl.q rfl (Qy.usub64 rfl rfl (by omega)) ?_
          refine Wl.q rfl (Qy.move rfl) ?_
          refine Wl.q rfl (Qy.usubN rfl rfl (by omega)) ?_
          refine Wl.q rfl (Qy.assign rfl) ?_
          refine Wl.done ?_
          refine Ar.next ?_
          refine Wc.seq ?_
          refine Wc.region rfl ?_
          refine Wl.q rfl (Qy.move rfl) ?_
          refine Wl.q rfl (Qy.shr32 rfl rfl (by omega)) ?_
          refine Wl.q rfl (Qy.assign rfl) ?_
          refine Wl.done ?_
          refine Ar.next ?_
          refine Wc.seq ?_
          refine Wc.region rfl ?_
          refine Wl.q rfl (Qy.move rfl) ?_
          refine Wl.q rfl (Qy.move rfl) ?_
          refine Wl.q rfl (Qy.move rfl) ?_
          refine Wl.q rfl (Qy.trunc32 rfl T.u128 rfl) ?_
          refine Wl.q rfl (Qy.indexAddr T.sl65 rfl rfl (by omega)) ?_
          refine Wl.setW 0 T.size128 rfl rfl rfl (by omega) ?_
          refine Wl.done ?_
          refine Ar.next ?_
          refine Wc.region rfl ?_
          refine Wl.q rfl (Qy.move rfl) ?_
          refine Wl.q rfl (Qy.shr32 rfl rfl (by omega)) ?_
          refine Wl.q rfl (Qy.and1 rfl rfl (by omega)) ?_
          refine Wl.q rfl (Qy.assign rfl) ?_
          refine Wl.done ?_
          refine Ar.outNormal ?_
          refine Ar.next ?_
          refine Wc.region rfl ?_
          refine Wl.q rfl (Qy.add rfl rfl (by omega)) ?_
          refine Wl.q rfl (Qy.move rfl) ?_
          refine Wl.done ?_
          have es : ((w[((i : Nat) : Int).toNat]?.getD default).v - (c + (lv[((i : Nat) : Int).toNat]?.getD default).v * t) % 4294967296 - o + 18446744073709551616) % 4294967296 = ((w[((i : Nat) : Int).toNat]?.getD default).v - (c + (lv[((i : Nat) : Int).toNat]?.getD default).v * t) % 4294967296 - o + 4294967296 * 1) := by omega
          have ec : ((w[((i : Nat) : Int).toNat]?.getD default).v - (c + (lv[((i : Nat) : Int).toNat]?.getD default).v * t) % 4294967296 - o + 18446744073709551616) / 4294967296 % 2 = 1 := by omega
          refine Ar.re 8 rfl (show _ = Value.int .u64 1 by rw [ec]) ?_
          refine Ar.reH 0 (Row 128 (p ++ (w.set i (⟨((w[((i : Nat) : Int).toNat]?.getD default).v - (c + (lv[((i : Nat) : Int).toNat]?.getD default).v * t) % 4294967296 - o + 4294967296 * 1)⟩ : U32) ++ q)) junk) rfl (by rw [← es, Int.toNat_natCast]) ?_
          refine Ar.again ((i + 1, (c + (lv[((i : Nat) : Int).toNat]?.getD default).v * t) / 4294967296, 1, w.set i (⟨((w[((i : Nat) : Int).toNat]?.getD default).v - (c + (lv[((i : Nat) : Int).toNat]?.getD default).v * t) % 4294967296 - o + 4294967296 * 1)⟩ : U32))) ?_ ?_ rfl ⟨rfl, rfl, rfl, rfl, rfl, rfl, rfl, rfl, trivial⟩ ⟨rfl, trivial⟩
          · exact ⟨by omega, by rw [List.length_set]; exact hwn, lims_set hdw _ (by omega), by omega, by omega, by decide, by decide, by omega, bdrop_next hdrop _, less_next (c' := (c + (lv[((i : Nat) : Int).toNat]?.getD default).v * t)) (b := o) (b' := 1) (by omega) hval (by rfl) (by rw [← ex])⟩
          · show u.length - (i + 1) < u.length - i
            omega
        · refine Wc.seq ?_
          refine Wc.region rfl ?_
          refine Wl.q rfl (Qy.lss rfl rfl) ?_
          refine Wl.done ?_
          refine Ar.next ?_
          refine Wc.seq ?_
          refine Wc.condP rfl (by first | assumption | omega) ?_
          refine Wc.skip ?_
          refine Ar.next ?_
          refine Wc.seq ?_
          refine Wc.block ?_
          refine Wc.seq ?_
          refine Wc.region rfl ?_
          refine Wl.q rfl (Qy.move rfl) ?_
          refine Wl.q rfl (Qy.assign rfl) ?_
          refine Wl.done ?_
          refine Ar.next ?_
          refine Wc.seq ?_
          refine Wc.seq ?_
          refine Wc.region rfl ?_
          refine Wl.q rfl (Qy.move rfl) ?_
          refine Wl.q rfl (Qy.move rfl) ?_
          refine Wl.q rfl (Qy.len T.sl65 rfl) ?_
          refine Wl.q rfl (Qy.lss rfl rfl) ?_
          refine Wl.done ?_
          refine Ar.next ?_
          refine Wc.condP rfl (by first | assumption | omega) ?_
          refine Wc.region rfl ?_
          refine Wl.q rfl (Qy.move rfl) ?_
          refine Wl.q rfl (Qy.move rfl) ?_
          refine Wl.q rfl (Qy.move rfl) ?_
          refine Wl.q rfl (Qy.at (α := U32) T.sl65 rfl rfl (by assumption) (by omega)) ?_
          refine Wl.q rfl (Qy.loadG T.one128 rfl (Arr.cell (by assumption) (by omega) 0 rfl rfl)) ?_
          refine Wl.q rfl (Qy.conv64 rfl T.u126 rfl (by omega)) ?_
          refine Wl.q rfl (Qy.move rfl) ?_
          refine Wl.q rfl (Qy.umul64 rfl rfl (by first | assumption | omega)) ?_
          refine Wl.q rfl (Qy.uadd64 rfl rfl (by omega)) ?_
          refine Wl.q rfl (Qy.assign rfl) ?_
          refine Wl.done ?_
          refine Ar.next ?_
          refine Wc.seq ?_
          refine Wc.region rfl ?_
          refine Wl.q rfl (Qy.move rfl) ?_
          refine Wl.q rfl (Qy.move rfl) ?_
          refine Wl.q rfl (Qy.indexAddr T.sl65 rfl rfl (by omega)) ?_
          refine Wl.q rfl (Qy.loadW 0 T.one128 rfl rfl (by omega)) ?_
          refine Wl.q rfl (Qy.conv64 rfl T.u126 rfl (by omega)) ?_
          refine Wl.q rfl (Qy.move rfl) ?_
          refine Wl.q rfl (Qy.andLow rfl rfl (by omega)) ?_
          refine Wl.q rfl (Qy.usub64 rfl rfl (by omega)) ?_
          refine Wl.q rfl (Qy.move rfl) ?_
          refine Wl.q rfl (Qy.usub64 rfl rfl (by omega)) ?_
          refine Wl.q rfl (Qy.assign rfl) ?_
          refine Wl.done ?_
          refine Ar.next ?_
          refine Wc.seq ?_
          refine Wc.region rfl ?_
          refine Wl.q rfl (Qy.move rfl) ?_
          refine Wl.q rfl (Qy.shr32 rfl rfl (by omega)) ?_
          refine Wl.q rfl (Qy.assign rfl) ?_
          refine Wl.done ?_
          refine Ar.next ?_
          refine Wc.seq ?_
          refine Wc.region rfl ?_
          refine Wl.q rfl (Qy.move rfl) ?_
          refine Wl.q rfl (Qy.move rfl) ?_
          refine Wl.q rfl (Qy.move rfl) ?_
          refine Wl.q rfl (Qy.conv32 rfl T.u128 rfl (by omega)) ?_
          refine Wl.q rfl (Qy.indexAddr T.sl65 rfl rfl (by omega)) ?_
          refine Wl.setW 0 T.size128 rfl rfl rfl (by omega) ?_
          refine Wl.done ?_
          refine Ar.next ?_
          refine Wc.region rfl ?_
          refine Wl.q rfl (Qy.move rfl) ?_
          refine Wl.q rfl (Qy.shr32 rfl rfl (by omega)) ?_
          refine Wl.q rfl (Qy.and1 rfl rfl (by omega)) ?_
          refine Wl.q rfl (Qy.assign rfl) ?_
          refine Wl.done ?_
          refine Ar.outNormal ?_
          refine Ar.next ?_
          refine Wc.region rfl ?_
          refine Wl.q rfl (Qy.add rfl rfl (by omega)) ?_
          refine Wl.q rfl (Qy.move rfl) ?_
          refine Wl.done ?_
          have es : ((w[((i : Nat) : Int).toNat]?.getD default).v - (c + (lv[((i : Nat) : Int).toNat]?.getD default).v * t) % 4294967296 - o) = ((w[((i : Nat) : Int).toNat]?.getD default).v - (c + (lv[((i : Nat) : Int).toNat]?.getD default).v * t) % 4294967296 - o + 4294967296 * 0) := by omega
          have ec : ((w[((i : Nat) : Int).toNat]?.getD default).v - (c + (lv[((i : Nat) : Int).toNat]?.getD default).v * t) % 4294967296 - o) / 4294967296 % 2 = 0 := by omega
          refine Ar.re 8 rfl (show _ = Value.int .u64 0 by rw [ec]) ?_
          refine Ar.reH 0 (Row 128 (p ++ (w.set i (⟨((w[((i : Nat) : Int).toNat]?.getD default).v - (c + (lv[((i : Nat) : Int).toNat]?.getD default).v * t) % 4294967296 - o + 4294967296 * 0)⟩ : U32) ++ q)) junk) rfl (by rw [← es, Int.toNat_natCast]) ?_
          refine Ar.again ((i + 1, (c + (lv[((i : Nat) : Int).toNat]?.getD default).v * t) / 4294967296, 0, w.set i (⟨((w[((i : Nat) : Int).toNat]?.getD default).v - (c + (lv[((i : Nat) : Int).toNat]?.getD default).v * t) % 4294967296 - o + 4294967296 * 0)⟩ : U32))) ?_ ?_ rfl ⟨rfl, rfl, rfl, rfl, rfl, rfl, rfl, rfl, trivial⟩ ⟨rfl, trivial⟩
          · exact ⟨by omega, by rw [List.length_set]; exact hwn, lims_set hdw _ (by omega), by omega, by omega, by decide, by decide, by omega, bdrop_next hdrop _, less_next (c' := (c + (lv[((i : Nat) : Int).toNat]?.getD default).v * t)) (b := o) (b' := 0) (by omega) hval (by rfl) (by rw [← ex])⟩
          · show u.length - (i + 1) < u.length - i
            omega
    · have z := lg_end hib
      by_cases hlt : (w[((i : Nat) : Int).toNat]?.getD default).v < (c) % 4294967296
      · refine Wc.seq ?_
        refine Wc.region rfl ?_
        refine Wl.q rfl (Qy.lss rfl rfl) ?_
        refine Wl.done ?_
        refine Ar.next ?_
        refine Wc.seq ?_
        refine Wc.condP rfl (by first | assumption | omega) ?_
        refine Wc.skip ?_
        refine Ar.next ?_
        refine Wc.seq ?_
        refine Wc.block ?_
        refine Wc.seq ?_
        refine Wc.region rfl ?_
        refine Wl.q rfl (Qy.move rfl) ?_
        refine Wl.q rfl (Qy.assign rfl) ?_
        refine Wl.done ?_
        refine Ar.next ?_
        refine Wc.seq ?_
        refine Wc.seq ?_
        refine Wc.region rfl ?_
        refine Wl.q rfl (Qy.move rfl) ?_
        refine Wl.q rfl (Qy.move rfl) ?_
        refine Wl.q rfl (Qy.len T.sl65 rfl) ?_
        refine Wl.q rfl (Qy.lss rfl rfl) ?_
        refine Wl.done ?_
        refine Ar.next ?_
        refine Wc.condN rfl (by first | assumption | omega) ?_
        refine Wc.skip ?_
        refine Ar.next ?_
        refine Wc.seq ?_
        refine Wc.region rfl ?_
        refine Wl.q rfl (Qy.move rfl) ?_
        refine Wl.q rfl (Qy.move rfl) ?_
        refine Wl.q rfl (Qy.indexAddr T.sl65 rfl rfl (by omega)) ?_
        refine Wl.q rfl (Qy.loadW 0 T.one128 rfl rfl (by omega)) ?_
        refine Wl.q rfl (Qy.conv64 rfl T.u126 rfl (by omega)) ?_
        refine Wl.q rfl (Qy.move rfl) ?_
        refine Wl.q rfl (Qy.andLow rfl rfl (by omega)) ?_
        refine Wl.q rfl (Qy.usubN rfl rfl (by omega)) ?_
        refine Wl.q rfl (Qy.move rfl) ?_
        refine Wl.q rfl (Qy.usub64 rfl rfl (by omega)) ?_
        refine Wl.q rfl (Qy.assign rfl) ?_
        refine Wl.done ?_
        refine Ar.next ?_
        refine Wc.seq ?_
        refine Wc.region rfl ?_
        refine Wl.q rfl (Qy.move rfl) ?_
        refine Wl.q rfl (Qy.shr32 rfl rfl (by omega)) ?_
        refine Wl.q rfl (Qy.assign rfl) ?_
        refine Wl.done ?_
        refine Ar.next ?_
        refine Wc.seq ?_
        refine Wc.region rfl ?_
        refine Wl.q rfl (Qy.move rfl) ?_
        refine Wl.q rfl (Qy.move rfl) ?_
        refine Wl.q rfl (Qy.move rfl) ?_
        refine Wl.q rfl (Qy.trunc32 rfl T.u128 rfl) ?_
        refine Wl.q rfl (Qy.indexAddr T.sl65 rfl rfl (by omega)) ?_
        refine Wl.setW 0 T.size128 rfl rfl rfl (by omega) ?_
        refine Wl.done ?_
        refine Ar.next ?_
        refine Wc.region rfl ?_
        refine Wl.q rfl (Qy.move rfl) ?_
        refine Wl.q rfl (Qy.shr32 rfl rfl (by omega)) ?_
        refine Wl.q rfl (Qy.and1 rfl rfl (by omega)) ?_
        refine Wl.q rfl (Qy.assign rfl) ?_
        refine Wl.done ?_
        refine Ar.outNormal ?_
        refine Ar.next ?_
        refine Wc.region rfl ?_
        refine Wl.q rfl (Qy.add rfl rfl (by omega)) ?_
        refine Wl.q rfl (Qy.move rfl) ?_
        refine Wl.done ?_
        have es : ((w[((i : Nat) : Int).toNat]?.getD default).v - (c) % 4294967296 + 18446744073709551616 - o) % 4294967296 = ((w[((i : Nat) : Int).toNat]?.getD default).v - (c) % 4294967296 - o + 4294967296 * 1) := by omega
        have ec : ((w[((i : Nat) : Int).toNat]?.getD default).v - (c) % 4294967296 + 18446744073709551616 - o) / 4294967296 % 2 = 1 := by omega
        refine Ar.re 8 rfl (show _ = Value.int .u64 1 by rw [ec]) ?_
        refine Ar.reH 0 (Row 128 (p ++ (w.set i (⟨((w[((i : Nat) : Int).toNat]?.getD default).v - (c) % 4294967296 - o + 4294967296 * 1)⟩ : U32) ++ q)) junk) rfl (by rw [← es, Int.toNat_natCast]) ?_
        refine Ar.again ((i + 1, (c) / 4294967296, 1, w.set i (⟨((w[((i : Nat) : Int).toNat]?.getD default).v - (c) % 4294967296 - o + 4294967296 * 1)⟩ : U32))) ?_ ?_ rfl ⟨rfl, rfl, rfl, rfl, rfl, rfl, rfl, rfl, trivial⟩ ⟨rfl, trivial⟩
        · exact ⟨by omega, by rw [List.length_set]; exact hwn, lims_set hdw _ (by omega), by omega, by omega, by decide, by decide, by intro _; omega, bdrop_next hdrop _, less_next (c' := (c)) (b := o) (b' := 1) (by omega) hval (by rw [z, Int.zero_mul, Int.add_zero]) (by rw [← ex])⟩
        · show u.length - (i + 1) < u.length - i
          omega
      · by_cases hlt2 : (w[((i : Nat) : Int).toNat]?.getD default).v - (c) % 4294967296 < o
        · refine Wc.seq ?_
          refine Wc.region rfl ?_
          refine Wl.q rfl (Qy.lss rfl rfl) ?_
          refine Wl.done ?_
          refine Ar.next ?_
          refine Wc.seq ?_
          refine Wc.condP rfl (by first | assumption | omega) ?_
          refine Wc.skip ?_
          refine Ar.next ?_
          refine Wc.seq ?_
          refine Wc.block ?_
          refine Wc.seq ?_
          refine Wc.region rfl ?_
          refine Wl.q rfl (Qy.move rfl) ?_
          refine Wl.q rfl (Qy.assign rfl) ?_
          refine Wl.done ?_
          refine Ar.next ?_
          refine Wc.seq ?_
          refine Wc.seq ?_
          refine Wc.region rfl ?_
          refine Wl.q rfl (Qy.move rfl) ?_
          refine Wl.q rfl (Qy.move rfl) ?_
          refine Wl.q rfl (Qy.len T.sl65 rfl) ?_
          refine Wl.q rfl (Qy.lss rfl rfl) ?_
          refine Wl.done ?_
          refine Ar.next ?_
          refine Wc.condN rfl (by first | assumption | omega) ?_
          refine Wc.skip ?_
          refine Ar.next ?_
          refine Wc.seq ?_
          refine Wc.region rfl ?_
          refine Wl.q rfl (Qy.move rfl) ?_
          refine Wl.q rfl (Qy.move rfl) ?_
          refine Wl.q rfl (Qy.indexAddr T.sl65 rfl rfl (by omega)) ?_
          refine Wl.q rfl (Qy.loadW 0 T.one128 rfl rfl (by omega)) ?_
          refine Wl.q rfl (Qy.conv64 rfl T.u126 rfl (by omega)) ?_
          refine Wl.q rfl (Qy.move rfl) ?_
          refine Wl.q rfl (Qy.andLow rfl rfl (by omega)) ?_
          refine Wl.q rfl (Qy.usub64 rfl rfl (by omega)) ?_
          refine Wl.q rfl (Qy.move rfl) ?_
          refine Wl.q rfl (Qy.usubN rfl rfl (by omega)) ?_
          refine Wl.q rfl (Qy.assign rfl) ?_
          refine Wl.done ?_
          refine Ar.next ?_
          refine Wc.seq ?_
          refine Wc.region rfl ?_
          refine Wl.q rfl (Qy.move rfl) ?_
          refine Wl.q rfl (Qy.shr32 rfl rfl (by omega)) ?_
          refine Wl.q rfl (Qy.assign rfl) ?_
          refine Wl.done ?_
          refine Ar.next ?_
          refine Wc.seq ?_
          refine Wc.region rfl ?_
          refine Wl.q rfl (Qy.move rfl) ?_
          refine Wl.q rfl (Qy.move rfl) ?_
          refine Wl.q rfl (Qy.move rfl) ?_
          refine Wl.q rfl (Qy.trunc32 rfl T.u128 rfl) ?_
          refine Wl.q rfl (Qy.indexAddr T.sl65 rfl rfl (by omega)) ?_
          refine Wl.setW 0 T.size128 rfl rfl rfl (by omega) ?_
          refine Wl.done ?_
          refine Ar.next ?_
          refine Wc.region rfl ?_
          refine Wl.q rfl (Qy.move rfl) ?_
          refine Wl.q rfl (Qy.shr32 rfl rfl (by omega)) ?_
          refine Wl.q rfl (Qy.and1 rfl rfl (by omega)) ?_
          refine Wl.q rfl (Qy.assign rfl) ?_
          refine Wl.done ?_
          refine Ar.outNormal ?_
          refine Ar.next ?_
          refine Wc.region rfl ?_
          refine Wl.q rfl (Qy.add rfl rfl (by omega)) ?_
          refine Wl.q rfl (Qy.move rfl) ?_
          refine Wl.done ?_
          have es : ((w[((i : Nat) : Int).toNat]?.getD default).v - (c) % 4294967296 - o + 18446744073709551616) % 4294967296 = ((w[((i : Nat) : Int).toNat]?.getD default).v - (c) % 4294967296 - o + 4294967296 * 1) := by omega
          have ec : ((w[((i : Nat) : Int).toNat]?.getD default).v - (c) % 4294967296 - o + 18446744073709551616) / 4294967296 % 2 = 1 := by omega
          refine Ar.re 8 rfl (show _ = Value.int .u64 1 by rw [ec]) ?_
          refine Ar.reH 0 (Row 128 (p ++ (w.set i (⟨((w[((i : Nat) : Int).toNat]?.getD default).v - (c) % 4294967296 - o + 4294967296 * 1)⟩ : U32) ++ q)) junk) rfl (by rw [← es, Int.toNat_natCast]) ?_
          refine Ar.again ((i + 1, (c) / 4294967296, 1, w.set i (⟨((w[((i : Nat) : Int).toNat]?.getD default).v - (c) % 4294967296 - o + 4294967296 * 1)⟩ : U32))) ?_ ?_ rfl ⟨rfl, rfl, rfl, rfl, rfl, rfl, rfl, rfl, trivial⟩ ⟨rfl, trivial⟩
          · exact ⟨by omega, by rw [List.length_set]; exact hwn, lims_set hdw _ (by omega), by omega, by omega, by decide, by decide, by intro _; omega, bdrop_next hdrop _, less_next (c' := (c)) (b := o) (b' := 1) (by omega) hval (by rw [z, Int.zero_mul, Int.add_zero]) (by rw [← ex])⟩
          · show u.length - (i + 1) < u.length - i
            omega
        · refine Wc.seq ?_
          refine Wc.region rfl ?_
          refine Wl.q rfl (Qy.lss rfl rfl) ?_
          refine Wl.done ?_
          refine Ar.next ?_
          refine Wc.seq ?_
          refine Wc.condP rfl (by first | assumption | omega) ?_
          refine Wc.skip ?_
          refine Ar.next ?_
          refine Wc.seq ?_
          refine Wc.block ?_
          refine Wc.seq ?_
          refine Wc.region rfl ?_
          refine Wl.q rfl (Qy.move rfl) ?_
          refine Wl.q rfl (Qy.assign rfl) ?_
          refine Wl.done ?_
          refine Ar.next ?_
          refine Wc.seq ?_
          refine Wc.seq ?_
          refine Wc.region rfl ?_
          refine Wl.q rfl (Qy.move rfl) ?_
          refine Wl.q rfl (Qy.move rfl) ?_
          refine Wl.q rfl (Qy.len T.sl65 rfl) ?_
          refine Wl.q rfl (Qy.lss rfl rfl) ?_
          refine Wl.done ?_
          refine Ar.next ?_
          refine Wc.condN rfl (by first | assumption | omega) ?_
          refine Wc.skip ?_
          refine Ar.next ?_
          refine Wc.seq ?_
          refine Wc.region rfl ?_
          refine Wl.q rfl (Qy.move rfl) ?_
          refine Wl.q rfl (Qy.move rfl) ?_
          refine Wl.q rfl (Qy.indexAddr T.sl65 rfl rfl (by omega)) ?_
          refine Wl.q rfl (Qy.loadW 0 T.one128 rfl rfl (by omega)) ?_
          refine Wl.q rfl (Qy.conv64 rfl T.u126 rfl (by omega)) ?_
          refine Wl.q rfl (Qy.move rfl) ?_
          refine Wl.q rfl (Qy.andLow rfl rfl (by omega)) ?_
          refine Wl.q rfl (Qy.usub64 rfl rfl (by omega)) ?_
          refine Wl.q rfl (Qy.move rfl) ?_
          refine Wl.q rfl (Qy.usub64 rfl rfl (by omega)) ?_
          refine Wl.q rfl (Qy.assign rfl) ?_
          refine Wl.done ?_
          refine Ar.next ?_
          refine Wc.seq ?_
          refine Wc.region rfl ?_
          refine Wl.q rfl (Qy.move rfl) ?_
          refine Wl.q rfl (Qy.shr32 rfl rfl (by omega)) ?_
          refine Wl.q rfl (Qy.assign rfl) ?_
          refine Wl.done ?_
          refine Ar.next ?_
          refine Wc.seq ?_
          refine Wc.region rfl ?_
          refine Wl.q rfl (Qy.move rfl) ?_
          refine Wl.q rfl (Qy.move rfl) ?_
          refine Wl.q rfl (Qy.move rfl) ?_
          refine Wl.q rfl (Qy.conv32 rfl T.u128 rfl (by omega)) ?_
          refine Wl.q rfl (Qy.indexAddr T.sl65 rfl rfl (by omega)) ?_
          refine Wl.setW 0 T.size128 rfl rfl rfl (by omega) ?_
          refine Wl.done ?_
          refine Ar.next ?_
          refine Wc.region rfl ?_
          refine Wl.q rfl (Qy.move rfl) ?_
          refine Wl.q rfl (Qy.shr32 rfl rfl (by omega)) ?_
          refine Wl.q rfl (Qy.and1 rfl rfl (by omega)) ?_
          refine Wl.q rfl (Qy.assign rfl) ?_
          refine Wl.done ?_
          refine Ar.outNormal ?_
          refine Ar.next ?_
          refine Wc.region rfl ?_
          refine Wl.q rfl (Qy.add rfl rfl (by omega)) ?_
          refine Wl.q rfl (Qy.move rfl) ?_
          refine Wl.done ?_
          have es : ((w[((i : Nat) : Int).toNat]?.getD default).v - (c) % 4294967296 - o) = ((w[((i : Nat) : Int).toNat]?.getD default).v - (c) % 4294967296 - o + 4294967296 * 0) := by omega
          have ec : ((w[((i : Nat) : Int).toNat]?.getD default).v - (c) % 4294967296 - o) / 4294967296 % 2 = 0 := by omega
          refine Ar.re 8 rfl (show _ = Value.int .u64 0 by rw [ec]) ?_
          refine Ar.reH 0 (Row 128 (p ++ (w.set i (⟨((w[((i : Nat) : Int).toNat]?.getD default).v - (c) % 4294967296 - o + 4294967296 * 0)⟩ : U32) ++ q)) junk) rfl (by rw [← es, Int.toNat_natCast]) ?_
          refine Ar.again ((i + 1, (c) / 4294967296, 0, w.set i (⟨((w[((i : Nat) : Int).toNat]?.getD default).v - (c) % 4294967296 - o + 4294967296 * 0)⟩ : U32))) ?_ ?_ rfl ⟨rfl, rfl, rfl, rfl, rfl, rfl, rfl, rfl, trivial⟩ ⟨rfl, trivial⟩
          · exact ⟨by omega, by rw [List.length_set]; exact hwn, lims_set hdw _ (by omega), by omega, by omega, by decide, by decide, by intro _; omega, bdrop_next hdrop _, less_next (c' := (c)) (b := o) (b' := 0) (by omega) hval (by rw [z, Int.zero_mul, Int.add_zero]) (by rw [← ex])⟩
          · show u.length - (i + 1) < u.length - i
            omega
  · have hii : i = u.length := by omega
    subst hii
    have hc := hcz (by omega)
    subst hc
    refine Wc.seq ?_
    refine Wc.region rfl ?_
    refine Wl.q rfl (Qy.lss rfl rfl) ?_
    refine Wl.done ?_
    refine Ar.next ?_
    refine Wc.seq ?_
    refine Wc.condN rfl (by first | assumption | omega) ?_
    refine Wc.exit ?_
    refine Ar.passExit ?_
    refine Ar.passExit ?_
    refine Ar.here ?_
    refine Ar.next ?_
    refine Wc.seq ?_
    refine Wc.region rfl ?_
    refine Wl.q rfl (Qy.move rfl) ?_
    refine Wl.q rfl (Qy.gtr rfl rfl) ?_
    refine Wl.q rfl (Qy.assign rfl) ?_
    refine Wl.done ?_
    refine Ar.next ?_
    refine Wc.ret ?_
    refine Ar.out1 (.inr rfl) (Ho := Hp.only _ [0]) rfl (.tmp rfl) (Hp.sub_only _ _) ?_
    rw [take_all (Nat.le_refl _), take_all (by omega), take_all (by omega), Int.add_zero] at hval
    exact ⟨w, o, rfl, rfl, rfl, by omega, hwn, hdw, hval⟩
end Go.Proofs.YtbppmiimeccclaaDoor
set_option maxRecDepth 100000
set_option linter.unusedVariables false
namespace Go.Proofs.YtbppmiimeccclaaDoor
open Go Go.Sl
set_option maxHeartbeats 4000000
theorem kn_bound {u v : List U32} {m : Nat} (hu : u.length = m + 3) (hv : v.length = m + 2) (du : Lims u) (dv : Lims v) (h : valB u < 4294967296 * valB v) : lg u (m + 2) * 4294967296 + lg u (m + 1) < lg v (m + 1) * 4294967296 + 4294967296 := by
  have e1 := top3 hu
  have e2 := top2 hv
  have e3 := take_rng dv (show m ≤ v.length by omega)
  have e4 := take_rng du (show m ≤ u.length by omega)
  have a0 := lg_rng dv m
  have b0 := lg_rng du m
  have hp := pb_pos m
  generalize lg u (m + 2) * 4294967296 + lg u (m + 1) = high at *
  generalize lg v (m + 1) = v1 at *
  generalize lg v m = v0 at *
  generalize lg u m = u0 at *
  refine Int.lt_of_mul_lt_mul_left (a := pb m * 4294967296) ?_ (by omega)
  have f1 := Int.mul_le_mul_of_nonneg_left (show v0 + 4294967296 * v1 + 1 ≤ v1 * 4294967296 + 4294967296 by omega) (Int.le_of_lt hp)
  have f2 := Int.mul_nonneg (Int.le_of_lt hp) b0.1
  rw [Int.mul_add, Int.mul_one] at f1
  rw [Int.mul_add, ← Int.mul_assoc] at e1
  have f3 : pb m * 4294967296 * (v1 * 4294967296 + 4294967296) = 4294967296 * (pb m * (v1 * 4294967296 + 4294967296)) := by rw [Int.mul_comm (pb m) 4294967296, Int.mul_assoc]
  rw [f3]
  omega
attribute [local irreducible] valB pb cmpZ
theorem c113 (G : Imm) (b : Nat) (p u q : List U32) (junk : List Value) (cw : Nat) (v : Option Addr) (cv : Nat) (lv : List U32) (m : Nat) (hv : Arr G v lv) (du : Lims u) (dv : Lims lv) (h1 : u.length ≤ 1073741824) (hu : u.length = m + 3) (hl : lv.length = m + 2) (htop : 2147483648 ≤ lg lv (m + 1)) (hlt : valB u < 4294967296 * valB lv) :
    Does Tryd.prog 113 [.slice (some ⟨b, p.length, none⟩) u.length cw, .slice v lv.length cv] G [(0, some b, Row 128 (p ++ (u ++ q)) junk)] (fun r G' Ho => ∃ (w : List U32) (g : Int), r = .int .u32 g ∧ Ho = [(0, some b, Row 128 (p ++ (w ++ q)) junk)] ∧ G' = G ∧ 0 ≤ g ∧ g < 4294967296 ∧ w.length = u.length ∧ Lims w ∧ valB w = valB u - g * valB lv ∧ valB w < valB lv) := by
  have hU2 := lg_rng du (m + 2)
  have hU1 := lg_rng du (m + 1)
  have hU0 := lg_rng du m
  have hV1 := lg_rng dv (m + 1)
  have hV0 := lg_rng dv m
  have eu2 : (u[((lv.length : Nat) : Int).toNat]?.getD default).v = lg u (m + 2) := by unfold lg; rw [hl]
  have eu1 : (u[(((lv.length : Nat) : Int) - 1).toNat]?.getD default).v = lg u (m + 1) := by unfold lg; rw [show (((lv.length : Nat) : Int) - 1).toNat = ((m + 1 : Nat) : Int).toNat by omega]
  have eu0 : (u[(((lv.length : Nat) : Int) - 2).toNat]?.getD default).v = lg u m := by unfold lg; rw [show (((lv.length : Nat) : Int) - 2).toNat = ((m : Nat) : Int).toNat by omega]
  have ev1 : (lv[(((lv.length : Nat) : Int) - 1).toNat]?.getD default).v = lg lv (m + 1) := by unfold lg; rw [show (((lv.length : Nat) : Int) - 1).toNat = ((m + 1 : Nat) : Int).toNat by omega]
  have ev0 : (lv[(((lv.length : Nat) : Int) - 2).toNat]?.getD default).v = lg lv m := by unfold lg; rw [show (((lv.length : Nat) : Int) - 2).toNat = ((m : Nat) : Int).toNat by omega]
  refine Does.enter Tryd.func113 rfl Tryd.ntmps113 rfl (fun w => ?_)
  have hp1 : 0 < lg lv (m + 1) := by omega
  obtain ⟨high, hhigh⟩ : ∃ high, high = lg u (m + 2) * 4294967296 + lg u (m + 1) := ⟨_, rfl⟩
  obtain ⟨hk1, hk2, hk3, hk4, hk5⟩ := kn_first hu hl du dv hhigh hp1 rfl rfl
  have hq := Int.ediv_le_self (lg lv (m + 1)) (show 0 ≤ high by omega)
  have hVm : 0 < valB lv := by
    have := top2 hl
    have h3 := take_rng dv (show m ≤ lv.length by omega)
    have h4 := Int.mul_pos (pb_pos m) (show 0 < lg lv m + 4294967296 * lg lv (m + 1) by omega)
    omega
  have hUp : valB u < 4294967296 * valB lv := hlt
  have hbrk : high < lg lv (m + 1) * 4294967296 + 4294967296 := hhigh ▸ kn_bound hu hl du dv hlt
  refine Wc.seq ?_
  refine Wc.region rfl ?_
  refine Wl.q rfl (Qy.assign rfl) ?_
  refine Wl.done ?_
  refine Ar.next ?_
  refine Wc.scope ?_
  refine Wc.seq ?_
  refine Wc.region rfl ?_
  refine Wl.q rfl (Qy.move rfl) ?_
  refine Wl.q rfl (Qy.len T.sl65 rfl) ?_
  refine Wl.q rfl (Qy.assign rfl) ?_
  refine Wl.done ?_
  refine Ar.next ?_
  refine Wc.seq ?_
  refine Wc.draw [0] [] T.mixed rfl ?_
  refine Gm.q 0 [] (by kernel_rfl) rfl rfl (Qy.move rfl) ?_
  refine Gm.q 1 [] (by kernel_rfl) rfl rfl (Qy.move rfl) ?_
  refine Gm.q 2 [] (by kernel_rfl) rfl rfl (Qy.indexAddr T.sl65 rfl rfl (by omega)) ?_
  refine Gm.q 3 [0] (by kernel_rfl) rfl rfl (Qy.loadW 0 T.one128 rfl rfl (by omega)) ?_
  refine Gm.q 4 [] (by kernel_rfl) rfl rfl (Qy.conv64 rfl T.u126 rfl (by omega)) ?_
  refine Gm.q 5 [] (by kernel_rfl) rfl rfl (Qy.shl32 rfl rfl (by omega)) ?_
  refine Gm.q 6 [] (by kernel_rfl) rfl rfl (Qy.move rfl) ?_
  refine Gm.q 7 [] (by kernel_rfl) rfl rfl (Qy.move rfl) ?_
  refine Gm.q 8 [] (by kernel_rfl) rfl rfl (Qy.sub rfl rfl (by omega)) ?_
  refine Gm.q 9 [] (by kernel_rfl) rfl rfl (Qy.indexAddr T.sl65 rfl rfl (by omega)) ?_
  refine Gm.q 10 [0] (by kernel_rfl) rfl rfl (Qy.loadW 0 T.one128 rfl rfl (by omega)) ?_
  refine Gm.q 11 [] (by kernel_rfl) rfl rfl (Qy.conv64 rfl T.u126 rfl (by omega)) ?_
  refine Gm.q 12 [] (by kernel_rfl) rfl rfl (Qy.orLow rfl rfl (by omega) (by omega)) ?_
  refine Gm.q 13 [] (by kernel_rfl) rfl rfl (Qy.assign rfl) ?_
  refine Gm.doneA (by kernel_rfl) ⟨rfl, trivial⟩ (by first | exact Imm.le_refl _ | assumption | (refine Imm.le_trans ?_ (by assumption); first | assumption | (refine Imm.le_trans ?_ (by assumption); assumption))) ?_
  refine Ar.next ?_
  refine Wc.meet (ι := Int × Int) (fun (g, r) => ([(0, .slice (some ⟨b, p.length, none⟩) u.length cw), (1, .slice v lv.length cv), (5, .int .i64 (lv.length : Int)), (7, .int .u64 g), (8, .int .u64 r), (4, Go.Value.int Go.IntKind.u32 0)], [(0, some b, Row 128 (p ++ (u ++ q)) junk)])) (fun (g, r) => g * lg lv (m + 1) + r = high ∧ 0 ≤ g ∧ g ≤ 18446744073709551615 ∧ 0 ≤ r ∧ r < 4294967296 ∧ valB u < (g + 1) * valB lv) ?_ (fun ⟨g, r⟩ => fun (hk : g * lg lv (m + 1) + r = high ∧ 0 ≤ g ∧ g ≤ 18446744073709551615 ∧ 0 ≤ r ∧ r < 4294967296 ∧ valB u < (g + 1) * valB lv) => ?_)
  · refine Wc.draw [0] [] T.mixed rfl ?_
    refine Gm.q 0 [] (by kernel_rfl) rfl rfl (Qy.move rfl) ?_
    refine Gm.q 1 [] (by kernel_rfl) rfl rfl (Qy.move rfl) ?_
    refine Gm.q 2 [] (by kernel_rfl) rfl rfl (Qy.move rfl) ?_
    refine Gm.q 3 [] (by kernel_rfl) rfl rfl (Qy.sub rfl rfl (by omega)) ?_
    refine Gm.q 4 [] (by kernel_rfl) rfl rfl (Qy.at (α := U32) T.sl65 rfl rfl (by assumption) (by omega)) ?_
    refine Gm.q 5 [0] (by kernel_rfl) rfl rfl (Qy.loadG T.one128 rfl (Arr.cell (by assumption) (by omega) 0 rfl rfl)) ?_
    refine Gm.q 6 [] (by kernel_rfl) rfl rfl (Qy.conv64 rfl T.u126 rfl (by omega)) ?_
    refine Gm.q 7 [] (by kernel_rfl) rfl rfl (Qy.uquo64 rfl rfl (by omega)) ?_
    refine Gm.q 8 [] (by kernel_rfl) rfl rfl (Qy.move rfl) ?_
    refine Gm.q 9 [] (by kernel_rfl) rfl rfl (Qy.move rfl) ?_
    refine Gm.q 10 [] (by kernel_rfl) rfl rfl (Qy.move rfl) ?_
    refine Gm.q 11 [] (by kernel_rfl) rfl rfl (Qy.sub rfl rfl (by omega)) ?_
    refine Gm.q 12 [] (by kernel_rfl) rfl rfl (Qy.at (α := U32) T.sl65 rfl rfl (by assumption) (by omega)) ?_
    refine Gm.q 13 [0] (by kernel_rfl) rfl rfl (Qy.loadG T.one128 rfl (Arr.cell (by assumption) (by omega) 0 rfl rfl)) ?_
    refine Gm.q 14 [] (by kernel_rfl) rfl rfl (Qy.conv64 rfl T.u126 rfl (by omega)) ?_
    refine Gm.q 15 [] (by kernel_rfl) rfl rfl (Qy.urem rfl rfl (by omega)) ?_
    refine Gm.q 16 [] (by kernel_rfl) rfl rfl (Qy.assign rfl) ?_
    refine Gm.q 17 [] (by kernel_rfl) rfl rfl (Qy.assign rfl) ?_
    refine Gm.doneA (by kernel_rfl) ⟨rfl, trivial⟩ (by first | exact Imm.le_refl _ | assumption | (refine Imm.le_trans ?_ (by assumption); first | assumption | (refine Imm.le_trans ?_ (by assumption); assumption))) ?_
    · refine Ar.re 7 rfl (show _ = Value.int .u64 (high / lg lv (m + 1)) by rw [eu2, eu1, ev1, hhigh]) ?_
      refine Ar.re 8 rfl (show _ = Value.int .u64 (high % lg lv (m + 1)) by rw [eu2, eu1, ev1, hhigh]) ?_
      refine Ar.meet ((high / lg lv (m + 1), high % lg lv (m + 1))) ?_ rfl ⟨rfl, rfl, rfl, rfl, rfl, rfl, trivial⟩ ⟨rfl, trivial⟩
      exact ⟨hk1, hk2, by omega, hk3, by omega, hk5⟩
  obtain ⟨hg1, hg2, hg3, hr1, hr2, hgu⟩ := hk
  clear hk1 hk2 hk3 hk4 hk5 hq
  refine Wc.seq ?_
  refine Wc.label ?_
  refine Ar.next ?_
  refine Wc.meet (ι := Int) (fun gg => ([(0, .slice (some ⟨b, p.length, none⟩) u.length cw), (1, .slice v lv.length cv), (5, .int .i64 (lv.length : Int)), (7, .int .u64 gg), (4, Go.Value.int Go.IntKind.u32 0)], [(0, some b, Row 128 (p ++ (u ++ q)) junk)])) (fun gg => 0 ≤ gg ∧ gg < 4294967296 ∧ valB u < (gg + 1) * valB lv ∧ (gg - 1) * valB lv ≤ valB u) ?_ (fun gg => fun (hk : 0 ≤ gg ∧ gg < 4294967296 ∧ valB u < (gg + 1) * valB lv ∧ (gg - 1) * valB lv ≤ valB u) => ?_)
  · refine Wc.block ?_
    refine Wc.loop (ι := Int × Int) (fun (g, r) => ([(7, .int .u64 g), (8, .int .u64 r), (0, Go.Value.slice (Option.some (Go.Addr.mk b (List.length p) Option.none)) (List.length u) cw), (1, Go.Value.slice v (List.length lv) cv), (5, Go.Value.int Go.IntKind.i64 (↑(List.length lv) : Int)), (4, Go.Value.int Go.IntKind.u32 0)], [(0, some b, Row 128 (p ++ (u ++ q)) junk)])) (fun (g, r) => g * lg lv (m + 1) + r = high ∧ 0 ≤ g ∧ g ≤ 18446744073709551615 ∧ 0 ≤ r ∧ r < 4294967296 ∧ valB u < (g + 1) * valB lv) (fun (g, r) => (4294967296 - r).toNat) ((g, r)) (⟨hg1, hg2, hg3, hr1, hr2, hgu⟩) ⟨rfl, rfl, rfl, rfl, rfl, rfl, trivial⟩ ⟨rfl, trivial⟩ (fun ⟨g, r⟩ => fun (hk : g * lg lv (m + 1) + r = high ∧ 0 ≤ g ∧ g ≤ 18446744073709551615 ∧ 0 ≤ r ∧ r < 4294967296 ∧ valB u < (g + 1) * valB lv) => ?_)
    clear hg1 hg2 hg3 hr1 hr2 hgu
    obtain ⟨hg1, hg2, hg3, hr1, hr2, hgu⟩ := hk
    have dec : 4294967296 ≤ g ∨ r * 4294967296 + lg u m < g * lg lv m → 1 ≤ g ∧ (g - 1) * lg lv (m + 1) + (r + lg lv (m + 1)) = high ∧ valB u < (g - 1 + 1) * valB lv := fun hd => by
      have hg0 : 1 ≤ g := by
        rcases hd with hd | hd
        · omega
        · rcases (show g = 0 ∨ 1 ≤ g by omega) with h | h
          · rw [h, Int.zero_mul] at hd; omega
          · exact h
      refine ⟨hg0, by rw [Int.sub_mul, Int.one_mul]; omega, ?_⟩
      rw [show g - 1 + 1 = g by omega]
      rcases hd with hd | hd
      · have := Int.mul_le_mul_of_nonneg_right hd (Int.le_of_lt hVm)
        omega
      · exact kn_dec hu hl du dv hhigh hg1 hg2 hd
    have brk : (g - 1) * lg lv (m + 1) + (r + lg lv (m + 1)) = high → valB u < (g - 1 + 1) * valB lv → 4294967296 ≤ r + lg lv (m + 1) → 1 ≤ g → 0 ≤ g - 1 ∧ g - 1 < 4294967296 ∧ valB u < (g - 1 + 1) * valB lv ∧ (g - 1 - 1) * valB lv ≤ valB u := fun h h2 h3 h4 => by
      have hlt' := kn_break h h3 hp1 hbrk
      have hm0 := bmul_small ⟨(show 0 ≤ g - 1 by omega), hlt'⟩ hV0
      exact ⟨by omega, hlt', h2, kn_end hu hl du dv hhigh h ⟨by omega, hlt'⟩ (by omega) (by omega)⟩
    by_cases hgb : g < 4294967296
    · have hm0 := bmul_small ⟨hg2, hgb⟩ hV0
      have hm : 0 ≤ g * (lv[(((lv.length : Nat) : Int) - 2).toNat]?.getD default).v ∧ g * (lv[(((lv.length : Nat) : Int) - 2).toNat]?.getD default).v ≤ 18446744073709551615 := by rw [ev0]; omega
      by_cases hcond : r * 4294967296 + lg u m < g * lg lv m
      · obtain ⟨hg0, hnx, hnu⟩ := dec (.inr hcond)
        have hcond' : r * 4294967296 + (u[(((lv.length : Nat) : Int) - 2).toNat]?.getD default).v < g * (lv[(((lv.length : Nat) : Int) - 2).toNat]?.getD default).v := by rw [eu0, ev0]; exact hcond
        refine Wc.seq ?_
        refine Wc.seq ?_
        refine Wc.draw [0] [] T.mixed rfl ?_
        refine Gm.q 0 [] (by kernel_rfl) rfl rfl (Qy.move rfl) ?_
        refine Gm.q 1 [] (by kernel_rfl) rfl rfl (Qy.shr32 rfl rfl (by omega)) ?_
        refine Gm.q 2 [] (by kernel_rfl) rfl rfl (Qy.gtr rfl rfl) ?_
        refine Gm.q 3 [] (by kernel_rfl) rfl rfl (Qy.move rfl) ?_
        refine Gm.no 45 rfl (by first | assumption | omega) ?_
        refine Gm.qYes 4 [] (by kernel_rfl) rfl rfl rfl rfl (Qy.move rfl) ?_
        refine Gm.qYes 5 [] (by kernel_rfl) rfl rfl rfl rfl (Qy.move rfl) ?_
        refine Gm.qYes 6 [] (by kernel_rfl) rfl rfl rfl rfl (Qy.move rfl) ?_
        refine Gm.qYes 7 [] (by kernel_rfl) rfl rfl rfl rfl (Qy.sub rfl rfl (by omega)) ?_
        refine Gm.qYes 8 [] (by kernel_rfl) rfl rfl rfl rfl (Qy.at (α := U32) T.sl65 rfl rfl (by assumption) (by omega)) ?_
        refine Gm.qYes 9 [0] (by kernel_rfl) rfl rfl rfl rfl (Qy.loadG T.one128 rfl (Arr.cell (by assumption) (by omega) 0 rfl rfl)) ?_
        refine Gm.qYes 10 [] (by kernel_rfl) rfl rfl rfl rfl (Qy.conv64 rfl T.u126 rfl (by omega)) ?_
        refine Gm.qYes 11 [] (by kernel_rfl) rfl rfl rfl rfl (Qy.umul64 rfl rfl (by first | assumption | omega)) ?_
        refine Gm.qYes 12 [] (by kernel_rfl) rfl rfl rfl rfl (Qy.move rfl) ?_
        refine Gm.qYes 13 [] (by kernel_rfl) rfl rfl rfl rfl (Qy.shl32 rfl rfl (by omega)) ?_
        refine Gm.qYes 14 [] (by kernel_rfl) rfl rfl rfl rfl (Qy.move rfl) ?_
        refine Gm.qYes 15 [] (by kernel_rfl) rfl rfl rfl rfl (Qy.move rfl) ?_
        refine Gm.qYes 16 [] (by kernel_rfl) rfl rfl rfl rfl (Qy.sub rfl rfl (by omega)) ?_
        refine Gm.qYes 17 [] (by kernel_rfl) rfl rfl rfl rfl (Qy.indexAddr T.sl65 rfl rfl (by omega)) ?_
        refine Gm.qYes 18 [0] (by kernel_rfl) rfl rfl rfl rfl (Qy.loadW 0 T.one128 rfl rfl (by omega)) ?_
        refine Gm.qYes 19 [] (by kernel_rfl) rfl rfl rfl rfl (Qy.conv64 rfl T.u126 rfl (by omega)) ?_
        refine Gm.qYes 20 [] (by kernel_rfl) rfl rfl rfl rfl (Qy.orLow rfl rfl (by omega) (by omega)) ?_
        refine Gm.qYes 21 [] (by kernel_rfl) rfl rfl rfl rfl (Qy.gtr rfl rfl) ?_
        refine Gm.q 22 [] (by kernel_rfl) rfl rfl (Qy.pick rfl rfl) ?_
        refine Gm.doneA (by kernel_rfl) ⟨rfl, trivial⟩ (by first | exact Imm.le_refl _ | assumption | (refine Imm.le_trans ?_ (by assumption); first | assumption | (refine Imm.le_trans ?_ (by assumption); assumption))) ?_
        refine Ar.next ?_
        refine Wc.condP rfl (by first | assumption | omega) ?_
        refine Wc.skip ?_
        refine Ar.next ?_
        refine Wc.block ?_
        refine Wc.seq ?_
        refine Wc.region rfl ?_
        refine Wl.q rfl (Qy.move rfl) ?_
        refine Wl.q rfl (Qy.usub64 rfl rfl (by omega)) ?_
        refine Wl.q rfl (Qy.assign rfl) ?_
        refine Wl.done ?_
        refine Ar.next ?_
        refine Wc.seq ?_
        refine Wc.region rfl ?_
        refine Wl.q rfl (Qy.move rfl) ?_
        refine Wl.q rfl (Qy.move rfl) ?_
        refine Wl.q rfl (Qy.move rfl) ?_
        refine Wl.q rfl (Qy.sub rfl rfl (by omega)) ?_
        refine Wl.q rfl (Qy.at (α := U32) T.sl65 rfl rfl (by assumption) (by omega)) ?_
        refine Wl.q rfl (Qy.loadG T.one128 rfl (Arr.cell (by assumption) (by omega) 0 rfl rfl)) ?_
        refine Wl.q rfl (Qy.conv64 rfl T.u126 rfl (by omega)) ?_
        refine Wl.q rfl (Qy.uadd64 rfl rfl (by omega)) ?_
        refine Wl.q rfl (Qy.assign rfl) ?_
        refine Wl.done ?_
        refine Ar.next ?_
        refine Wc.seq ?_
        refine Wc.region rfl ?_
        refine Wl.q rfl (Qy.move rfl) ?_
        refine Wl.q rfl (Qy.shr32 rfl rfl (by omega)) ?_
        refine Wl.q rfl (Qy.gtr rfl rfl) ?_
        refine Wl.done ?_
        refine Ar.next ?_
        refine Wc.cond rfl (fun hc1 => ?_) (fun hc1 => ?_)
        refine Wc.exit ?_
        refine Ar.outExit rfl ?_
        refine Ar.passExit ?_
        refine Ar.here ?_
        rotate_left
        refine Wc.skip ?_
        refine Ar.outNormal ?_
        rotate_left
        · refine Ar.re 7 rfl rfl ?_
          refine Ar.meet (g - 1) ?_ rfl ⟨rfl, rfl, rfl, rfl, rfl, trivial⟩ ⟨rfl, trivial⟩
          exact brk hnx hnu (by rw [← ev1]; omega) hg0
        · refine Ar.re 8 rfl (show _ = Value.int .u64 (r + lg lv (m + 1)) by rw [ev1]) ?_
          refine Ar.again ((g - 1, r + lg lv (m + 1))) ?_ ?_ rfl ⟨rfl, rfl, rfl, rfl, rfl, rfl, trivial⟩ ⟨rfl, trivial⟩
          · exact ⟨hnx, by omega, by omega, by omega, by rw [← ev1]; omega, hnu⟩
          · show (4294967296 - (r + lg lv (m + 1))).toNat < (4294967296 - r).toNat
            omega
      · have hcond' : ¬ r * 4294967296 + (u[(((lv.length : Nat) : Int) - 2).toNat]?.getD default).v < g * (lv[(((lv.length : Nat) : Int) - 2).toNat]?.getD default).v := by rw [eu0, ev0]; exact hcond
        refine Wc.seq ?_
        refine Wc.seq ?_
        refine Wc.draw [0] [] T.mixed rfl ?_
        refine Gm.q 0 [] (by kernel_rfl) rfl rfl (Qy.move rfl) ?_
        refine Gm.q 1 [] (by kernel_rfl) rfl rfl (Qy.shr32 rfl rfl (by omega)) ?_
        refine Gm.q 2 [] (by kernel_rfl) rfl rfl (Qy.gtr rfl rfl) ?_
        refine Gm.q 3 [] (by kernel_rfl) rfl rfl (Qy.move rfl) ?_
        refine Gm.no 45 rfl (by first | assumption | omega) ?_
        refine Gm.qYes 4 [] (by kernel_rfl) rfl rfl rfl rfl (Qy.move rfl) ?_
        refine Gm.qYes 5 [] (by kernel_rfl) rfl rfl rfl rfl (Qy.move rfl) ?_
        refine Gm.qYes 6 [] (by kernel_rfl) rfl rfl rfl rfl (Qy.move rfl) ?_
        refine Gm.qYes 7 [] (by kernel_rfl) rfl rfl rfl rfl (Qy.sub rfl rfl (by omega)) ?_
        refine Gm.qYes 8 [] (by kernel_rfl) rfl rfl rfl rfl (Qy.at (α := U32) T.sl65 rfl rfl (by assumption) (by omega)) ?_
        refine Gm.qYes 9 [0] (by kernel_rfl) rfl rfl rfl rfl (Qy.loadG T.one128 rfl (Arr.cell (by assumption) (by omega) 0 rfl rfl)) ?_
        refine Gm.qYes 10 [] (by kernel_rfl) rfl rfl rfl rfl (Qy.conv64 rfl T.u126 rfl (by omega)) ?_
        refine Gm.qYes 11 [] (by kernel_rfl) rfl rfl rfl rfl (Qy.umul64 rfl rfl (by first | assumption | omega)) ?_
        refine Gm.qYes 12 [] (by kernel_rfl) rfl rfl rfl rfl (Qy.move rfl) ?_
        refine Gm.qYes 13 [] (by kernel_rfl) rfl rfl rfl rfl (Qy.shl32 rfl rfl (by omega)) ?_
        refine Gm.qYes 14 [] (by kernel_rfl) rfl rfl rfl rfl (Qy.move rfl) ?_
        refine Gm.qYes 15 [] (by kernel_rfl) rfl rfl rfl rfl (Qy.move rfl) ?_
        refine Gm.qYes 16 [] (by kernel_rfl) rfl rfl rfl rfl (Qy.sub rfl rfl (by omega)) ?_
        refine Gm.qYes 17 [] (by kernel_rfl) rfl rfl rfl rfl (Qy.indexAddr T.sl65 rfl rfl (by omega)) ?_
        refine Gm.qYes 18 [0] (by kernel_rfl) rfl rfl rfl rfl (Qy.loadW 0 T.one128 rfl rfl (by omega)) ?_
        refine Gm.qYes 19 [] (by kernel_rfl) rfl rfl rfl rfl (Qy.conv64 rfl T.u126 rfl (by omega)) ?_
        refine Gm.qYes 20 [] (by kernel_rfl) rfl rfl rfl rfl (Qy.orLow rfl rfl (by omega) (by omega)) ?_
        refine Gm.qYes 21 [] (by kernel_rfl) rfl rfl rfl rfl (Qy.gtr rfl rfl) ?_
        refine Gm.q 22 [] (by kernel_rfl) rfl rfl (Qy.pick rfl rfl) ?_
        refine Gm.doneA (by kernel_rfl) ⟨rfl, trivial⟩ (by first | exact Imm.le_refl _ | assumption | (refine Imm.le_trans ?_ (by assumption); first | assumption | (refine Imm.le_trans ?_ (by assumption); assumption))) ?_
        refine Ar.next ?_
        refine Wc.condN rfl (by first | assumption | omega) ?_
        refine Wc.exit ?_
        refine Ar.passExit ?_
        refine Ar.passExit ?_
        refine Ar.here ?_
        refine Ar.meet (g) ?_ rfl ⟨rfl, rfl, rfl, rfl, rfl, trivial⟩ ⟨rfl, trivial⟩
        exact ⟨hg2, hgb, hgu, kn_end hu hl du dv hhigh hg1 ⟨hg2, hgb⟩ (by omega) (by omega)⟩
    · obtain ⟨hg0, hnx, hnu⟩ := dec (.inl (by omega))
      refine Wc.seq ?_
      refine Wc.seq ?_
      refine Wc.draw [0] [] T.mixed rfl ?_
      refine Gm.q 0 [] (by kernel_rfl) rfl rfl (Qy.move rfl) ?_
      refine Gm.q 1 [] (by kernel_rfl) rfl rfl (Qy.shr32 rfl rfl (by omega)) ?_
      refine Gm.q 2 [] (by kernel_rfl) rfl rfl (Qy.gtr rfl rfl) ?_
      refine Gm.q 3 [] (by kernel_rfl) rfl rfl (Qy.move rfl) ?_
      refine Gm.yes 45 rfl (by first | assumption | omega) ?_
      refine Gm.qNo 4 (by kernel_rfl) rfl rfl rfl rfl ?_
      refine Gm.qNo 5 (by kernel_rfl) rfl rfl rfl rfl ?_
      refine Gm.qNo 6 (by kernel_rfl) rfl rfl rfl rfl ?_
      refine Gm.qNo 7 (by kernel_rfl) rfl rfl rfl rfl ?_
      refine Gm.qNo 8 (by kernel_rfl) rfl rfl rfl rfl ?_
      refine Gm.qNo 9 (by kernel_rfl) rfl rfl rfl rfl ?_
      refine Gm.qNo 10 (by kernel_rfl) rfl rfl rfl rfl ?_
      refine Gm.qNo 11 (by kernel_rfl) rfl rfl rfl rfl ?_
      refine Gm.qNo 12 (by kernel_rfl) rfl rfl rfl rfl ?_
      refine Gm.qNo 13 (by kernel_rfl) rfl rfl rfl rfl ?_
      refine Gm.qNo 14 (by kernel_rfl) rfl rfl rfl rfl ?_
      refine Gm.qNo 15 (by kernel_rfl) rfl rfl rfl rfl ?_
      refine Gm.qNo 16 (by kernel_rfl) rfl rfl rfl rfl ?_
      refine Gm.qNo 17 (by kernel_rfl) rfl rfl rfl rfl ?_
      refine Gm.qNo 18 (by kernel_rfl) rfl rfl rfl rfl ?_
      refine Gm.qNo 19 (by kernel_rfl) rfl rfl rfl rfl ?_
      refine Gm.qNo 20 (by kernel_rfl) rfl rfl rfl rfl ?_
      refine Gm.qNo 21 (by kernel_rfl) rfl rfl rfl rfl ?_
      refine Gm.q 22 [] (by kernel_rfl) rfl rfl (Qy.pick rfl rfl) ?_
      refine Gm.doneA (by kernel_rfl) ⟨rfl, trivial⟩ (by first | exact Imm.le_refl _ | assumption | (refine Imm.le_trans ?_ (by assumption); first | assumption | (refine Imm.le_trans ?_ (by assumption); assumption))) ?_
      refine Ar.next ?_
      refine Wc.condT rfl ?_
      refine Wc.skip ?_
      refine Ar.next ?_
      refine Wc.block ?_
      refine Wc.seq ?_
      refine Wc.region rfl ?_
      refine Wl.q rfl (Qy.move rfl) ?_
      refine Wl.q rfl (Qy.usub64 rfl rfl (by omega)) ?_
      refine Wl.q rfl (Qy.assign rfl) ?_
      refine Wl.done ?_
      refine Ar.next ?_
      refine Wc.seq ?_
      refine Wc.region rfl ?_
      refine Wl.q rfl (Qy.move rfl) ?_
      refine Wl.q rfl (Qy.move rfl) ?_
      refine Wl.q rfl (Qy.move rfl) ?_
      refine Wl.q rfl (Qy.sub rfl rfl (by omega)) ?_
      refine Wl.q rfl (Qy.at (α := U32) T.sl65 rfl rfl (by assumption) (by omega)) ?_
      refine Wl.q rfl (Qy.loadG T.one128 rfl (Arr.cell (by assumption) (by omega) 0 rfl rfl)) ?_
      refine Wl.q rfl (Qy.conv64 rfl T.u126 rfl (by omega)) ?_
      refine Wl.q rfl (Qy.uadd64 rfl rfl (by omega)) ?_
      refine Wl.q rfl (Qy.assign rfl) ?_
      refine Wl.done ?_
      refine Ar.next ?_
      refine Wc.seq ?_
      refine Wc.region rfl ?_
      refine Wl.q rfl (Qy.move rfl) ?_
      refine Wl.q rfl (Qy.shr32 rfl rfl (by omega)) ?_
      refine Wl.q rfl (Qy.gtr rfl rfl) ?_
      refine Wl.done ?_
      refine Ar.next ?_
      refine Wc.cond rfl (fun hc1 => ?_) (fun hc1 => ?_)
      refine Wc.exit ?_
      refine Ar.outExit rfl ?_
      refine Ar.passExit ?_
      refine Ar.here ?_
      rotate_left
      refine Wc.skip ?_
      refine Ar.outNormal ?_
      rotate_left
      · refine Ar.re 7 rfl rfl ?_
        refine Ar.meet (g - 1) ?_ rfl ⟨rfl, rfl, rfl, rfl, rfl, trivial⟩ ⟨rfl, trivial⟩
        exact brk hnx hnu (by rw [← ev1]; omega) hg0
      · refine Ar.re 8 rfl (show _ = Value.int .u64 (r + lg lv (m + 1)) by rw [ev1]) ?_
        refine Ar.again ((g - 1, r + lg lv (m + 1))) ?_ ?_ rfl ⟨rfl, rfl, rfl, rfl, rfl, rfl, trivial⟩ ⟨rfl, trivial⟩
        · exact ⟨hnx, by omega, by omega, by omega, by rw [← ev1]; omega, hnu⟩
        · show (4294967296 - (r + lg lv (m + 1))).toNat < (4294967296 - r).toNat
          omega
  clear hg1 hg2 hg3 hr1 hr2 hgu
  obtain ⟨hg1, hg2, hg3, hg4⟩ := hk
  refine Wc.seq ?_
  refine Wc.seq ?_
  refine Wc.region rfl ?_
  refine Wl.q rfl (Qy.move rfl) ?_
  refine Wl.q rfl (Qy.move rfl) ?_
  refine Wl.q rfl (Qy.move rfl) ?_
  refine Wl.call 0 rfl T.fn120 rfl (c120 _ b p u q junk cw v cv lv gg hv du dv h1 (by omega) ⟨hg1, hg2⟩) (tags_of ⟨rfl, trivial⟩) (fun r1 G1 Ho1 hle1 hp => ?_)
  obtain ⟨lw1, lo1, rfl, rfl, rfl, hlo1, hln1, hld1, hlv1⟩ := hp
  have hfew := valB_lt hld1
  have hnn := valB_nonneg hld1
  rcases hlo1 with hlo1 | hlo1
  · subst hlo1
    rw [Int.mul_zero, Int.sub_zero] at hlv1
    refine Wl.q rfl (Qy.notD rfl) ?_
    refine Wl.done ?_
    refine Ar.next ?_
    refine Wc.condP rfl (by first | assumption | omega) ?_
    refine Wc.seq ?_
    refine Wc.region rfl ?_
    refine Wl.q rfl (Qy.move rfl) ?_
    refine Wl.q rfl (Qy.conv32 rfl T.u128 rfl (by omega)) ?_
    refine Wl.q rfl (Qy.assign rfl) ?_
    refine Wl.done ?_
    refine Ar.next ?_
    refine Wc.ret ?_
    refine Ar.passRet ?_
    refine Ar.scopeR ?_
    refine Ar.out1 (.inr rfl) (Ho := Hp.only _ [0]) rfl (.tmp rfl) (Hp.sub_only _ _) ?_
    refine ⟨lw1, gg, rfl, rfl, rfl, hg1, hg2, hln1, hld1, hlv1.symm, ?_⟩
    rw [Int.add_mul, Int.one_mul] at hg3
    omega
  · subst hlo1
    rw [Int.mul_one, ← hln1] at hlv1
    have hover : valB u < gg * valB lv := by omega
    have hgp : 1 ≤ gg := by
      rcases (show gg = 0 ∨ 1 ≤ gg by omega) with h | h
      · rw [h, Int.zero_mul] at hover
        have := valB_nonneg du
        omega
      · exact h
    refine Wl.q rfl (Qy.notD rfl) ?_
    refine Wl.done ?_
    refine Ar.next ?_
    refine Wc.condN rfl (by first | assumption | omega) ?_
    refine Wc.skip ?_
    refine Ar.next ?_
    refine Wc.seq ?_
    refine Wc.region rfl ?_
    refine Wl.q rfl (Qy.move rfl) ?_
    refine Wl.q rfl (Qy.usub64 rfl rfl (by omega)) ?_
    refine Wl.q rfl (Qy.assign rfl) ?_
    refine Wl.done ?_
    refine Ar.next ?_
    refine Wc.seq ?_
    refine Wc.region rfl ?_
    refine Wl.q rfl (Qy.assign rfl) ?_
    refine Wl.done ?_
    refine Ar.next ?_
    refine Wc.seq ?_
    refine Wc.seq ?_
    refine Wc.region rfl ?_
    refine Wl.q rfl (Qy.move rfl) ?_
    refine Wl.q rfl (Qy.len T.sl65 rfl) ?_
    refine Wl.q rfl (Qy.move rfl) ?_
    refine Wl.done ?_
    refine Ar.next ?_
    refine Wc.block ?_
    refine Wc.loop (ι := Nat × Int × List U32) (fun (i, c, z) => ([(89, .int .i64 (i : Int)), (9, .int .u64 c), (88, Go.Value.int Go.IntKind.i64 (↑(List.length u) : Int)), (7, Go.Value.int Go.IntKind.u64 (gg - 1)), (0, Go.Value.slice (Option.some (Go.Addr.mk b (List.length p) Option.none)) (List.length u) cw), (1, Go.Value.slice v (List.length lv) cv), (5, Go.Value.int Go.IntKind.i64 (↑(List.length lv) : Int)), (4, Go.Value.int Go.IntKind.u32 0)], [(0, some b, Row 128 (p ++ (z ++ q)) junk)])) (fun (i, c, z) => i ≤ lw1.length ∧ z.length = lw1.length ∧ Lims z ∧ 0 ≤ c ∧ c ≤ 1 ∧ z.drop i = lw1.drop i ∧ valB (lw1.take i) + valB (lv.take i) = valB (z.take i) + pb i * c) (fun (i, c, z) => lw1.length - i) ((0, 0, lw1)) (⟨Nat.zero_le _, rfl, hld1, by decide, by decide, rfl, by rw [List.take_zero, List.take_zero, valB_nil, Int.mul_zero]⟩) ⟨rfl, rfl, rfl, rfl, rfl, rfl, rfl, rfl, trivial⟩ ⟨rfl, trivial⟩ (fun ⟨i, c, z⟩ => fun (hk : i ≤ lw1.length ∧ z.length = lw1.length ∧ Lims z ∧ 0 ≤ c ∧ c ≤ 1 ∧ z.drop i = lw1.drop i ∧ valB (lw1.take i) + valB (lv.take i) = valB (z.take i) + pb i * c) => ?_)
    obtain ⟨hi, hzn, hzd, hc0, hc1, hdrop, hval⟩ := hk
    rcases Nat.lt_or_ge i lw1.length with hia | hia
    · have hx : 0 ≤ (z[((i : Nat) : Int).toNat]?.getD default).v ∧ (z[((i : Nat) : Int).toNat]?.getD default).v < 4294967296 := lg_lt hzd (by omega)
      have ex : (z[((i : Nat) : Int).toNat]?.getD default).v = lg lw1 i := lg_drop hdrop
      rcases Nat.lt_or_ge i lv.length with hib | hib
      · have hy : 0 ≤ (lv[((i : Nat) : Int).toNat]?.getD default).v ∧ (lv[((i : Nat) : Int).toNat]?.getD default).v < 4294967296 := lg_lt dv hib
        refine Wc.seq ?_
        refine Wc.region rfl ?_
        refine Wl.q rfl (Qy.lss rfl rfl) ?_
        refine Wl.done ?_
        refine Ar.next ?_
        refine Wc.seq ?_
        refine Wc.condP rfl (by first | assumption | omega) ?_
        refine Wc.skip ?_
        refine Ar.next ?_
        refine Wc.seq ?_
        refine Wc.block ?_
        refine Wc.seq ?_
        refine Wc.region rfl ?_
        refine Wl.q rfl (Qy.move rfl) ?_
        refine Wl.q rfl (Qy.assign rfl) ?_
        refine Wl.done ?_
        refine Ar.next ?_
        refine Wc.seq ?_
        refine Wc.region rfl ?_
        refine Wl.q rfl (Qy.move rfl) ?_
        refine Wl.q rfl (Qy.move rfl) ?_
        refine Wl.q rfl (Qy.move rfl) ?_
        refine Wl.q rfl (Qy.indexAddr T.sl65 rfl rfl (by omega)) ?_
        refine Wl.q rfl (Qy.loadW 0 T.one128 rfl rfl (by omega)) ?_
        refine Wl.q rfl (Qy.conv64 rfl T.u126 rfl (by omega)) ?_
        refine Wl.q rfl (Qy.uadd64 rfl rfl (by omega)) ?_
        refine Wl.q rfl (Qy.assign rfl) ?_
        refine Wl.done ?_
        refine Ar.next ?_
        refine Wc.seq ?_
        refine Wc.seq ?_
        refine Wc.region rfl ?_
        refine Wl.q rfl (Qy.move rfl) ?_
        refine Wl.q rfl (Qy.move rfl) ?_
        refine Wl.q rfl (Qy.lss rfl rfl) ?_
        refine Wl.done ?_
        refine Ar.next ?_
        refine Wc.condP rfl (by first | assumption | omega) ?_
        refine Wc.region rfl ?_
        refine Wl.q rfl (Qy.move rfl) ?_
        refine Wl.q rfl (Qy.move rfl) ?_
        refine Wl.q rfl (Qy.move rfl) ?_
        refine Wl.q rfl (Qy.at (α := U32) T.sl65 rfl rfl (by assumption) (by omega)) ?_
        refine Wl.q rfl (Qy.loadG T.one128 rfl (Arr.cell (by assumption) (by omega) 0 rfl rfl)) ?_
        refine Wl.q rfl (Qy.conv64 rfl T.u126 rfl (by omega)) ?_
        refine Wl.q rfl (Qy.uadd64 rfl rfl (by omega)) ?_
        refine Wl.q rfl (Qy.assign rfl) ?_
        refine Wl.done ?_
        refine Ar.next ?_
        refine Wc.seq ?_
        refine Wc.region rfl ?_
        refine Wl.q rfl (Qy.move rfl) ?_
        refine Wl.q rfl (Qy.move rfl) ?_
        refine Wl.q rfl (Qy.move rfl) ?_
        refine Wl.q rfl (Qy.trunc32 rfl T.u128 rfl) ?_
        refine Wl.q rfl (Qy.indexAddr T.sl65 rfl rfl (by omega)) ?_
        refine Wl.setW 0 T.size128 rfl rfl rfl (by omega) ?_
        refine Wl.done ?_
        refine Ar.next ?_
        refine Wc.region rfl ?_
        refine Wl.q rfl (Qy.move rfl) ?_
        refine Wl.q rfl (Qy.shr32 rfl rfl (by omega)) ?_
        refine Wl.q rfl (Qy.assign rfl) ?_
        refine Wl.done ?_
        refine Ar.outNormal ?_
        refine Ar.next ?_
        refine Wc.region rfl ?_
        refine Wl.q rfl (Qy.add rfl rfl (by omega)) ?_
        refine Wl.q rfl (Qy.move rfl) ?_
        refine Wl.done ?_
        refine Ar.reH 0 (Row 128 (p ++ (z.set i (⟨(c + (z[((i : Nat) : Int).toNat]?.getD default).v + (lv[((i : Nat) : Int).toNat]?.getD default).v) % 4294967296⟩ : U32) ++ q)) junk) rfl (by rw [Int.toNat_natCast]) ?_
        refine Ar.again ((i + 1, (c + (z[((i : Nat) : Int).toNat]?.getD default).v + (lv[((i : Nat) : Int).toNat]?.getD default).v) / 4294967296, z.set i (⟨(c + (z[((i : Nat) : Int).toNat]?.getD default).v + (lv[((i : Nat) : Int).toNat]?.getD default).v) % 4294967296⟩ : U32))) ?_ ?_ rfl ⟨rfl, rfl, rfl, rfl, rfl, rfl, rfl, rfl, trivial⟩ ⟨rfl, trivial⟩
        · exact ⟨by omega, by rw [List.length_set]; exact hzn, lims_set hzd _ (mod32 _), by omega, by omega, bdrop_next hdrop _, add_next (by omega) hval (by rw [ex]; rfl)⟩
        · show lw1.length - (i + 1) < lw1.length - i
          omega
      · have hz0 := lg_end hib
        refine Wc.seq ?_
        refine Wc.region rfl ?_
        refine Wl.q rfl (Qy.lss rfl rfl) ?_
        refine Wl.done ?_
        refine Ar.next ?_
        refine Wc.seq ?_
        refine Wc.condP rfl (by first | assumption | omega) ?_
        refine Wc.skip ?_
        refine Ar.next ?_
        refine Wc.seq ?_
        refine Wc.block ?_
        refine Wc.seq ?_
        refine Wc.region rfl ?_
        refine Wl.q rfl (Qy.move rfl) ?_
        refine Wl.q rfl (Qy.assign rfl) ?_
        refine Wl.done ?_
        refine Ar.next ?_
        refine Wc.seq ?_
        refine Wc.region rfl ?_
        refine Wl.q rfl (Qy.move rfl) ?_
        refine Wl.q rfl (Qy.move rfl) ?_
        refine Wl.q rfl (Qy.move rfl) ?_
        refine Wl.q rfl (Qy.indexAddr T.sl65 rfl rfl (by omega)) ?_
        refine Wl.q rfl (Qy.loadW 0 T.one128 rfl rfl (by omega)) ?_
        refine Wl.q rfl (Qy.conv64 rfl T.u126 rfl (by omega)) ?_
        refine Wl.q rfl (Qy.uadd64 rfl rfl (by omega)) ?_
        refine Wl.q rfl (Qy.assign rfl) ?_
        refine Wl.done ?_
        refine Ar.next ?_
        refine Wc.seq ?_
        refine Wc.seq ?_
        refine Wc.region rfl ?_
        refine Wl.q rfl (Qy.move rfl) ?_
        refine Wl.q rfl (Qy.move rfl) ?_
        refine Wl.q rfl (Qy.lss rfl rfl) ?_
        refine Wl.done ?_
        refine Ar.next ?_
        refine Wc.condN rfl (by first | assumption | omega) ?_
        refine Wc.skip ?_
        refine Ar.next ?_
        refine Wc.seq ?_
        refine Wc.region rfl ?_
        refine Wl.q rfl (Qy.move rfl) ?_
        refine Wl.q rfl (Qy.move rfl) ?_
        refine Wl.q rfl (Qy.move rfl) ?_
        refine Wl.q rfl (Qy.trunc32 rfl T.u128 rfl) ?_
        refine Wl.q rfl (Qy.indexAddr T.sl65 rfl rfl (by omega)) ?_
        refine Wl.setW 0 T.size128 rfl rfl rfl (by omega) ?_
        refine Wl.done ?_
        refine Ar.next ?_
        refine Wc.region rfl ?_
        refine Wl.q rfl (Qy.move rfl) ?_
        refine Wl.q rfl (Qy.shr32 rfl rfl (by omega)) ?_
        refine Wl.q rfl (Qy.assign rfl) ?_
        refine Wl.done ?_
        refine Ar.outNormal ?_
        refine Ar.next ?_
        refine Wc.region rfl ?_
        refine Wl.q rfl (Qy.add rfl rfl (by omega)) ?_
        refine Wl.q rfl (Qy.move rfl) ?_
        refine Wl.done ?_
        refine Ar.reH 0 (Row 128 (p ++ (z.set i (⟨(c + (z[((i : Nat) : Int).toNat]?.getD default).v) % 4294967296⟩ : U32) ++ q)) junk) rfl (by rw [Int.toNat_natCast]) ?_
        refine Ar.again ((i + 1, (c + (z[((i : Nat) : Int).toNat]?.getD default).v) / 4294967296, z.set i (⟨(c + (z[((i : Nat) : Int).toNat]?.getD default).v) % 4294967296⟩ : U32))) ?_ ?_ rfl ⟨rfl, rfl, rfl, rfl, rfl, rfl, rfl, rfl, trivial⟩ ⟨rfl, trivial⟩
        · exact ⟨by omega, by rw [List.length_set]; exact hzn, lims_set hzd _ (mod32 _), by omega, by omega, bdrop_next hdrop _, add_next (by omega) hval (by rw [ex, hz0, Int.add_zero])⟩
        · show lw1.length - (i + 1) < lw1.length - i
          omega
    · have hii : i = lw1.length := by omega
      subst hii
      have hvl := valB_lt dv
      have hpl := pb_le (show lv.length ≤ lw1.length by omega)
      have hback := back_end (g := gg) (u := u) (n := lw1.length) (by omega) hg4 hover rfl hzn (by omega) (by omega) hzd ⟨hc0, hc1⟩ hval
      refine Wc.seq ?_
      refine Wc.region rfl ?_
      refine Wl.q rfl (Qy.lss rfl rfl) ?_
      refine Wl.done ?_
      refine Ar.next ?_
      refine Wc.seq ?_
      refine Wc.condN rfl (by first | assumption | omega) ?_
      refine Wc.exit ?_
      refine Ar.passExit ?_
      refine Ar.passExit ?_
      refine Ar.here ?_
      refine Ar.next ?_
      refine Wc.seq ?_
      refine Wc.region rfl ?_
      refine Wl.q rfl (Qy.move rfl) ?_
      refine Wl.q rfl (Qy.conv32 rfl T.u128 rfl (by omega)) ?_
      refine Wl.q rfl (Qy.assign rfl) ?_
      refine Wl.done ?_
      refine Ar.next ?_
      refine Wc.ret ?_
      refine Ar.scopeR ?_
      refine Ar.out1 (.inr rfl) (Ho := Hp.only _ [0]) rfl (.tmp rfl) (Hp.sub_only _ _) ?_
      refine ⟨z, gg - 1, rfl, rfl, rfl, by omega, by omega, by omega, hzd, hback, ?_⟩
      rw [Int.sub_mul, Int.one_mul] at hback
      omega
end Go.Proofs.YtbppmiimeccclaaDoor
set_option maxRecDepth 100000
set_option linter.unusedVariables false
namespace Go.Proofs.YtbppmiimeccclaaDoor
open Go Go.Sl
set_option maxHeartbeats 4000000
/-- a power of two below 32 bits, and what is left of a limb's -/
theorem pow_split {s : Nat} (hs : s ≤ 32) : ∃ Q : Int, ((2 ^ s : Nat) : Int) * Q = 4294967296 ∧ 0 < Q ∧ 0 < ((2 ^ s : Nat) : Int) := by
  refine ⟨((2 ^ (32 - s) : Nat) : Int), ?_, ?_, ?_⟩
  · rw [← Int.natCast_mul, ← Nat.pow_add, Nat.add_sub_cancel' hs]; decide
  · have : 0 < 2 ^ (32 - s) := Nat.pow_pos (by decide)
    omega
  · have : 0 < 2 ^ s := Nat.pow_pos (by decide)
    omega
theorem shl_parts {X : Int} {s : Nat} (hs : s ≤ 32) (hX : 0 ≤ X ∧ X < 4294967296) : (X * ((2 ^ s : Nat) : Int)) % 4294967296 % ((2 ^ s : Nat) : Int) = 0 ∧ 0 ≤ X * ((2 ^ s : Nat) : Int) / 4294967296 ∧ X * ((2 ^ s : Nat) : Int) / 4294967296 < ((2 ^ s : Nat) : Int) ∧ 0 ≤ X * ((2 ^ s : Nat) : Int) ∧ X * ((2 ^ s : Nat) : Int) < 18446744073709551616 := by
  obtain ⟨Q, h1, h2, h3⟩ := pow_split hs
  generalize ((2 ^ s : Nat) : Int) = P at *
  have hn := Int.mul_nonneg hX.1 (Int.le_of_lt h3)
  have hlt := Int.mul_lt_mul_of_pos_right hX.2 h3
  have hP : P ≤ 4294967296 := by
    have := Int.mul_le_mul_of_nonneg_left (show 1 ≤ Q by omega) (Int.le_of_lt h3)
    omega
  refine ⟨?_, Int.ediv_nonneg hn (by decide), Int.ediv_lt_of_lt_mul (by decide) (by rw [Int.mul_comm P]; exact hlt), hn, by omega⟩
  rw [Int.emod_emod_of_dvd _ ⟨Q, h1.symm⟩]
  exact Int.mul_emod_left X P
theorem shl_next {la r : List U32} {i d : Nat} {P hi lo : Int} (hk : i + d + 1 < r.length) (hz : lg r (i + d + 1) = 0) (hv : valB r = pb d * P * valB (la.take i)) (hlo : lo = lg r (i + d) + lg la i * P % 4294967296) (hhi : hi = lg la i * P / 4294967296) :
    valB ((r.set (i + d) ⟨lo⟩).set (i + d + 1) ⟨hi⟩) = pb d * P * valB (la.take (i + 1)) := by
  rw [valB_set _ _ _ (by rw [List.length_set]; exact hk), valB_set r _ _ (by omega), lg_set_ne (by omega), hz, bval_step, hv, hlo, hhi, pb_succ, pb_add]
  have h1 := bcarry (pb i * pb d) (lg la i * P)
  show pb d * P * valB (la.take i) + pb i * pb d * (lg r (i + d) + lg la i * P % 4294967296 - lg r (i + d)) + 4294967296 * (pb i * pb d) * (lg la i * P / 4294967296 - 0) = _
  have e1 : lg r (i + d) + lg la i * P % 4294967296 - lg r (i + d) = lg la i * P % 4294967296 := by omega
  have e2 : pb d * P * (pb i * lg la i) = pb i * pb d * (lg la i * P) := by
    rw [Int.mul_comm (pb i) (pb d), Int.mul_assoc, Int.mul_assoc, Int.mul_comm (lg la i) P, Int.mul_left_comm P]
  rw [e1, Int.sub_zero, Int.mul_add, e2, ← h1]
  omega
theorem shr_part {A0 A1 : Int} {s : Nat} (hs : s ≤ 32) (h0 : 0 ≤ A0 ∧ A0 < 4294967296) (h1 : 0 ≤ A1 ∧ A1 < 4294967296) : ((2 ^ s : Nat) : Int) * (((A1 * 4294967296 + A0) / ((2 ^ s : Nat) : Int)) % 4294967296) = 4294967296 * (A1 % ((2 ^ s : Nat) : Int)) + A0 - A0 % ((2 ^ s : Nat) : Int) := by
  obtain ⟨Q, hQ, hQ0, hP⟩ := pow_split hs
  generalize ((2 ^ s : Nat) : Int) = P at *
  have e0 := Int.emod_add_mul_ediv A0 P
  have e1 := Int.emod_add_mul_ediv A1 P
  have n0 := Int.emod_nonneg A0 (Int.ne_of_gt hP)
  have l0 := Int.emod_lt_of_pos A0 hP
  have n1 := Int.emod_nonneg A1 (Int.ne_of_gt hP)
  have l1 := Int.emod_lt_of_pos A1 hP
  have q0 := Int.ediv_nonneg h0.1 (Int.le_of_lt hP)
  have q0' : A0 / P < Q := Int.ediv_lt_of_lt_mul hP (by rw [Int.mul_comm]; omega)
  generalize A0 % P = r0 at *
  generalize A1 % P = r1 at *
  generalize A0 / P = y0 at *
  generalize A1 / P = y1 at *
  have e2 : A1 * 4294967296 + A0 = r0 + P * (A1 * Q + y0) := by
    rw [Int.mul_add, Int.mul_left_comm P, hQ]; omega
  have e3 : (A1 * 4294967296 + A0) / P = A1 * Q + y0 := by
    rw [e2, Int.add_mul_ediv_left _ _ (Int.ne_of_gt hP), Int.ediv_eq_zero_of_lt n0 l0, Int.zero_add]
  have e4 : A1 * Q + y0 = r1 * Q + y0 + 4294967296 * y1 := by
    rw [← e1, Int.add_mul, ← hQ, Int.mul_right_comm P Q y1, Int.mul_assoc P y1 Q]; omega
  have f1 := Int.mul_nonneg n1 (Int.le_of_lt hQ0)
  have f2 := Int.mul_le_mul_of_nonneg_right (show r1 + 1 ≤ P by omega) (Int.le_of_lt hQ0)
  rw [Int.add_mul, Int.one_mul, hQ] at f2
  have e5 : (A1 * Q + y0) % 4294967296 = r1 * Q + y0 := by
    rw [e4, Int.add_mul_emod_self_left, Int.emod_eq_of_lt (by omega) (by omega)]
  rw [e3, e5, Int.mul_add, Int.mul_left_comm P r1 Q, hQ]
  omega
theorem shr_next {m r : List U32} {i : Nat} {P out ρ : Int} (hi : i < r.length) (hv : P * valB (r.take i) + ρ = valB (m.take i) + pb i * (lg m i % P)) (ho : P * out = 4294967296 * (lg m (i + 1) % P) + lg m i - lg m i % P) :
    P * valB ((r.set i ⟨out⟩).take (i + 1)) + ρ = valB (m.take (i + 1)) + pb (i + 1) * (lg m (i + 1) % P) := by
  rw [bval_step (r.set i _), bval_step m, lg_set hi, List.take_set_of_le (Nat.le_refl i), pb_succ, Int.mul_add, Int.mul_left_comm P, ho, Int.mul_sub, Int.mul_add, Int.mul_left_comm (pb i) 4294967296]
  rw [Int.mul_assoc]
  omega
theorem shr_end {m r : List U32} {P : Int} (hP : 0 < P) (hn : r.length = m.length) (hv : P * valB (r.take m.length) + lg m 0 % P = valB (m.take m.length) + pb m.length * (lg m m.length % P)) : valB r = valB m / P := by
  rw [take_all (by omega), take_all (Nat.le_refl _), lg_end (Nat.le_refl _), Int.zero_emod, Int.mul_zero, Int.add_zero] at hv
  rw [← hv, Int.add_comm, Int.add_mul_ediv_left _ _ (Int.ne_of_gt hP), Int.ediv_eq_zero_of_lt (Int.emod_nonneg _ (Int.ne_of_gt hP)) (Int.emod_lt_of_pos _ hP), Int.zero_add]
theorem pow_room {x y : Int} {s : Nat} (hs : s ≤ 32) (hx : x < ((2 ^ s : Nat) : Int)) (h0 : 0 ≤ x) (hy : 0 ≤ y ∧ y < 4294967296) (hm : y % ((2 ^ s : Nat) : Int) = 0) : 0 ≤ x + y ∧ x + y < 4294967296 := by
  obtain ⟨Q, hQ, hQ0, hP⟩ := pow_split hs
  generalize ((2 ^ s : Nat) : Int) = P at *
  refine ⟨by omega, ?_⟩
  have h1 := Int.emod_add_mul_ediv y P
  rw [hm, Int.zero_add] at h1
  have h2 : y / P < Q := Int.ediv_lt_of_lt_mul hP (by rw [Int.mul_comm]; omega)
  have h3 := Int.mul_le_mul_of_nonneg_left (show y / P + 1 ≤ Q by omega) (Int.le_of_lt hP)
  rw [Int.mul_add, Int.mul_one, hQ, h1] at h3
  omega
attribute [local irreducible] valB pb cmpZ
theorem c112 (G : Imm) (a : Option Addr) (ca : Nat) (la : List U32) (d s : Nat) (ha : Arr G a la) (da : Lims la) (h1 : la.length ≤ 1073741824) (hs : s < 32) (hd : d ≤ 1000) :
    Does Tryd.prog 112 [.slice a la.length ca, .int .i64 ((32 * d + s : Nat) : Int)] G [] (fun v G' Ho => ∃ r, v = .tuple #[r, .int .i64 0] ∧ Nat32 G' r (pb d * ((2 ^ s : Nat) : Int) * valB la) (la.length + d + 1) ∧ Ho = []) := by
  refine Does.enter Tryd.func112 rfl Tryd.ntmps112 rfl (fun w => ?_)
  have ed : ((32 * d + s : Nat) : Int) / 32 = (d : Int) := by omega
  have es : ((32 * d + s : Nat) : Int) % 32 = (s : Int) := by omega
  have hP : 0 < ((2 ^ s : Nat) : Int) := (pow_split (by omega)).choose_spec.2.2
  refine Wc.seq ?_
  refine Wc.region rfl ?_
  refine Wl.q rfl (Qy.assign rfl) ?_
  refine Wl.q rfl (Qy.assign rfl) ?_
  refine Wl.done ?_
  refine Ar.next ?_
  refine Wc.seq ?_
  refine Wc.seq ?_
  refine Wc.region rfl ?_
  refine Wl.q rfl (Qy.move rfl) ?_
  refine Wl.q rfl (Qy.lss rfl rfl) ?_
  refine Wl.done ?_
  refine Ar.next ?_
  refine Wc.condN rfl (by first | assumption | omega) ?_
  refine Wc.skip ?_
  refine Ar.next ?_
  refine Wc.seq ?_
  refine Wc.seq ?_
  refine Wc.region rfl ?_
  refine Wl.q rfl (Qy.move rfl) ?_
  refine Wl.q rfl (Qy.gtr rfl rfl) ?_
  refine Wl.done ?_
  refine Ar.next ?_
  refine Wc.condN rfl (by first | assumption | omega) ?_
  refine Wc.skip ?_
  refine Ar.next ?_
  refine Wc.seq ?_
  refine Wc.region rfl ?_
  refine Wl.q rfl (Qy.move rfl) ?_
  refine Wl.q rfl (Qy.len T.sl65 rfl) ?_
  refine Wl.q rfl (Qy.move rfl) ?_
  refine Wl.q rfl (Qy.quoP rfl rfl (by omega)) ?_
  refine Wl.q rfl (Qy.add rfl rfl (by omega)) ?_
  refine Wl.q rfl (Qy.add rfl rfl (by omega)) ?_
  refine Wl.make (α := U32) 0 rfl T.sl65 T.el128 rfl rfl (by omega) (by omega) (fun b1 => ?_)
  refine Wl.q rfl (Qy.assign rfl) ?_
  refine Wl.done ?_
  refine Ar.next ?_
  refine Wc.seq ?_
  refine Wc.region rfl ?_
  refine Wl.q rfl (Qy.move rfl) ?_
  refine Wl.q rfl (Qy.urem rfl rfl (by omega)) ?_
  refine Wl.q rfl (Qy.assign rfl) ?_
  refine Wl.done ?_
  refine Ar.next ?_
  refine Wc.seq ?_
  refine Wc.seq ?_
  refine Wc.region rfl ?_
  refine Wl.q rfl (Qy.move rfl) ?_
  refine Wl.q rfl (Qy.len T.sl65 rfl) ?_
  refine Wl.q rfl (Qy.move rfl) ?_
  refine Wl.done ?_
  refine Ar.next ?_
  refine Wc.block ?_
  obtain ⟨N, hN⟩ : ∃ N, N = la.length + d + 1 := ⟨_, rfl⟩
  have hM : ((la.length : Int) + ((32 * d + s : Nat) : Int) / 32 + 1).toNat = N := by omega
  rw [hM]
  have hown : ∀ r : List U32, r.length = N → OwnA (some ⟨b1, 0, none⟩) N r [] := fun r hr => .inr ⟨b1, rfl, by rw [hr]; rfl, by omega, by simp only [maxLen]; omega⟩
  refine Wc.re 6 rfl (show _ = Value.slice (some ⟨b1, 0, none⟩) (List.replicate N (default : U32)).length N by rw [List.length_replicate]) ?_
  refine Wc.re 7 rfl (show _ = Value.int .i64 (s : Int) by rw [es]) ?_
  refine Wc.loop (ι := Nat × List U32) (fun (i, r) => ([(26, .int .i64 (i : Int)), (6, .slice (some ⟨b1, 0, none⟩) r.length N), (7, Go.Value.int Go.IntKind.i64 (↑s : Int)), (25, Go.Value.int Go.IntKind.i64 (↑(List.length la) : Int)), (24, Go.Value.slice a (List.length la) ca), (5, Go.Value.int Go.IntKind.i64 0), (4, Go.Value.slice Option.none 0 0), (1, Go.Value.int Go.IntKind.i64 (↑(32 * d + s) : Int))], [(0, some b1, Row 128 r [])])) (fun (i, r) => i ≤ la.length ∧ r.length = N ∧ Lims r ∧ valB r = pb d * ((2 ^ s : Nat) : Int) * valB (la.take i) ∧ lg r (i + d) < ((2 ^ s : Nat) : Int) ∧ ∀ k, i + d < k → lg r k = 0) (fun (i, r) => la.length - i) ((0, List.replicate N (default : U32))) (⟨Nat.zero_le _, List.length_replicate, Lims.zeros N, by rw [List.take_zero, valB_nil, Int.mul_zero]; exact valB_replicate N, by rw [lg_zeros]; exact hP, fun k _ => lg_zeros N k⟩) ⟨rfl, rfl, rfl, rfl, rfl, rfl, rfl, rfl, trivial⟩ ⟨rfl, trivial⟩ (fun ⟨i, r⟩ => fun (hk : i ≤ la.length ∧ r.length = N ∧ Lims r ∧ valB r = pb d * ((2 ^ s : Nat) : Int) * valB (la.take i) ∧ lg r (i + d) < ((2 ^ s : Nat) : Int) ∧ ∀ k, i + d < k → lg r k = 0) => ?_)
  obtain ⟨hi, hrN, hdr, hv, hlow, hz⟩ := hk
  have hor := hown r hrN
  rcases Nat.lt_or_ge i la.length with hia | hia
  · have hx : 0 ≤ (la[((i : Nat) : Int).toNat]?.getD default).v ∧ (la[((i : Nat) : Int).toNat]?.getD default).v < 4294967296 := lg_lt da hia
    have ekk : ((i : Int) + ((32 * d + s : Nat) : Int) / 32).toNat = i + d := by omega
    have hpt := shl_parts (s := s) (by omega) hx
    refine Wc.seq ?_
    refine Wc.region rfl ?_
    refine Wl.q rfl (Qy.lss rfl rfl) ?_
    refine Wl.done ?_
    refine Ar.next ?_
    refine Wc.seq ?_
    refine Wc.condP rfl (by first | assumption | omega) ?_
    refine Wc.skip ?_
    refine Ar.next ?_
    refine Wc.seq ?_
    refine Wc.block ?_
    refine Wc.seq ?_
    refine Wc.region rfl ?_
    refine Wl.q rfl (Qy.move rfl) ?_
    refine Wl.q rfl (Qy.at (α := U32) T.sl65 rfl rfl (by assumption) (by omega)) ?_
    refine Wl.q rfl (Qy.loadG T.one128 rfl (Arr.cell (by assumption) (by omega) 0 rfl rfl)) ?_
    refine Wl.q rfl (Qy.assign rfl) ?_
    refine Wl.q rfl (Qy.assign rfl) ?_
    refine Wl.done ?_
    refine Ar.next ?_
    refine Wc.seq ?_
    refine Wc.region rfl ?_
    refine Wl.q rfl (Qy.move rfl) ?_
    refine Wl.q rfl (Qy.conv64 rfl T.u126 rfl (by omega)) ?_
    refine Wl.q rfl (Qy.move rfl) ?_
    refine Wl.q rfl (Qy.shlV rfl rfl (by omega) (by omega)) ?_
    refine Wl.q rfl (Qy.assign rfl) ?_
    refine Wl.done ?_
    refine Ar.next ?_
    refine Wc.seq ?_
    refine Wc.region rfl ?_
    refine Wl.q rfl (Qy.move rfl) ?_
    refine Wl.q rfl (Qy.move rfl) ?_
    refine Wl.q rfl (Qy.move rfl) ?_
    refine Wl.q rfl (Qy.quoP rfl rfl (by omega)) ?_
    refine Wl.q rfl (Qy.add rfl rfl (by omega)) ?_
    refine Wl.q rfl (Qy.indexAddrO (α := U32) T.sl65 rfl rfl (by assumption) (by omega)) ?_
    refine Wl.q rfl (Qy.loadO 0 0 T.one128 rfl rfl (by assumption) (by omega) rfl rfl) ?_
    refine Wl.q rfl (Qy.move rfl) ?_
    refine Wl.q rfl (Qy.trunc32 rfl T.u128 rfl) ?_
    refine Wl.q rfl (Qy.orW rfl rfl) ?_
    refine Wl.q rfl (Qy.indexAddrO (α := U32) T.sl65 rfl rfl (by assumption) (by omega)) ?_
    refine Wl.setO (z := _) 0 T.size128 rfl rfl rfl (by assumption) (by omega) rfl (fun ho1 => ?_)
    refine Wl.done ?_
    refine Ar.next ?_
    refine Wc.region rfl ?_
    refine Wl.q rfl (Qy.move rfl) ?_
    refine Wl.q rfl (Qy.move rfl) ?_
    refine Wl.q rfl (Qy.move rfl) ?_
    refine Wl.q rfl (Qy.quoP rfl rfl (by omega)) ?_
    refine Wl.q rfl (Qy.add rfl rfl (by omega)) ?_
    refine Wl.q rfl (Qy.add rfl rfl (by omega)) ?_
    refine Wl.q rfl (Qy.indexAddrO (α := U32) T.sl65 rfl rfl (by assumption) (by omega)) ?_
    obtain ⟨r1, hr1⟩ : ∃ r1, r1 = r.set (i + d) (⟨lg r (i + d) + (la[((i : Nat) : Int).toNat]?.getD default).v * ((2 ^ s : Nat) : Int) % 4294967296⟩ : U32) := ⟨_, rfl⟩
    have hk0 := lg_rng hdr (i + d)
    have hlo : bits BinOp.or IntKind.u32 (r[((i : Int) + ((32 * d + s : Nat) : Int) / 32).toNat]?.getD default).v ((la[((i : Nat) : Int).toNat]?.getD default).v * ((2 ^ s : Nat) : Int) % 4294967296) = lg r (i + d) + (la[((i : Nat) : Int).toNat]?.getD default).v * ((2 ^ s : Nat) : Int) % 4294967296 := by
      rw [ekk]
      exact or_part_u32 _ _ s ⟨hk0.1, hlow⟩ (mod32 _) (by omega) hpt.1
    have hr1N : r1.length = N := by rw [hr1, List.length_set]; exact hrN
    have hsum := pow_room (s := s) (by omega) hlow hk0.1 (mod32 _) hpt.1
    have hd1 : Lims r1 := by rw [hr1]; exact lims_set hdr _ hsum
    have hz1 : lg r1 (i + d + 1) = 0 := by rw [hr1, lg_set_ne (by omega)]; exact hz _ (by omega)
    have hor1 := hown r1 hr1N
    refine Wl.reH 0 (Row 128 r1 []) rfl ?_ ?_
    · show Row 128 (r.set ((i : Int) + ((32 * d + s : Nat) : Int) / 32).toNat ⟨bits BinOp.or IntKind.u32 (r[((i : Int) + ((32 * d + s : Nat) : Int) / 32).toNat]?.getD default).v ((la[((i : Nat) : Int).toNat]?.getD default).v * ((2 ^ s : Nat) : Int) % 4294967296)⟩) [] = _
      rw [hlo, ekk, hr1]
    skip
    refine Wl.q rfl (Qy.loadO (m := (i : Int) + ((32 * d + s : Nat) : Int) / 32 + 1) (c := N) (xs := r1) (junk := []) 0 0 T.one128 rfl rfl hor1 (by omega) rfl rfl) ?_
    refine Wl.q rfl (Qy.move rfl) ?_
    refine Wl.q rfl (Qy.shr32 rfl rfl (by omega)) ?_
    refine Wl.q rfl (Qy.conv32 rfl T.u128 rfl (by omega)) ?_
    refine Wl.q rfl (Qy.orW rfl rfl) ?_
    refine Wl.q rfl (Qy.indexAddrO (α := U32) T.sl65 rfl rfl (by assumption) (by omega)) ?_
    refine Wl.setO (z := _) 0 T.size128 rfl rfl rfl (by assumption) (by omega) rfl (fun ho2 => ?_)
    refine Wl.done ?_
    refine Ar.outNormal ?_
    refine Ar.next ?_
    refine Wc.region rfl ?_
    refine Wl.q rfl (Qy.add rfl rfl (by omega)) ?_
    refine Wl.q rfl (Qy.move rfl) ?_
    refine Wl.done ?_
    have hhi : bits BinOp.or IntKind.u32 (r1[((i : Int) + ((32 * d + s : Nat) : Int) / 32 + 1).toNat]?.getD default).v ((la[((i : Nat) : Int).toNat]?.getD default).v * ((2 ^ s : Nat) : Int) / 4294967296) = (la[((i : Nat) : Int).toNat]?.getD default).v * ((2 ^ s : Nat) : Int) / 4294967296 := by
      rw [show ((i : Int) + ((32 * d + s : Nat) : Int) / 32 + 1).toNat = i + d + 1 by omega, show (r1[i + d + 1]?.getD default).v = 0 by simpa only [lg, Int.toNat_natCast] using hz1]
      rw [or_part_u32 0 _ 0 (by decide) (by omega) (by decide) (Int.emod_one _), Int.zero_add]
    obtain ⟨r2, hr2⟩ : ∃ r2, r2 = r1.set (i + d + 1) (⟨(la[((i : Nat) : Int).toNat]?.getD default).v * ((2 ^ s : Nat) : Int) / 4294967296⟩ : U32) := ⟨_, rfl⟩
    refine Ar.reH 0 (Row 128 r2 []) rfl ?_ ?_
    · show Row 128 (r1.set ((i : Int) + ((32 * d + s : Nat) : Int) / 32 + 1).toNat ⟨bits BinOp.or IntKind.u32 (r1[((i : Int) + ((32 * d + s : Nat) : Int) / 32 + 1).toNat]?.getD default).v ((la[((i : Nat) : Int).toNat]?.getD default).v * ((2 ^ s : Nat) : Int) / 4294967296)⟩) [] = _
      rw [hhi, show ((i : Int) + ((32 * d + s : Nat) : Int) / 32 + 1).toNat = i + d + 1 by omega, hr2]
    have hr2N : r2.length = N := by rw [hr2, List.length_set]; exact hr1N
    refine Ar.re 6 rfl (show _ = Value.slice (some ⟨b1, 0, none⟩) r2.length N by rw [hr2N, hrN]) ?_
    have hlt32 := (pow_split (s := s) (by omega))
    refine Ar.again ((i + 1, r2)) ?_ ?_ rfl ⟨rfl, rfl, rfl, rfl, rfl, rfl, rfl, rfl, trivial⟩ ⟨rfl, trivial⟩
    · refine ⟨by omega, hr2N, by rw [hr2]; exact lims_set hd1 _ ⟨hpt.2.1, by omega⟩, ?_, ?_, ?_⟩
      · rw [hr2, hr1]
        exact shl_next (by omega) (hz _ (by omega)) hv rfl rfl
      · rw [show i + 1 + d = i + d + 1 by omega, hr2, lg_set (by omega)]
        exact hpt.2.2.1
      · intro k hk
        rw [hr2, lg_set_ne (by omega), hr1, lg_set_ne (by omega)]
        exact hz k (by omega)
    · show la.length - (i + 1) < la.length - i
      omega
  · rw [take_all hia] at hv
    refine Wc.seq ?_
    refine Wc.region rfl ?_
    refine Wl.q rfl (Qy.lss rfl rfl) ?_
    refine Wl.done ?_
    refine Ar.next ?_
    refine Wc.seq ?_
    refine Wc.condN rfl (by first | assumption | omega) ?_
    refine Wc.exit ?_
    refine Ar.passExit ?_
    refine Ar.passExit ?_
    refine Ar.here ?_
    refine Ar.next ?_
    refine Wc.seq ?_
    refine Wc.region rfl ?_
    refine Wl.q rfl (Qy.move rfl) ?_
    refine Wl.freezeRow 0 rfl hor (fun G9 hle9 hA => ?_)
    refine Wl.call 1 rfl T.fn96 rfl (c96 _ _ _ _ (by assumption) (by omega) (by first | assumption | omega)) (tags_of trivial) (fun v1 G1 Ho1 hle1 hp => ?_)
    obtain ⟨ta1, tm1, rfl, hta1, hte1, htr1, htl1, rfl, rfl⟩ := hp
    refine Wl.q rfl (Qy.assign rfl) ?_
    refine Wl.q rfl (Qy.assign rfl) ?_
    refine Wl.done ?_
    refine Ar.next ?_
    refine Wc.ret ?_
    refine Ar.out2 (.inr rfl) (Ho := Hp.only _ []) rfl (.tmp rfl) (.tmp rfl) (Hp.sub_only _ _) ?_
    exact ⟨_, rfl, Nat32.of hta1 hte1 htr1 hdr hv (by omega), rfl⟩
theorem c114 (G : Imm) (a : Option Addr) (ca : Nat) (la : List U32) (s : Nat) (ha : Arr G a la) (da : Lims la) (h1 : la.length ≤ 1073741824) (hca : la.length ≤ ca) (hs : s < 32) :
    Does Tryd.prog 114 [.slice a la.length ca, .int .i64 (s : Int)] G [] (fun v G' Ho => ∃ r, v = .tuple #[r, .int .i64 0] ∧ Nat32 G' r (valB la / ((2 ^ s : Nat) : Int)) la.length ∧ Ho = []) := by
  refine Does.enter Tryd.func114 rfl Tryd.ntmps114 rfl (fun w => ?_)
  have ed : (s : Int) / 32 = 0 := by omega
  have es : (s : Int) % 32 = (s : Int) := by omega
  have hP : 0 < ((2 ^ s : Nat) : Int) := (pow_split (by omega)).choose_spec.2.2
  refine Wc.seq ?_
  refine Wc.region rfl ?_
  refine Wl.q rfl (Qy.assign rfl) ?_
  refine Wl.q rfl (Qy.assign rfl) ?_
  refine Wl.done ?_
  refine Ar.next ?_
  refine Wc.seq ?_
  refine Wc.seq ?_
  refine Wc.region rfl ?_
  refine Wl.q rfl (Qy.move rfl) ?_
  refine Wl.q rfl (Qy.lss rfl rfl) ?_
  refine Wl.done ?_
  refine Ar.next ?_
  refine Wc.condN rfl (by first | assumption | omega) ?_
  refine Wc.skip ?_
  refine Ar.next ?_
  refine Wc.seq ?_
  refine Wc.region rfl ?_
  refine Wl.q rfl (Qy.move rfl) ?_
  refine Wl.call 0 rfl T.fn96 rfl (c96 _ _ _ _ (by assumption) (by omega) (by first | assumption | omega)) (tags_of trivial) (fun v1 G1 Ho1 hle1 hp => ?_)
  obtain ⟨ta1, tm1, rfl, hta1, hte1, htr1, htl1, rfl, rfl⟩ := hp
  refine Wl.q rfl (Qy.assign rfl) ?_
  refine Wl.done ?_
  refine Ar.next ?_
  refine Wc.seq ?_
  refine Wc.seq ?_
  refine Wc.region rfl ?_
  refine Wl.q rfl (Qy.move rfl) ?_
  refine Wl.q rfl (Qy.quoP rfl rfl (by omega)) ?_
  refine Wl.q rfl (Qy.move rfl) ?_
  refine Wl.q rfl (Qy.len T.sl65 rfl) ?_
  refine Wl.q rfl (Qy.geq rfl rfl) ?_
  refine Wl.done ?_
  refine Ar.next ?_
  refine Wc.cond rfl (fun hc1 => ?_) (fun hc1 => ?_)
  refine Wc.seq ?_
  refine Wc.region rfl ?_
  refine Wl.q rfl (Qy.assign rfl) ?_
  refine Wl.q rfl (Qy.assign rfl) ?_
  refine Wl.done ?_
  refine Ar.next ?_
  refine Wc.ret ?_
  refine Ar.passRet ?_
  refine Ar.out2 (.inr rfl) (Ho := Hp.only _ []) rfl (.tmp rfl) (.tmp rfl) (Hp.sub_only _ _) ?_
  rotate_left
  refine Wc.skip ?_
  refine Ar.next ?_
  refine Wc.seq ?_
  refine Wc.region rfl ?_
  refine Wl.q rfl (Qy.move rfl) ?_
  refine Wl.q rfl (Qy.move rfl) ?_
  refine Wl.q rfl (Qy.quoP rfl rfl (by omega)) ?_
  refine Wl.q rfl (Qy.cutL T.sl65 rfl rfl (by omega) (by omega)) ?_
  refine Wl.q rfl (Qy.assign rfl) ?_
  refine Wl.done ?_
  refine Ar.next ?_
  refine Wc.seq ?_
  refine Wc.region rfl ?_
  refine Wl.q rfl (Qy.move rfl) ?_
  refine Wl.q rfl (Qy.urem rfl rfl (by omega)) ?_
  refine Wl.q rfl (Qy.assign rfl) ?_
  refine Wl.done ?_
  refine Ar.next ?_
  refine Wc.seq ?_
  refine Wc.region rfl ?_
  refine Wl.q rfl (Qy.move rfl) ?_
  refine Wl.q rfl (Qy.len T.sl65 rfl) ?_
  refine Wl.make (α := U32) 0 rfl T.sl65 T.el128 rfl rfl (by omega) (by omega) (fun b1 => ?_)
  refine Wl.q rfl (Qy.assign rfl) ?_
  refine Wl.done ?_
  refine Ar.next ?_
  refine Wc.seq ?_
  refine Wc.seq ?_
  refine Wc.region rfl ?_
  refine Wl.q rfl (Qy.move rfl) ?_
  refine Wl.q rfl (Qy.len T.sl65 rfl) ?_
  refine Wl.q rfl (Qy.move rfl) ?_
  refine Wl.done ?_
  refine Ar.next ?_
  refine Wc.block ?_
  rotate_left
  · have hz : tm1 = [] := List.eq_nil_of_length_eq_zero (by omega)
    have hv0 : valB la = 0 := by rw [← trim_val hte1 htr1, hz, valB_nil]
    refine ⟨_, rfl, ⟨none, [], rfl, Arr.nil _, Lims.nil, Top.nil, ?_, Nat.zero_le _⟩, rfl⟩
    rw [hv0, Int.zero_ediv, valB_nil]
  have dm := trim_lims hte1 da
  have hta2 : Arr G1 (subA ta1 tm1.length 0 1) tm1 := by
    have h2 := barr_sub (c := tm1.length) (sz := 1) hta1 tm1.length
    rw [take_all (Nat.le_refl _)] at h2
    exact h2
  obtain ⟨tb, htb⟩ : ∃ tb, tb = subA ta1 tm1.length 0 1 := ⟨_, rfl⟩
  rw [← htb] at hta2
  obtain ⟨N, hN⟩ : ∃ N, N = tm1.length := ⟨_, rfl⟩
  have hM : (((tm1.length - ((s : Int) / 32).toNat : Nat) : Int)).toNat = N := by omega
  rw [hM]
  have hown : ∀ r : List U32, r.length = N → OwnA (some ⟨b1, 0, none⟩) N r [] := fun r hr => .inr ⟨b1, rfl, by rw [hr]; rfl, by omega, by simp only [maxLen]; omega⟩
  refine Wc.re 7 rfl (show _ = Value.slice (some ⟨b1, 0, none⟩) (List.replicate N (default : U32)).length N by rw [List.length_replicate]) ?_
  refine Wc.re 6 rfl (show _ = Value.int .i64 (s : Int) by rw [es]) ?_
  refine Wc.re 0 rfl (show _ = Value.slice tb tm1.length tm1.length by rw [ed, htb]; rfl) ?_
  refine Wc.re 29 rfl (show _ = Value.slice tb tm1.length tm1.length by rw [ed, htb]; rfl) ?_
  refine Wc.re 30 rfl (show _ = Value.int .i64 (tm1.length : Int) by rw [ed]; rfl) ?_
  refine Wc.loop (ι := Nat × List U32) (fun (i, r) => ([(31, .int .i64 (i : Int)), (7, .slice (some ⟨b1, 0, none⟩) r.length N), (30, Go.Value.int Go.IntKind.i64 (↑(List.length tm1) : Int)), (29, Go.Value.slice tb (List.length tm1) (List.length tm1)), (0, Go.Value.slice tb (List.length tm1) (List.length tm1)), (6, Go.Value.int Go.IntKind.i64 (↑s : Int)), (5, Go.Value.int Go.IntKind.i64 0), (4, Go.Value.slice Option.none 0 0)], [(0, some b1, Row 128 r [])])) (fun (i, r) => i ≤ tm1.length ∧ r.length = N ∧ Lims r ∧ ((2 ^ s : Nat) : Int) * valB (r.take i) + lg tm1 0 % ((2 ^ s : Nat) : Int) = valB (tm1.take i) + pb i * (lg tm1 i % ((2 ^ s : Nat) : Int))) (fun (i, r) => tm1.length - i) ((0, List.replicate N (default : U32))) (⟨Nat.zero_le _, List.length_replicate, Lims.zeros N, by rw [List.take_zero, List.take_zero, valB_nil, Int.mul_zero, pb_zero, Int.one_mul]⟩) ⟨rfl, rfl, rfl, rfl, rfl, rfl, rfl, rfl, trivial⟩ ⟨rfl, trivial⟩ (fun ⟨i, r⟩ => fun (hk : i ≤ tm1.length ∧ r.length = N ∧ Lims r ∧ ((2 ^ s : Nat) : Int) * valB (r.take i) + lg tm1 0 % ((2 ^ s : Nat) : Int) = valB (tm1.take i) + pb i * (lg tm1 i % ((2 ^ s : Nat) : Int))) => ?_)
  obtain ⟨hi, hrN, hdr, hv⟩ := hk
  have hor := hown r hrN
  rcases Nat.lt_or_ge i tm1.length with hia | hia
  · have hx : 0 ≤ (tm1[((i : Nat) : Int).toNat]?.getD default).v ∧ (tm1[((i : Nat) : Int).toNat]?.getD default).v < 4294967296 := lg_lt dm hia
    have ex : (tm1[((i : Nat) : Int).toNat]?.getD default).v = lg tm1 i := rfl
    have ex1 : (tm1[(((i : Nat) : Int) + 1).toNat]?.getD default).v = lg tm1 (i + 1) := by unfold lg; rw [show (((i : Nat) : Int) + 1).toNat = ((i + 1 : Nat) : Int).toNat by omega]
    have hy : 0 ≤ (tm1[(((i : Nat) : Int) + 1).toNat]?.getD default).v ∧ (tm1[(((i : Nat) : Int) + 1).toNat]?.getD default).v < 4294967296 := by rw [ex1]; exact lg_rng dm _
    by_cases hib : i + 1 < tm1.length
    · refine Wc.seq ?_
      refine Wc.region rfl ?_
      refine Wl.q rfl (Qy.lss rfl rfl) ?_
      refine Wl.done ?_
      refine Ar.next ?_
      refine Wc.seq ?_
      refine Wc.condP rfl (by first | assumption | omega) ?_
      refine Wc.skip ?_
      refine Ar.next ?_
      refine Wc.seq ?_
      refine Wc.block ?_
      refine Wc.seq ?_
      refine Wc.region rfl ?_
      refine Wl.q rfl (Qy.move rfl) ?_
      refine Wl.q rfl (Qy.at (α := U32) T.sl65 rfl rfl (by assumption) (by omega)) ?_
      refine Wl.q rfl (Qy.loadG T.one128 rfl (Arr.cell (by assumption) (by omega) 0 rfl rfl)) ?_
      refine Wl.q rfl (Qy.assign rfl) ?_
      refine Wl.q rfl (Qy.assign rfl) ?_
      refine Wl.done ?_
      refine Ar.next ?_
      refine Wc.seq ?_
      refine Wc.region rfl ?_
      refine Wl.q rfl (Qy.move rfl) ?_
      refine Wl.q rfl (Qy.conv64 rfl T.u126 rfl (by omega)) ?_
      refine Wl.q rfl (Qy.assign rfl) ?_
      refine Wl.done ?_
      refine Ar.next ?_
      refine Wc.seq ?_
      refine Wc.seq ?_
      refine Wc.region rfl ?_
      refine Wl.q rfl (Qy.move rfl) ?_
      refine Wl.q rfl (Qy.add rfl rfl (by omega)) ?_
      refine Wl.q rfl (Qy.move rfl) ?_
      refine Wl.q rfl (Qy.len T.sl65 rfl) ?_
      refine Wl.q rfl (Qy.lss rfl rfl) ?_
      refine Wl.done ?_
      refine Ar.next ?_
      refine Wc.condP rfl (by first | assumption | omega) ?_
      refine Wc.region rfl ?_
      refine Wl.q rfl (Qy.move rfl) ?_
      refine Wl.q rfl (Qy.move rfl) ?_
      refine Wl.q rfl (Qy.move rfl) ?_
      refine Wl.q rfl (Qy.add rfl rfl (by omega)) ?_
      refine Wl.q rfl (Qy.at (α := U32) T.sl65 rfl rfl (by assumption) (by omega)) ?_
      refine Wl.q rfl (Qy.loadG T.one128 rfl (Arr.cell (by assumption) (by omega) 0 rfl rfl)) ?_
      refine Wl.q rfl (Qy.conv64 rfl T.u126 rfl (by omega)) ?_
      refine Wl.q rfl (Qy.shl32 rfl rfl (by omega)) ?_
      refine Wl.q rfl (Qy.orHigh rfl rfl (by omega) (by omega)) ?_
      refine Wl.q rfl (Qy.assign rfl) ?_
      refine Wl.done ?_
      refine Ar.next ?_
      refine Wc.region rfl ?_
      refine Wl.q rfl (Qy.move rfl) ?_
      refine Wl.q rfl (Qy.move rfl) ?_
      refine Wl.q rfl (Qy.move rfl) ?_
      refine Wl.q rfl (Qy.move rfl) ?_
      refine Wl.q rfl (Qy.shrV rfl rfl (by omega) (by omega)) ?_
      refine Wl.q rfl (Qy.trunc32 rfl T.u128 rfl) ?_
      refine Wl.q rfl (Qy.indexAddrO (α := U32) T.sl65 rfl rfl (by assumption) (by omega)) ?_
      refine Wl.setO (z := _) 0 T.size128 rfl rfl rfl (by assumption) (by omega) rfl (fun ho1 => ?_)
      refine Wl.done ?_
      refine Ar.outNormal ?_
      refine Ar.next ?_
      refine Wc.region rfl ?_
      refine Wl.q rfl (Qy.add rfl rfl (by omega)) ?_
      refine Wl.q rfl (Qy.move rfl) ?_
      refine Wl.done ?_
      obtain ⟨out, hout⟩ : ∃ out, out = ((tm1[(((i : Nat) : Int) + 1).toNat]?.getD default).v * 4294967296 + (tm1[((i : Nat) : Int).toNat]?.getD default).v) / ((2 ^ s : Nat) : Int) % 4294967296 := ⟨_, rfl⟩
      have hpart : ((2 ^ s : Nat) : Int) * out = 4294967296 * (lg tm1 (i + 1) % ((2 ^ s : Nat) : Int)) + lg tm1 i - lg tm1 i % ((2 ^ s : Nat) : Int) := by
        rw [hout, ex, ex1]; exact shr_part (by omega) (lg_rng dm i) (lg_rng dm (i + 1))
      refine Ar.reH 0 (Row 128 (r.set i (⟨out⟩ : U32)) []) rfl (by rw [hout, Int.toNat_natCast]) ?_
      refine Ar.re 7 rfl (show _ = Value.slice (some ⟨b1, 0, none⟩) (r.set i (⟨out⟩ : U32)).length N by rw [List.length_set]) ?_
      refine Ar.again ((i + 1, r.set i (⟨out⟩ : U32))) ?_ ?_ rfl ⟨rfl, rfl, rfl, rfl, rfl, rfl, rfl, rfl, trivial⟩ ⟨rfl, trivial⟩
      · exact ⟨by omega, by rw [List.length_set]; exact hrN, lims_set hdr _ (by rw [hout]; exact mod32 _), shr_next (by omega) hv hpart⟩
      · show tm1.length - (i + 1) < tm1.length - i
        omega
    · have hz0 := lg_end (show tm1.length ≤ i + 1 by omega)
      refine Wc.seq ?_
      refine Wc.region rfl ?_
      refine Wl.q rfl (Qy.lss rfl rfl) ?_
      refine Wl.done ?_
      refine Ar.next ?_
      refine Wc.seq ?_
      refine Wc.condP rfl (by first | assumption | omega) ?_
      refine Wc.skip ?_
      refine Ar.next ?_
      refine Wc.seq ?_
      refine Wc.block ?_
      refine Wc.seq ?_
      refine Wc.region rfl ?_
      refine Wl.q rfl (Qy.move rfl) ?_
      refine Wl.q rfl (Qy.at (α := U32) T.sl65 rfl rfl (by assumption) (by omega)) ?_
      refine Wl.q rfl (Qy.loadG T.one128 rfl (Arr.cell (by assumption) (by omega) 0 rfl rfl)) ?_
      refine Wl.q rfl (Qy.assign rfl) ?_
      refine Wl.q rfl (Qy.assign rfl) ?_
      refine Wl.done ?_
      refine Ar.next ?_
      refine Wc.seq ?_
      refine Wc.region rfl ?_
      refine Wl.q rfl (Qy.move rfl) ?_
      refine Wl.q rfl (Qy.conv64 rfl T.u126 rfl (by omega)) ?_
      refine Wl.q rfl (Qy.assign rfl) ?_
      refine Wl.done ?_
      refine Ar.next ?_
      refine Wc.seq ?_
      refine Wc.seq ?_
      refine Wc.region rfl ?_
      refine Wl.q rfl (Qy.move rfl) ?_
      refine Wl.q rfl (Qy.add rfl rfl (by omega)) ?_
      refine Wl.q rfl (Qy.move rfl) ?_
      refine Wl.q rfl (Qy.len T.sl65 rfl) ?_
      refine Wl.q rfl (Qy.lss rfl rfl) ?_
      refine Wl.done ?_
      refine Ar.next ?_
      refine Wc.condN rfl (by first | assumption | omega) ?_
      refine Wc.skip ?_
      refine Ar.next ?_
      refine Wc.region rfl ?_
      refine Wl.q rfl (Qy.move rfl) ?_
      refine Wl.q rfl (Qy.move rfl) ?_
      refine Wl.q rfl (Qy.move rfl) ?_
      refine Wl.q rfl (Qy.move rfl) ?_
      refine Wl.q rfl (Qy.shrV rfl rfl (by omega) (by omega)) ?_
      refine Wl.q rfl (Qy.trunc32 rfl T.u128 rfl) ?_
      refine Wl.q rfl (Qy.indexAddrO (α := U32) T.sl65 rfl rfl (by assumption) (by omega)) ?_
      refine Wl.setO (z := _) 0 T.size128 rfl rfl rfl (by assumption) (by omega) rfl (fun ho1 => ?_)
      refine Wl.done ?_
      refine Ar.outNormal ?_
      refine Ar.next ?_
      refine Wc.region rfl ?_
      refine Wl.q rfl (Qy.add rfl rfl (by omega)) ?_
      refine Wl.q rfl (Qy.move rfl) ?_
      refine Wl.done ?_
      obtain ⟨out, hout⟩ : ∃ out, out = (tm1[((i : Nat) : Int).toNat]?.getD default).v / ((2 ^ s : Nat) : Int) % 4294967296 := ⟨_, rfl⟩
      have hpart : ((2 ^ s : Nat) : Int) * out = 4294967296 * (lg tm1 (i + 1) % ((2 ^ s : Nat) : Int)) + lg tm1 i - lg tm1 i % ((2 ^ s : Nat) : Int) := by
        rw [hout, show (tm1[((i : Nat) : Int).toNat]?.getD default).v = lg tm1 (i + 1) * 4294967296 + lg tm1 i by rw [hz0, Int.zero_mul, Int.zero_add]; rfl]; exact shr_part (by omega) (lg_rng dm i) (lg_rng dm (i + 1))
      refine Ar.reH 0 (Row 128 (r.set i (⟨out⟩ : U32)) []) rfl (by rw [hout, Int.toNat_natCast]) ?_
      refine Ar.re 7 rfl (show _ = Value.slice (some ⟨b1, 0, none⟩) (r.set i (⟨out⟩ : U32)).length N by rw [List.length_set]) ?_
      refine Ar.again ((i + 1, r.set i (⟨out⟩ : U32))) ?_ ?_ rfl ⟨rfl, rfl, rfl, rfl, rfl, rfl, rfl, rfl, trivial⟩ ⟨rfl, trivial⟩
      · exact ⟨by omega, by rw [List.length_set]; exact hrN, lims_set hdr _ (by rw [hout]; exact mod32 _), shr_next (by omega) hv hpart⟩
      · show tm1.length - (i + 1) < tm1.length - i
        omega
  · have hii : i = tm1.length := by omega
    subst hii
    have hval := shr_end hP (by omega) hv
    refine Wc.seq ?_
    refine Wc.region rfl ?_
    refine Wl.q rfl (Qy.lss rfl rfl) ?_
    refine Wl.done ?_
    refine Ar.next ?_
    refine Wc.seq ?_
    refine Wc.condN rfl (by first | assumption | omega) ?_
    refine Wc.exit ?_
    refine Ar.passExit ?_
    refine Ar.passExit ?_
    refine Ar.here ?_
    refine Ar.next ?_
    refine Wc.seq ?_
    refine Wc.region rfl ?_
    refine Wl.q rfl (Qy.move rfl) ?_
    refine Wl.freezeRow 0 rfl hor (fun G9 hle9 hA => ?_)
    refine Wl.call 1 rfl T.fn96 rfl (c96 _ _ _ _ (by assumption) (by omega) (by first | assumption | omega)) (tags_of trivial) (fun v2 G2 Ho2 hle2 hp => ?_)
    obtain ⟨ta2, tm2, rfl, hta2, hte2, htr2, htl2, rfl, rfl⟩ := hp
    refine Wl.q rfl (Qy.assign rfl) ?_
    refine Wl.q rfl (Qy.assign rfl) ?_
    refine Wl.done ?_
    refine Ar.next ?_
    refine Wc.ret ?_
    refine Ar.out2 (.inr rfl) (Ho := Hp.only _ []) rfl (.tmp rfl) (.tmp rfl) (Hp.sub_only _ _) ?_
    rw [trim_val hte1 htr1] at hval
    exact ⟨_, rfl, Nat32.of hta2 hte2 htr2 hdr hval (by omega), rfl⟩
end Go.Proofs.YtbppmiimeccclaaDoor
