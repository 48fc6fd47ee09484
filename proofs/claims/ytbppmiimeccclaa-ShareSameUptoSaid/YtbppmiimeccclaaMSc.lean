/- Parts of the proof (part 3): what the rows' text needs of the texts that lead to it. -/
import Derived.Test.YtbppmiimeccclaaMSb
set_option linter.unusedVariables false
namespace Go.Sl
open Go
theorem bits_and_u64_nat (a b : Nat) (ha : a < 18446744073709551616) (hb : b < 18446744073709551616) : bits .and .u64 (a : Int) (b : Int) = ((a &&& b : Nat) : Int) := by
  have hx : a &&& b < 2 ^ 64 := Nat.and_lt_two_pow _ (by omega)
  have h1 : (BitVec.ofInt 64 (a : Int)).toNat = a := by
    rw [BitVec.ofInt_natCast, BitVec.toNat_ofNat]; exact Nat.mod_eq_of_lt (by omega)
  have h2 : (BitVec.ofInt 64 (b : Int)).toNat = b := by
    rw [BitVec.ofInt_natCast, BitVec.toNat_ofNat]; exact Nat.mod_eq_of_lt (by omega)
  show IntKind.u64.wrap ((BitVec.ofInt 64 (a : Int) &&& BitVec.ofInt 64 (b : Int)).toNat : Int) = _
  rw [BitVec.toNat_and, h1, h2, IntKind.wrap_u64]
  omega
theorem bits_or_u64_nat (a b : Nat) (ha : a < 18446744073709551616) (hb : b < 18446744073709551616) : bits .or .u64 (a : Int) (b : Int) = ((a ||| b : Nat) : Int) := by
  have hx : a ||| b < 2 ^ 64 := Nat.or_lt_two_pow (by omega) (by omega)
  have h1 : (BitVec.ofInt 64 (a : Int)).toNat = a := by
    rw [BitVec.ofInt_natCast, BitVec.toNat_ofNat]; exact Nat.mod_eq_of_lt (by omega)
  have h2 : (BitVec.ofInt 64 (b : Int)).toNat = b := by
    rw [BitVec.ofInt_natCast, BitVec.toNat_ofNat]; exact Nat.mod_eq_of_lt (by omega)
  show IntKind.u64.wrap ((BitVec.ofInt 64 (a : Int) ||| BitVec.ofInt 64 (b : Int)).toNat : Int) = _
  rw [BitVec.toNat_or, h1, h2, IntKind.wrap_u64]
  omega
theorem and_one_u64 (x : Int) (h : 0 ≤ x ∧ x < 18446744073709551616) : bits .and .u64 x 1 = x % 2 := by
  have h1 := bits_and_u64_nat x.toNat 1 (by omega) (by omega)
  rw [Nat.and_one_is_mod, Int.toNat_of_nonneg h.1] at h1
  have h2 : ((x.toNat % 2 : Nat) : Int) = x % 2 := by omega
  exact h1.trans h2
theorem and_low_u64 (x : Int) (h : 0 ≤ x ∧ x < 18446744073709551616) : bits .and .u64 x 4294967295 = x % 4294967296 := by
  have h1 := bits_and_u64_nat x.toNat 4294967295 (by omega) (by omega)
  rw [show (4294967295 : Nat) = 2 ^ 32 - 1 by decide, Nat.and_two_pow_sub_one_eq_mod, Int.toNat_of_nonneg h.1] at h1
  have h2 : ((x.toNat % 2 ^ 32 : Nat) : Int) = x % 4294967296 := by omega
  exact h1.trans h2
/-- a high half and a low one -/
theorem or_low_u64 (x y : Int) (hx : 0 ≤ x ∧ x < 4294967296) (hy : 0 ≤ y ∧ y < 4294967296) : bits .or .u64 (x * 4294967296) y = x * 4294967296 + y := by
  have h1 := bits_or_u64_nat (2 ^ 32 * x.toNat) y.toNat (by omega) (by omega)
  rw [← Nat.two_pow_add_eq_or_of_lt (b := y.toNat) (i := 32) (by omega) x.toNat] at h1
  have e1 : ((2 ^ 32 * x.toNat : Nat) : Int) = x * 4294967296 := by omega
  have e2 : ((2 ^ 32 * x.toNat + y.toNat : Nat) : Int) = x * 4294967296 + y := by omega
  rw [e1, e2, Int.toNat_of_nonneg hy.1] at h1
  exact h1
/-- a low half and a high one -/
theorem or_high_u64 (x y : Int) (hx : 0 ≤ x ∧ x < 4294967296) (hy : 0 ≤ y ∧ y < 4294967296) : bits .or .u64 y (x * 4294967296) = x * 4294967296 + y := by
  have h1 := bits_or_u64_nat y.toNat (2 ^ 32 * x.toNat) (by omega) (by omega)
  rw [Nat.or_comm, ← Nat.two_pow_add_eq_or_of_lt (b := y.toNat) (i := 32) (by omega) x.toNat] at h1
  have e1 : ((2 ^ 32 * x.toNat : Nat) : Int) = x * 4294967296 := by omega
  have e2 : ((2 ^ 32 * x.toNat + y.toNat : Nat) : Int) = x * 4294967296 + y := by omega
  rw [e1, e2, Int.toNat_of_nonneg hy.1] at h1
  exact h1
/-- what lies below a power, and a multiple of it, in 32 bits -/
theorem or_part_u32 (x y : Int) (s : Nat) (hx : 0 ≤ x ∧ x < ((2 ^ s : Nat) : Int)) (hy : 0 ≤ y ∧ y < 4294967296) (hs : s ≤ 32) (hm : y % ((2 ^ s : Nat) : Int) = 0) : bits .or .u32 x y = x + y := by
  have hp : 2 ^ s ≤ 2 ^ 32 := Nat.pow_le_pow_right (by decide) hs
  have h1 := bits_or_u32_nat x.toNat y.toNat (by omega) (by omega)
  have hm' : y.toNat % 2 ^ s = 0 := by
    have h2 : ((y.toNat % 2 ^ s : Nat) : Int) = 0 := by rw [Int.natCast_emod, Int.toNat_of_nonneg hy.1]; exact hm
    exact Int.ofNat_eq_zero.1 h2
  have h3 := Nat.div_add_mod y.toNat (2 ^ s)
  rw [hm', Nat.add_zero] at h3
  have h4 := Nat.two_pow_add_eq_or_of_lt (b := x.toNat) (i := s) (by omega) (y.toNat / 2 ^ s)
  rw [h3] at h4
  rw [Nat.or_comm, ← h4, Int.toNat_of_nonneg hx.1, Int.toNat_of_nonneg hy.1] at h1
  rw [h1]
  omega
section
variable {P : Program} {e : Env} {H : Hp} {G : Imm} {ty : TypeId} {t t' : TypeId} {x y : Operand} {m n : Int} {k : IntKind}
theorem Qy.shr32 (hx : e.ev x = some (.int .u64 m)) (hy : e.ev y = some (.int k 32)) (h0 : 0 ≤ m) : Qy P (.binOp .shr t x y t') ty e H G (.int .u64 (m / 4294967296)) := by
  have h := Qy.shr (P := P) (H := H) (G := G) (ty := ty) (t := t) (t' := t') hx hy (by decide)
  have e1 : m.fdiv (2 ^ (Min.min (32 : Int).toNat IntKind.u64.bits)) = m / 4294967296 := by
    rw [show Min.min (32 : Int).toNat IntKind.u64.bits = 32 by decide]
    exact Int.fdiv_eq_ediv_of_nonneg _ (by decide)
  rw [e1] at h; exact h
theorem Qy.shl32 (hx : e.ev x = some (.int .u64 m)) (hy : e.ev y = some (.int k 32)) (h0 : 0 ≤ m ∧ m < 4294967296) : Qy P (.binOp .shl t x y t') ty e H G (.int .u64 (m * 4294967296)) := by
  have h := Qy.shl (P := P) (H := H) (G := G) (ty := ty) (t := t) (t' := t') hx hy (by decide)
  have e1 : IntKind.u64.wrap (m * 2 ^ (Min.min (32 : Int).toNat IntKind.u64.bits)) = m * 4294967296 := by
    rw [show Min.min (32 : Int).toNat IntKind.u64.bits = 32 by decide]
    exact IntWalk.u64_in _ (by omega)
  rw [e1] at h; exact h
theorem Qy.trunc32 {s : TypeId} (hs : (P.underlying s).isSome = true) (ht : P.underlying t = some (.int .u32)) (hx : e.ev x = some (.int .u64 m)) : Qy P (.convert s t x) ty e H G (.int .u32 (m % 4294967296)) := by
  have h := Qy.conv (P := P) (H := H) (G := G) (ty := ty) hs ht hx
  rw [IntKind.wrap_u32] at h
  exact h
theorem Qy.and1 (hx : e.ev x = some (.int .u64 m)) (hy : e.ev y = some (.int .u64 1)) (h0 : 0 ≤ m ∧ m < 18446744073709551616) : Qy P (.binOp .and t x y t') ty e H G (.int .u64 (m % 2)) := by
  have h := Qy.andW (P := P) (H := H) (G := G) (ty := ty) (t := t) (t' := t') hx hy
  rw [and_one_u64 m h0] at h; exact h
theorem Qy.andLow (hx : e.ev x = some (.int .u64 m)) (hy : e.ev y = some (.int .u64 4294967295)) (h0 : 0 ≤ m ∧ m < 18446744073709551616) : Qy P (.binOp .and t x y t') ty e H G (.int .u64 (m % 4294967296)) := by
  have h := Qy.andW (P := P) (H := H) (G := G) (ty := ty) (t := t) (t' := t') hx hy
  rw [and_low_u64 m h0] at h; exact h
theorem Qy.orLow (hx : e.ev x = some (.int .u64 (m * 4294967296))) (hy : e.ev y = some (.int .u64 n)) (h0 : 0 ≤ m ∧ m < 4294967296) (h1 : 0 ≤ n ∧ n < 4294967296) : Qy P (.binOp .or t x y t') ty e H G (.int .u64 (m * 4294967296 + n)) := by
  have h := Qy.orW (P := P) (H := H) (G := G) (ty := ty) (t := t) (t' := t') hx hy
  rw [or_low_u64 m n h0 h1] at h; exact h
theorem Qy.orHigh (hx : e.ev x = some (.int .u64 n)) (hy : e.ev y = some (.int .u64 (m * 4294967296))) (h0 : 0 ≤ m ∧ m < 4294967296) (h1 : 0 ≤ n ∧ n < 4294967296) : Qy P (.binOp .or t x y t') ty e H G (.int .u64 (m * 4294967296 + n)) := by
  have h := Qy.orW (P := P) (H := H) (G := G) (ty := ty) (t := t) (t' := t') hx hy
  rw [or_high_u64 m n h0 h1] at h; exact h
/-- by so many bits as a slot says -/
theorem Qy.shlV {s : Nat} (hx : e.ev x = some (.int .u64 m)) (hy : e.ev y = some (.int k (s : Int))) (h0 : 0 ≤ m ∧ m < 4294967296) (hs : s ≤ 32) : Qy P (.binOp .shl t x y t') ty e H G (.int .u64 (m * ((2 ^ s : Nat) : Int))) := by
  have h := Qy.shl (P := P) (H := H) (G := G) (ty := ty) (t := t) (t' := t') hx hy (by omega)
  have e1 : IntKind.u64.wrap (m * 2 ^ (Min.min (s : Int).toNat IntKind.u64.bits)) = m * ((2 ^ s : Nat) : Int) := by
    rw [Int.toNat_natCast, Nat.min_eq_left (Nat.le_trans hs (by decide))]
    have e2 : (2 : Int) ^ s = ((2 ^ s : Nat) : Int) := by rw [Int.natCast_pow]; rfl
    rw [e2]
    have hp : (1 : Int) ≤ ((2 ^ s : Nat) : Int) ∧ ((2 ^ s : Nat) : Int) ≤ 4294967296 := by
      have h1 : 0 < 2 ^ s := Nat.pow_pos (by decide)
      have h2 : 2 ^ s ≤ 2 ^ 32 := Nat.pow_le_pow_right (by decide) hs
      omega
    have h3 := Int.mul_le_mul_of_nonneg_left hp.2 h0.1
    have h4 := Int.mul_nonneg h0.1 (show (0 : Int) ≤ ((2 ^ s : Nat) : Int) by omega)
    exact IntWalk.u64_in _ (by omega)
  rw [e1] at h; exact h
theorem Qy.shrV {s : Nat} (hx : e.ev x = some (.int .u64 m)) (hy : e.ev y = some (.int k (s : Int))) (h0 : 0 ≤ m) (hs : s ≤ 32) : Qy P (.binOp .shr t x y t') ty e H G (.int .u64 (m / ((2 ^ s : Nat) : Int))) := by
  have h := Qy.shr (P := P) (H := H) (G := G) (ty := ty) (t := t) (t' := t') hx hy (by omega)
  have e1 : m.fdiv (2 ^ (Min.min (s : Int).toNat IntKind.u64.bits)) = m / ((2 ^ s : Nat) : Int) := by
    rw [Int.toNat_natCast, Nat.min_eq_left (Nat.le_trans hs (by decide))]
    have e2 : (2 : Int) ^ s = ((2 ^ s : Nat) : Int) := by rw [Int.natCast_pow]; rfl
    rw [e2]
    exact Int.fdiv_eq_ediv_of_nonneg _ (Int.natCast_nonneg _)
  rw [e1] at h; exact h
end
end Go.Sl
set_option linter.unusedVariables false
namespace Go.Sl
open Go
theorem bcarry (P s : Int) : P * (s % 4294967296) + 4294967296 * P * (s / 4294967296) = P * s := by
  have h := Int.emod_add_mul_ediv s 4294967296
  have e : 4294967296 * P * (s / 4294967296) = P * (4294967296 * (s / 4294967296)) := by rw [Int.mul_comm 4294967296 P, Int.mul_assoc]
  rw [e, ← Int.mul_add, h]
/-- a limb, nought behind the end -/
def lg (l : List U32) (i : Nat) : Int := (l[((i : Nat) : Int).toNat]?.getD default).v
theorem lg_lt {l : List U32} (h : Lims l) {i : Nat} (hi : i < l.length) : 0 ≤ lg l i ∧ lg l i < 4294967296 := h.at (by omega)
theorem lg_end {l : List U32} {i : Nat} (hi : l.length ≤ i) : lg l i = 0 := by
  unfold lg; rw [Int.toNat_natCast, List.getElem?_eq_none hi]; rfl
theorem lg_rng {l : List U32} (h : Lims l) (i : Nat) : 0 ≤ lg l i ∧ lg l i < 4294967296 := by
  rcases Nat.lt_or_ge i l.length with h1 | h1
  · exact lg_lt h h1
  · rw [lg_end h1]; decide
theorem lg_set {l : List U32} {i : Nat} (h : i < l.length) (d : Int) : lg (l.set i ⟨d⟩) i = d := by
  unfold lg
  rw [Int.toNat_natCast, List.getElem?_eq_getElem (by rw [List.length_set]; exact h), List.getElem_set_self]; rfl
theorem lg_set_ne {l : List U32} {i j : Nat} (h : i ≠ j) (d : U32) : lg (l.set i d) j = lg l j := by
  unfold lg
  rw [Int.toNat_natCast, List.getElem?_set_ne h]
theorem bval_step (l : List U32) (i : Nat) : valB (l.take (i + 1)) = valB (l.take i) + pb i * lg l i := by
  rcases Nat.lt_or_ge i l.length with h | h
  · exact valB_take_succ h
  · rw [take_all h, take_all (by omega), lg_end h, Int.mul_zero, Int.add_zero]
theorem bdrop_step {l : List U32} {i : Nat} (h : i < l.length) : valB (l.drop i) = lg l i + 4294967296 * valB (l.drop (i + 1)) := by
  rw [List.drop_eq_getElem_cons h, valB_cons]
  unfold lg
  rw [Int.toNat_natCast, List.getElem?_eq_getElem h]; rfl
theorem bval_split (l : List U32) {m : Nat} (h : m ≤ l.length) : valB l = valB (l.take m) + pb m * valB (l.drop m) := by
  have h1 : valB l = valB (l.take m ++ l.drop m) := by rw [List.take_append_drop]
  rw [h1, valB_append, List.length_take, Nat.min_eq_left h]
theorem valB_set : ∀ (l : List U32) (k : Nat) (d : U32), k < l.length → valB (l.set k d) = valB l + pb k * (d.v - lg l k)
  | [], k, d, h => by simp at h
  | x :: l, 0, d, _ => by
    rw [List.set_cons_zero, valB_cons, valB_cons, pb_zero]
    show _ = _ + 1 * (d.v - x.v)
    omega
  | x :: l, k + 1, d, h => by
    have ih := valB_set l k d (by simpa using h)
    have e : lg (x :: l) (k + 1) = lg l k := by unfold lg; rw [Int.toNat_natCast, Int.toNat_natCast, List.getElem?_cons_succ]
    rw [List.set_cons_succ, valB_cons, valB_cons, ih, pb_succ, e, Int.mul_add, ← Int.mul_assoc]
    omega
theorem lims_set {l : List U32} (h : Lims l) (k : Nat) {s : Int} (hs : 0 ≤ s ∧ s < 4294967296) : Lims (l.set k ⟨s⟩) := fun d hd => by
  rcases List.mem_or_eq_of_mem_set hd with h1 | h1
  · exact h d h1
  · subst h1; exact hs
theorem mod32 (s : Int) : 0 ≤ s % 4294967296 ∧ s % 4294967296 < 4294967296 := ⟨Int.emod_nonneg _ (by decide), Int.emod_lt_of_pos _ (by decide)⟩
/-- so many limbs are left, if the noughts at the top are struck -/
def Trim (l : List U32) (n : Nat) : Prop := n ≤ l.length ∧ (∀ j, n ≤ j → j < l.length → (l[j]?.getD default).v = 0) ∧ (n = 0 ∨ (l[n - 1]?.getD default).v ≠ 0)
theorem Trim.val {l : List U32} {n : Nat} (h : Trim l n) : valB (l.take n) = valB l := valB_trim h.2.1
theorem Trim.top {l : List U32} {n : Nat} (h : Trim l n) : Top (l.take n) := by
  obtain ⟨h1, h2, h3⟩ := h
  rcases h3 with h3 | h3
  · subst h3; exact .inl rfl
  · by_cases h0 : n = 0
    · subst h0; exact .inl rfl
    · refine .inr ?_
      rw [List.length_take, Nat.min_eq_left h1, List.getElem?_take, if_pos (by omega)]
      exact h3
theorem Trim.len {l : List U32} {n : Nat} (h : Trim l n) : (l.take n).length = n := by rw [List.length_take, Nat.min_eq_left h.1]
theorem Trim.pos {l : List U32} {n : Nat} (h : Trim l n) (hd : Lims l) : 0 < n ↔ 0 < valB l := by
  rw [← h.val]
  constructor
  · intro h0
    exact ltop_pos (hd.take n) h.top (fun e => by have := h.len; rw [e] at this; simp at this; omega)
  · intro h0
    rcases Nat.eq_zero_or_pos n with h1 | h1
    · rw [h1, List.take_zero, valB_nil] at h0; omega
    · exact h1
theorem barr_sub {α : Type} [Cells α] {G : Imm} {a : Option Addr} {c sz : Nat} {l : List α} (h : Arr G a l) (n : Nat) : Arr G (subA a c 0 sz) (l.take n) := by
  refine ⟨flat_length _, ?_⟩
  rcases h.2 with h0 | ⟨b, o, rfl, hr⟩
  · left; rw [List.length_take]; omega
  · refine .inr ⟨b, o, ?_, fun i v hi => hr i v ?_⟩
    · unfold subA
      split
      · rfl
      · simp [Addr.add]
    · have e : flat l = flat (l.take n) ++ flat (l.drop n) := by rw [← flat_append, List.take_append_drop]
      rw [e, List.getElem?_append_left (List.getElem?_eq_some_iff.1 hi).1]; exact hi
/-- the sum's next limb -/
theorem add_next {la lb r : List U32} {i : Nat} {cy s : Int} (hi : i < r.length) (hv : valB (la.take i) + valB (lb.take i) = valB (r.take i) + pb i * cy) (hs : s = cy + lg la i + lg lb i) :
    valB (la.take (i + 1)) + valB (lb.take (i + 1)) = valB ((r.set i ⟨s % 4294967296⟩).take (i + 1)) + pb (i + 1) * (s / 4294967296) := by
  rw [bval_step, bval_step, bval_step (r.set i _), lg_set hi, List.take_set_of_le (Nat.le_refl i), pb_succ]
  have h := bcarry (pb i) s
  rw [hs, Int.mul_add, Int.mul_add] at h
  rw [← hs] at h
  omega
/-- the difference's next limb -/
theorem sub_next {la lb r : List U32} {i : Nat} {cy cy' s : Int} (hi : i < r.length) (hv : valB (la.take i) - valB (lb.take i) = valB (r.take i) - pb i * cy) (hs : s = lg la i - lg lb i - cy + 4294967296 * cy') :
    valB (la.take (i + 1)) - valB (lb.take (i + 1)) = valB ((r.set i ⟨s⟩).take (i + 1)) - pb (i + 1) * cy' := by
  rw [bval_step, bval_step, bval_step (r.set i _), lg_set hi, List.take_set_of_le (Nat.le_refl i), pb_succ]
  have h : pb i * s = pb i * lg la i - pb i * lg lb i - pb i * cy + 4294967296 * pb i * cy' := by
    rw [hs, Int.mul_add, Int.mul_sub, Int.mul_sub, ← Int.mul_assoc, Int.mul_comm (pb i) 4294967296]
  omega
theorem sub_end {la lb r : List U32} {n : Nat} {cy : Int} (hn : n = la.length) (hb : lb.length ≤ la.length) (hle : valB lb ≤ valB la) (hri : r.length = n) (hd : Lims r) (hc : 0 ≤ cy ∧ cy ≤ 1) (hv : valB (la.take n) - valB (lb.take n) = valB (r.take n) - pb n * cy) : valB r = valB la - valB lb := by
  rw [take_all (by omega), take_all (by omega), take_all (by omega)] at hv
  have h := valB_lt hd
  rw [hri] at h
  have hcy : cy = 0 := by
    rcases (show cy = 0 ∨ cy = 1 by omega) with h1 | h1
    · exact h1
    · rw [h1, Int.mul_one] at hv; omega
  rw [hcy, Int.mul_zero] at hv
  omega
/-- the product's next limb -/
theorem bmul_next {r lb : List U32} {i j : Nat} {c s x A : Int} (hk : i + j < r.length) (hv : valB r + pb (i + j) * c = A + pb i * (x * valB (lb.take j))) (hs : s = c + (x * lg lb j + lg r (i + j))) :
    valB (r.set (i + j) ⟨s % 4294967296⟩) + pb (i + (j + 1)) * (s / 4294967296) = A + pb i * (x * valB (lb.take (j + 1))) := by
  rw [valB_set r (i + j) ⟨s % 4294967296⟩ hk, bval_step, ← Nat.add_assoc, pb_succ]
  have h1 := bcarry (pb (i + j)) s
  have h2 : pb (i + j) * s = pb (i + j) * c + (pb (i + j) * (x * lg lb j) + pb (i + j) * lg r (i + j)) := by rw [hs, Int.mul_add, Int.mul_add]
  have h3 : pb i * (x * (valB (lb.take j) + pb j * lg lb j)) = pb i * (x * valB (lb.take j)) + pb (i + j) * (x * lg lb j) := by
    rw [Int.mul_add, Int.mul_add, pb_add]
    congr 1
    rw [Int.mul_assoc, ← Int.mul_assoc x, Int.mul_comm x (pb j), Int.mul_assoc]
  have h4 : pb (i + j) * (s % 4294967296 - lg r (i + j)) = pb (i + j) * (s % 4294967296) - pb (i + j) * lg r (i + j) := Int.mul_sub _ _ _
  show valB r + pb (i + j) * (s % 4294967296 - lg r (i + j)) + 4294967296 * pb (i + j) * (s / 4294967296) = _
  rw [h3, h4]
  omega
/-- the last carry is laid where nought stands -/
theorem bmul_end {la lb r : List U32} {i : Nat} {c : Int} (hk : i + lb.length < r.length) (hz : lg r (i + lb.length) = 0) (hv : valB r + pb (i + lb.length) * c = valB (la.take i) * valB lb + pb i * (lg la i * valB (lb.take lb.length))) :
    valB (r.set (i + lb.length) ⟨c⟩) = valB (la.take (i + 1)) * valB lb := by
  rw [valB_set r _ _ hk, hz, take_all (Nat.le_refl _)] at *
  show valB r + pb (i + lb.length) * (c - 0) = _
  rw [Int.sub_zero, hv, bval_step, Int.add_mul, Int.mul_assoc]
theorem bmul_small {x y : Int} (hx : 0 ≤ x ∧ x < 4294967296) (hy : 0 ≤ y ∧ y < 4294967296) : 0 ≤ x * y ∧ x * y ≤ 18446744065119617025 := by
  refine ⟨Int.mul_nonneg hx.1 hy.1, ?_⟩
  have h1 : x * y ≤ 4294967295 * y := Int.mul_le_mul_of_nonneg_right (by omega) hy.1
  omega
/-- division by one limb -/
theorem bshort_next {la q : List U32} {i : Nat} {r B : Int} (hi : i < la.length) (hq : i < q.length) (hv : valB (la.drop (i + 1)) = valB (q.drop (i + 1)) * B + r) :
    valB (la.drop i) = valB ((q.set i ⟨(r * 4294967296 + lg la i) / B⟩).drop i) * B + (r * 4294967296 + lg la i) % B := by
  rw [bdrop_step hi, bdrop_step (l := q.set i _) (by rw [List.length_set]; exact hq), lg_set hq, List.drop_set_of_lt (by omega), hv]
  have h := Int.emod_add_mul_ediv (r * 4294967296 + lg la i) B
  rw [Int.add_mul, Int.mul_comm ((r * 4294967296 + lg la i) / B) B, Int.mul_assoc 4294967296, Int.mul_add]
  omega
theorem bshort_lt {r a B : Int} (hr : 0 ≤ r ∧ r < B) (ha : 0 ≤ a ∧ a < 4294967296) : 0 ≤ (r * 4294967296 + a) / B ∧ (r * 4294967296 + a) / B < 4294967296 := by
  refine ⟨Int.ediv_nonneg (by omega) (by omega), Int.ediv_lt_of_lt_mul (by omega) ?_⟩
  have h1 := Int.mul_le_mul_of_nonneg_right (show r + 1 ≤ B by omega) (show (0 : Int) ≤ 4294967296 by decide)
  rw [Int.mul_comm 4294967296 B]
  omega
theorem bone_val {lb : List U32} (h : lb.length = 1) : valB lb = lg lb 0 := by
  match lb, h with
  | [d], _ => rw [valB_one]; rfl
theorem u32_same {x y : U32} (h : x.v = y.v) : x = y := by cases x; cases y; simp only at h; rw [h]
theorem bdrop_same {la lb : List U32} {k : Nat} (hn : la.length = lb.length) (h : ∀ j, k ≤ j → j < la.length → lg la j = lg lb j) : la.drop k = lb.drop k := by
  refine List.ext_getElem? fun i => ?_
  rw [List.getElem?_drop, List.getElem?_drop]
  rcases Nat.lt_or_ge (k + i) la.length with h1 | h1
  · have h2 := h (k + i) (by omega) h1
    unfold lg at h2
    rw [Int.toNat_natCast] at h2
    rw [List.getElem?_eq_getElem h1, List.getElem?_eq_getElem (by omega)] at h2 ⊢
    exact congrArg some (u32_same h2)
  · rw [List.getElem?_eq_none h1, List.getElem?_eq_none (by omega)]
theorem bhigh_lt {la lb : List U32} {k : Nat} (hn : la.length = lb.length) (hk : k < la.length) (da : Lims la) (db : Lims lb) (h : ∀ j, k + 1 ≤ j → j < la.length → lg la j = lg lb j) (hlt : lg la k < lg lb k) : valB la < valB lb := by
  have e := bdrop_same hn h
  have h1 := bval_split la (show k + 1 ≤ la.length by omega)
  have h2 := bval_split lb (show k + 1 ≤ lb.length by omega)
  rw [e] at h1
  rw [bval_step] at h1 h2
  have h3 := valB_lt (da.take k)
  rw [List.length_take, Nat.min_eq_left (by omega)] at h3
  have h4 := valB_nonneg (db.take k)
  have h5 := Int.mul_le_mul_of_nonneg_left (show lg la k + 1 ≤ lg lb k by omega) (Int.le_of_lt (pb_pos k))
  rw [Int.mul_add, Int.mul_one] at h5
  omega
end Go.Sl
set_option linter.unusedVariables false
namespace Go.Sl
open Go
theorem kn_low {p Ul U3 Vl V2 g : Int} (hp : 0 < p) (hUl : Ul < p) (hVl : 0 ≤ Vl) (hg : 0 ≤ g) (h : U3 < g * V2) : Ul + p * U3 < g * (Vl + p * V2) := by
  have h1 := Int.mul_le_mul_of_nonneg_left (show U3 + 1 ≤ g * V2 by omega) (Int.le_of_lt hp)
  have h2 := Int.mul_nonneg hg hVl
  rw [Int.mul_add, Int.mul_one] at h1
  rw [Int.mul_add, Int.mul_left_comm g p]
  omega
theorem kn_high {p Ul U3 Vl V2 g : Int} (hp : 0 < p) (hUl : 0 ≤ Ul) (hVl : 0 ≤ Vl ∧ Vl < p) (hg : 0 ≤ g ∧ g < 4294967296) (hV2 : 4294967296 ≤ V2) (h : g * V2 ≤ U3) : (g - 1) * (Vl + p * V2) ≤ Ul + p * U3 := by
  have h1 := Int.mul_le_mul_of_nonneg_left h (Int.le_of_lt hp)
  have h2 := Int.mul_le_mul_of_nonneg_left (Int.le_of_lt hVl.2) hg.1
  have h3 := Int.mul_le_mul_of_nonneg_right (Int.le_of_lt hg.2) (Int.le_of_lt hp)
  have h4 := Int.mul_le_mul_of_nonneg_left hV2 (Int.le_of_lt hp)
  rw [Int.sub_mul, Int.one_mul, Int.mul_add, Int.mul_left_comm g p]
  rw [Int.mul_comm p 4294967296] at h4
  omega
theorem kn_cmp {g v1 v2 high rest u2 : Int} (h : g * v1 + rest = high) : g * (v2 + 4294967296 * v1) - (u2 + 4294967296 * high) = g * v2 - (rest * 4294967296 + u2) := by
  rw [Int.mul_add, Int.mul_left_comm g 4294967296, ← h]
  omega
/-- the guess ends below 2^32 where what is left outgrows a limb -/
theorem kn_break {g v1 high rest : Int} (h : g * v1 + rest = high) (hr : 4294967296 ≤ rest) (hv : 0 < v1) (hh : high < v1 * 4294967296 + 4294967296) : g < 4294967296 := by
  rcases Int.lt_or_le g 4294967296 with h1 | h1
  · exact h1
  · have h2 := Int.mul_le_mul_of_nonneg_right h1 (Int.le_of_lt hv)
    omega
section
variable {u v : List U32} {m : Nat}
theorem top3 (hu : u.length = m + 3) : valB u = valB (u.take m) + pb m * (lg u m + 4294967296 * (lg u (m + 2) * 4294967296 + lg u (m + 1))) := by
  have h0 := bval_split u (show m ≤ u.length by omega)
  rw [bdrop_step (l := u) (i := m) (by omega), bdrop_step (l := u) (i := m + 1) (by omega), bdrop_step (l := u) (i := m + 1 + 1) (by omega), List.drop_eq_nil_of_le (show u.length ≤ m + 1 + 1 + 1 by omega), valB_nil] at h0
  rw [h0]
  congr 2
  show lg u m + 4294967296 * (lg u (m + 1) + 4294967296 * (lg u (m + 2) + 4294967296 * 0)) = _
  omega
theorem top2 (hv : v.length = m + 2) : valB v = valB (v.take m) + pb m * (lg v m + 4294967296 * lg v (m + 1)) := by
  have h0 := bval_split v (show m ≤ v.length by omega)
  rw [bdrop_step (l := v) (i := m) (by omega), bdrop_step (l := v) (i := m + 1) (by omega), List.drop_eq_nil_of_le (show v.length ≤ m + 1 + 1 by omega), valB_nil] at h0
  rw [h0]
  congr 2
  omega
theorem take_rng {l : List U32} (d : Lims l) (h : m ≤ l.length) : 0 ≤ valB (l.take m) ∧ valB (l.take m) < pb m := by
  have h1 := valB_lt (d.take m)
  rw [List.length_take, Nat.min_eq_left h] at h1
  exact ⟨valB_nonneg (d.take m), h1⟩
variable (hu : u.length = m + 3) (hv : v.length = m + 2) (du : Lims u) (dv : Lims v)
include hu hv du dv
/-- the first guess is not too small -/
theorem kn_first {g rest high : Int} (hh : high = lg u (m + 2) * 4294967296 + lg u (m + 1)) (h1 : 0 < lg v (m + 1)) (hg : g = high / lg v (m + 1)) (hr : rest = high % lg v (m + 1)) :
    g * lg v (m + 1) + rest = high ∧ 0 ≤ g ∧ 0 ≤ rest ∧ rest < lg v (m + 1) ∧ valB u < (g + 1) * valB v := by
  have a1 := lg_rng du (m + 2)
  have a2 := lg_rng du (m + 1)
  have a3 := lg_rng du m
  have a4 := lg_rng dv m
  have hn : 0 ≤ high := by omega
  have e1 := Int.emod_add_mul_ediv high (lg v (m + 1))
  have e2 := Int.emod_lt_of_pos high h1
  have e3 := Int.emod_nonneg high (show lg v (m + 1) ≠ 0 by omega)
  have e4 := Int.ediv_nonneg hn (Int.le_of_lt h1)
  rw [← hg, ← hr] at e1
  rw [← hr] at e2 e3
  rw [← hg] at e4
  rw [Int.mul_comm] at e1
  refine ⟨by omega, e4, e3, e2, ?_⟩
  rw [top3 hu, top2 hv, ← hh]
  refine kn_low (pb_pos m) (take_rng du (by omega)).2 (take_rng dv (by omega)).1 (by omega) ?_
  have e5 : (g + 1) * lg v (m + 1) = g * lg v (m + 1) + lg v (m + 1) := by rw [Int.add_mul, Int.one_mul]
  have e6 := Int.mul_nonneg (show 0 ≤ g + 1 by omega) a4.1
  rw [Int.mul_add, Int.mul_left_comm (g + 1) 4294967296, e5]
  omega
/-- a guess that is too great by what is seen -/
theorem kn_dec {g rest high : Int} (hh : high = lg u (m + 2) * 4294967296 + lg u (m + 1)) (h : g * lg v (m + 1) + rest = high) (hg : 0 ≤ g) (hc : rest * 4294967296 + lg u m < g * lg v m) : valB u < g * valB v := by
  have e := kn_cmp (v2 := lg v m) (u2 := lg u m) h
  rw [top3 hu, top2 hv, ← hh]
  exact kn_low (pb_pos m) (take_rng du (by omega)).2 (take_rng dv (by omega)).1 hg (by omega)
/-- a guess that is at most one too great -/
theorem kn_end {g rest high : Int} (hh : high = lg u (m + 2) * 4294967296 + lg u (m + 1)) (h : g * lg v (m + 1) + rest = high) (hg : 0 ≤ g ∧ g < 4294967296) (h1 : 1 ≤ lg v (m + 1)) (hc : g * lg v m ≤ rest * 4294967296 + lg u m) : (g - 1) * valB v ≤ valB u := by
  have e := kn_cmp (v2 := lg v m) (u2 := lg u m) h
  have a4 := lg_rng dv m
  rw [top3 hu, top2 hv, ← hh]
  exact kn_high (pb_pos m) (take_rng du (by omega)).1 (take_rng dv (by omega)) hg (by omega) (by omega)
end
/-- what is taken away, limb by limb -/
theorem less_next {u v w : List U32} {i : Nat} {t c c' b b' s : Int} (hi : i < w.length) (hv : valB (u.take i) - t * valB (v.take i) = valB (w.take i) - pb i * (b + c)) (hc : c' = c + lg v i * t)
    (hs : s = lg u i - c' % 4294967296 - b + 4294967296 * b') :
    valB (u.take (i + 1)) - t * valB (v.take (i + 1)) = valB ((w.set i ⟨s⟩).take (i + 1)) - pb (i + 1) * (b' + c' / 4294967296) := by
  rw [bval_step, bval_step, bval_step (w.set i _), lg_set hi, List.take_set_of_le (Nat.le_refl i), pb_succ]
  have h1 := bcarry (pb i) c'
  have h2 : pb i * c' = pb i * c + t * (pb i * lg v i) := by rw [hc, Int.mul_add, Int.mul_comm (lg v i) t, Int.mul_left_comm t]
  have h3 : pb i * s = pb i * lg u i - pb i * (c' % 4294967296) - pb i * b + 4294967296 * pb i * b' := by
    rw [hs, Int.mul_add, Int.mul_sub, Int.mul_sub, ← Int.mul_assoc, Int.mul_comm (pb i) 4294967296]
  rw [Int.mul_add] at hv
  rw [Int.mul_add t, Int.mul_add (4294967296 * pb i)]
  omega
theorem less_carry {c x t : Int} (hc : 0 ≤ c ∧ c < 4294967296) (hx : 0 ≤ x ∧ x < 4294967296) (ht : 0 ≤ t ∧ t < 4294967296) : 0 ≤ c + x * t ∧ c + x * t < 18446744073709551616 ∧ 0 ≤ (c + x * t) / 4294967296 ∧ (c + x * t) / 4294967296 < 4294967296 ∧ 0 ≤ x * t ∧ x * t ≤ 18446744065119617025 := by
  have h := bmul_small hx ht
  omega
/-- once is added back -/
theorem back_end {u v w z : List U32} {n : Nat} {g c : Int} (hu : valB w = valB u - g * valB v + pb n) (hlow : (g - 1) * valB v ≤ valB u) (hup : valB u < g * valB v) (hw : w.length = n) (hz : z.length = n) (hvn : valB v < pb n) (hvl : v.length ≤ n) (dz : Lims z) (hc : 0 ≤ c ∧ c ≤ 1)
    (hs : valB (w.take n) + valB (v.take n) = valB (z.take n) + pb n * c) : valB z = valB u - (g - 1) * valB v := by
  rw [take_all (by omega), take_all (by omega), take_all (by omega)] at hs
  have h1 := valB_nonneg dz
  have h2 := valB_lt dz
  rw [hz] at h2
  have e : (g - 1) * valB v = g * valB v - valB v := by rw [Int.sub_mul, Int.one_mul]
  have hc1 : c = 1 := by
    rcases (show c = 0 ∨ c = 1 by omega) with h | h
    · rw [h, Int.mul_zero] at hs; omega
    · exact h
  rw [hc1, Int.mul_one] at hs
  omega
/-- a window of a row is turned -/
theorem win_val (p w w' q : List U32) (h : w'.length = w.length) : valB (p ++ (w' ++ q)) = valB (p ++ (w ++ q)) + pb p.length * (valB w' - valB w) := by
  rw [valB_append, valB_append, valB_append, valB_append, h, Int.mul_add, Int.mul_add, Int.mul_sub]
  omega
/-- one limb of the quotient -/
theorem quo_next {A V q g : Int} {R R' : Int} {l : List U32} {k : Nat} (hk : k < l.length) (hz : lg l k = 0) (hA : A = valB l * V + R) (hR : R' = R + pb k * (-(g * V))) : A = valB (l.set k ⟨g⟩) * V + R' := by
  rw [valB_set l k _ hk, hz, hA, hR, Int.sub_zero, Int.add_mul, Int.mul_assoc, Int.mul_neg]
  show _ = valB l * V + pb k * (g * V) + (R + -(pb k * (g * V)))
  omega
end Go.Sl
set_option linter.unusedVariables false
namespace Go.Sl
open Go
section
variable {P : Program} {ops : Array Oper} {rest : List Oper} {B : Bs} {e : Env} {D : List Deferred} {H : Hp} {G : Imm} {K : Act → World → Prop}
  {ty : TypeId} {pos : String} {after : Array Edge} {d : Nat}
theorem win_get {p w q : List U32} {m : Int} (hm : 0 ≤ m ∧ m < w.length) : (p ++ (w ++ q))[((p.length : Int) + m).toNat]?.getD default = w[m.toNat]?.getD default := by
  have h1 : ((p.length : Int) + m).toNat = p.length + m.toNat := by omega
  rw [h1, List.getElem?_append_right (by omega), Nat.add_sub_cancel_left, List.getElem?_append_left (by omega)]
theorem win_set {p w q : List U32} {m : Int} (hm : 0 ≤ m ∧ m < w.length) (z : U32) : (p ++ (w ++ q)).set ((p.length : Int) + m).toNat z = p ++ (w.set m.toNat z ++ q) := by
  have h1 : ((p.length : Int) + m).toNat = p.length + m.toNat := by omega
  rw [h1, List.set_append_right _ _ (by omega), Nat.add_sub_cancel_left, List.set_append_left _ _ (by omega)]
theorem win_off {k : Nat} {m : Int} (hm : 0 ≤ m) : k + m.toNat * 1 = 0 + ((k : Int) + m).toNat * Cells.sz U32 + 0 := by
  show k + m.toNat * 1 = 0 + ((k : Int) + m).toNat * 1 + 0
  omega
theorem Qy.loadW {T : TypeId} {x : Operand} {b : Nat} {E : TypeId} {p w q : List U32} {junk : List Value} {m : Int} (t : Nat) (h1 : oneB P T = true) (hx : e.ev x = some (.pointer (some ⟨b, p.length + m.toNat * 1, none⟩)))
    (ht : H.get t = some (some b, Row E (p ++ (w ++ q)) junk)) (hm : 0 ≤ m ∧ m < w.length) : Qy P (.load T x) ty e H G (.int .u32 (w[m.toNat]?.getD default).v) := by
  rw [win_off hm.1] at hx
  refine Qy.loadF (m := (p.length : Int) + m) t 0 h1 hx ht ⟨by omega, by rw [List.length_append, List.length_append]; omega⟩ rfl ?_
  rw [win_get hm]; rfl
theorem Wl.setW {T : TypeId} {x y : Operand} {b : Nat} {E : TypeId} {p w q : List U32} {junk : List Value} {m n : Int} (t : Nat) (hs : (P.info? T).map (·.size) = some 1)
    (hx : e.ev x = some (.pointer (some ⟨b, p.length + m.toNat * 1, none⟩))) (hy : e.ev y = some (.int .u32 n)) (ht : H.get t = some (some b, Row E (p ++ (w ++ q)) junk)) (hm : 0 ≤ m ∧ m < w.length)
    (h : Wl P ops rest B ⟨e, D, (t, some b, Row E (p ++ (w.set m.toNat ⟨n⟩ ++ q)) junk) :: H, G⟩ K) : Wl P ops (⟨none, .store T x y, ty, pos, after, none⟩ :: rest) B ⟨e, D, H, G⟩ K := by
  rw [win_off hm.1] at hx
  refine Wl.setF (m := (p.length : Int) + m) (z := (⟨n⟩ : U32)) t hs hx hy rfl ht ⟨by omega, by rw [List.length_append, List.length_append]; omega⟩ ?_
  rw [win_set hm]; exact h
theorem Qy.cutHM {T : TypeId} {x hi mx : Operand} {a : Option Addr} {n c E sz : Nat} {k k' : IntKind} {m m' : Int} (hT : isSlice P T E sz) (hx : e.ev x = some (.slice a n c)) (hh : e.ev hi = some (.int k m)) (hh' : e.ev mx = some (.int k' m')) (h0 : 0 ≤ m) (h1 : m ≤ m') (h2 : m' ≤ c) :
    Qy P (.slice T x none (some hi) (some mx)) ty e H G (.slice (subA a m'.toNat 0 sz) m.toNat m'.toNat) := fun ac w _ _ _ _ hk => by
  have hr := run_sizeOf (P := P) w hT.2
  have hu : P.underlying T = some (.slice (P.elem T)) := by simp [Program.elem, hT.1]
  have he : P.elem T = E := by simp [Program.elem, hT.1]
  have := run_slice_hm (P := P) (w := w) T a n c hu k k' m m' h0 h1 h2
  simp only [execOp, hk.eval hx, Option.map_some, Option.map_none, hk.eval hh, hk.eval hh', Sem.run_bind, run_sliceAt_slice (P := P) (w := w) T _ _ _ _ hu, this, he, hr, Result.andThen_ok, Sem.run_pure, sliced, subA, Nat.sub_zero]
end
end Go.Sl
set_option linter.unusedVariables false
namespace Go.Sl
open Go
section
variable {P : Program} {ops : Array Oper} {rest : List Oper} {B : Bs} {e : Env} {D : List Deferred} {H : Hp} {G : Imm} {K : Act → World → Prop}
  {ty : TypeId} {pos : String} {after : Array Edge} {d : Nat} {α : Type} [Cells α]
theorem run_copyRow {w : World} (hw : HoldH H G w) {T T2 E : Nat} (hT : isSlice P T E (Cells.sz α)) {t b : Nat} {ad : Option Addr} {c c2 : Nat} {xs ys : List α} {junk : List Value}
    (ht : H.get t = some (some b, Row E xs junk)) (hsrc : Src H G ad ys) (hle : ys.length ≤ xs.length) :
    ∃ w', (Builtin.copy_ #[T, T2] ty #[.slice (some ⟨b, 0, none⟩) xs.length c, .slice ad ys.length c2]).run P w = .ok (.int .i64 (ys.length : Int)) w' ∧ Upd (· = b) w w' ∧ w'.heap[b]? = some (Row E (ys ++ xs.drop ys.length) junk) := by
  have hb := hw.own t b _ ht
  have hmin : Nat.min ys.length xs.length = ys.length := Nat.min_eq_left hle
  cases hq : P.info? E with
  | none => have := hT.2; simp [hq] at this
  | some i =>
    have hi : i.size = Cells.sz α := by have := hT.2; simpa [hq] using this
    rcases hsrc w hw with ⟨rfl, rfl⟩ | ⟨src, rfl, hsr⟩
    · refine ⟨w, ?_, Upd.refl _ _, by simpa using hb⟩
      have hm0 : Nat.min (0 : Nat) xs.length = 0 := Nat.zero_min _
      simp [Builtin.copy_, run_underlying hT.1, Builtin.lenOf, Builtin.firstCells, sizeOf, typeInfo, hq, storeCells, hm0, goInt]
    · have hl := run_loadCells_list (P := P) w src (flat ys) hsr
      have hfy : (flat ys).length = ys.length * Cells.sz α := flat_length ys
      have hfx : (flat xs).length = xs.length * Cells.sz α := flat_length xs
      have hmul := Nat.mul_le_mul_right (Cells.sz α) hle
      have hfit : 0 + 0 + (flat ys).length ≤ ((flat xs ++ junk).toArray).size := by
        rw [List.size_toArray, List.length_append]; omega
      have hst := run_storeCells_at P b 0 E (flat ys) 0 (flat xs ++ junk).toArray w hb hfit (fun v hv => List.all_eq_true.1 (flat_all ys) v hv)
      refine ⟨_, ?_, setRow_upd w b (((flat xs ++ junk).toArray.toList.take (0 + 0) ++ flat ys ++ (flat xs ++ junk).toArray.toList.drop (0 + 0 + (flat ys).length)).toArray), ?_⟩
      · rw [hfy] at hl
        simp [Builtin.copy_, run_underlying hT.1, Builtin.lenOf, Builtin.firstCells, sizeOf, typeInfo, hq, hi, hmin, hl, hst, goInt]
      · rw [setRow_heap w b _ _ E _ hb]
        have hsplit : flat xs = flat (xs.take ys.length) ++ flat (xs.drop ys.length) := by rw [← flat_append, List.take_append_drop]
        have htl : (flat (xs.take ys.length)).length = (flat ys).length := by rw [flat_length, flat_length, List.length_take, Nat.min_eq_left hle]
        unfold Row
        rw [flat_append]
        simp only [Nat.add_zero, Nat.zero_add, List.take_zero, List.nil_append]
        rw [hsplit, List.append_assoc, ← htl, List.drop_left, List.append_assoc]
theorem Wl.copyRow {x y : Operand} {T T2 E b : Nat} {ad : Option Addr} {c c2 : Nat} {xs ys : List α} {junk : List Value} (t : Nat) (hn : Nat.ble (d + 1) B.n = true) (hT : isSlice P T E (Cells.sz α))
    (hx : e.ev x = some (.slice (some ⟨b, 0, none⟩) xs.length c)) (hy : e.ev y = some (.slice ad ys.length c2)) (ht : H.get t = some (some b, Row E xs junk)) (hsrc : Src H G ad ys) (hle : ys.length ≤ xs.length)
    (h : Wl P ops rest B ⟨(d, .int .i64 (ys.length : Int)) :: e, D, (t, some b, Row E (ys ++ xs.drop ys.length) junk) :: H, G⟩ K) :
    Wl P ops (⟨some d, .call { callee := .builtin .copy, args := #[x, y], argTypes := #[T, T2] }, ty, pos, after, none⟩ :: rest) B ⟨e, D, H, G⟩ K := by
  refine Wl.writes (v := .int .i64 (ys.length : Int)) (x := .value (.int .i64 (ys.length : Int))) ht (.inr ⟨rfl, d, rfl, hn⟩) (fun a w hh => ?_) h
  obtain ⟨w', hrun, hu, hb⟩ := run_copyRow (c := c) (c2 := c2) (T2 := T2) (ty := ty) hh.mem hT ht hsrc hle
  refine ⟨w', ?_, hu, hb⟩
  simp only [execOp, resolve, invoke, builtin, Sem.run_bind, Sem.run_pure, Result.andThen_ok, List.map_toArray, List.map_cons, List.map_nil, hh.eval hx, hh.eval hy, hrun]
end
/-- what is less than nought comes round -/
theorem Qy.usubN {P : Program} {e : Env} {H : Hp} {G : Imm} {ty t t' : TypeId} {x y : Operand} {m n : Int} (hx : e.ev x = some (.int .u64 m)) (hy : e.ev y = some (.int .u64 n)) (h0 : m < n ∧ 0 ≤ m ∧ n ≤ 18446744073709551615) : Qy P (.binOp .sub t x y t') ty e H G (.int .u64 (m - n + 18446744073709551616)) := by
  have h := Qy.subW (P := P) (H := H) (G := G) (ty := ty) (t := t) (t' := t') hx hy
  have e1 : IntKind.u64.wrap (m - n) = m - n + 18446744073709551616 := by rw [IntKind.wrap_u64]; omega
  rw [e1] at h; exact h
/-- a function that looks at nothing and answers a value -/
theorem Does.pureCalls {P : Program} {f : FuncId} {args : List Value} {G : Imm} {u : Value} (h : ∀ w, Calls P f args.toArray w fun e w' => e = .returned u ∧ w' = w) : Does P f args G [] (fun v G' Ho => v = u ∧ G' = G ∧ Ho = []) :=
  fun w hw => (h w).mono fun e w' he => by
    obtain ⟨rfl, rfl⟩ := he
    exact ⟨u, G, [], rfl, hw, Imm.le_refl G, Upd.refl _ _, fun b h1 h2 => absurd h2 h1, fun t b o ht => by simp [Hp.get] at ht, rfl, rfl, rfl⟩
end Go.Sl
set_option linter.unusedVariables false
namespace Go.Proofs.Ytbppmiimeccclaa
open Go Go.Sl
def p2 (n : Nat) : Int := ((2 ^ n : Nat) : Int)
theorem p2_pos (n : Nat) : 0 < p2 n := by unfold p2; exact Int.ofNat_lt.2 (Nat.pow_pos (by decide))
theorem p2_le {m n : Nat} (h : m ≤ n) : p2 m ≤ p2 n := by unfold p2; exact Int.ofNat_le.2 (Nat.pow_le_pow_right (by decide) h)
/-- what an instruction multiplies or divides by -/
def cst (i : Sl.Instr) : Int := if i.op = 5 ∨ i.op = 6 then i.c else p2 i.c.toNat
theorem cst_c {i : Sl.Instr} (h : i.op = 5 ∨ i.op = 6) : cst i = i.c := if_pos h
theorem cst_p {i : Sl.Instr} (h : ¬ (i.op = 5 ∨ i.op = 6)) : cst i = p2 i.c.toNat := if_neg h
end Go.Proofs.Ytbppmiimeccclaa
set_option linter.unusedVariables false
namespace Go.Proofs.Ytbppmiimeccclaa
open Go Go.Sl
def AllDiv (y : Int) (xs : List Int) : Prop := ∀ i : Nat, i < xs.length → xs[i]?.getD 0 % y = 0
instance (y : Int) (xs : List Int) : Decidable (AllDiv y xs) := by unfold AllDiv; infer_instance
/-- one instruction over all columns -/
def doI (i : Sl.Instr) (rs : List (List Int)) : Option (List Int) :=
  let a := rs[i.a.toNat]?.getD []
  if i.op = 2 then some (a.map (fun x => -1 * x))
  else if i.op = 3 then some (List.zipWith (fun x y => x + 1 * y) a (rs[i.b.toNat]?.getD []))
  else if i.op = 4 then some (List.zipWith (fun x y => x + (-1) * y) a (rs[i.b.toNat]?.getD []))
  else if i.op = 5 ∨ i.op = 7 then some (a.map (fun x => cst i * x))
  else if i.op = 6 ∨ i.op = 8 then (if AllDiv (cst i) a then some (a.map (· / cst i)) else none)
  else some a
/-- the registers at first -/
def regs0 (p : PV) (gs : List (List Int)) : List (List Int) := (List.range p.regs.toNat).map fun k => if k < gs.length then gs[k]?.getD [] else List.replicate (gs[0]?.getD []).length 0
/-- the registers after k instructions -/
def runTo (p : PV) (gs : List (List Int)) : Nat → Option (List (List Int))
  | 0 => some (regs0 p gs)
  | k + 1 => (runTo p gs k).bind fun rs => (doI (p.code[((k : Nat) : Int).toNat]?.getD default) rs).map fun x => rs.set (p.code[((k : Nat) : Int).toNat]?.getD default).to.toNat x
/-- the answers' rows -/
def outsOf (p : PV) (rs : List (List Int)) : List (List Int) := p.outs.map fun r => rs[r.toNat]?.getD []
def followP (p : PV) (gs : List (List Int)) : Option (List (List Int)) := (runTo p gs p.code.length).map (outsOf p)
theorem runTo_succ {p : PV} {gs : List (List Int)} {k : Nat} {rs x : List (List Int)} {y : List Int} (h : runTo p gs k = some rs) (hd : doI (p.code[((k : Nat) : Int).toNat]?.getD default) rs = some y) :
    runTo p gs (k + 1) = some (rs.set (p.code[((k : Nat) : Int).toNat]?.getD default).to.toNat y) := by
  unfold runTo; rw [h]; simp only [Option.bind_some, hd, Option.map_some]
theorem runTo_none {p : PV} {gs : List (List Int)} {k : Nat} (h : runTo p gs k = none) (j : Nat) : runTo p gs (k + j) = none := by
  induction j with
  | zero => exact h
  | succ j ih => rw [← Nat.add_assoc]; unfold runTo; rw [ih]; rfl
theorem p2_64_lt : ∀ c : Nat, c ≤ 64 → ((p2 c).natAbs : Int) < pw 5 := fun c hc => by
  have h1 := p2_le hc
  have h2 := p2_pos c
  have h3 : p2 64 < pw 5 := by unfold p2 pw; decide
  omega
theorem may_facts {i : Sl.Instr} {regs : Int} (h : mayOk i regs = true) : (1 ≤ i.op ∧ i.op ≤ 8) ∧ (0 ≤ i.to ∧ i.to < regs) ∧ (0 ≤ i.a ∧ i.a < regs) ∧ (i.op = 3 ∨ i.op = 4 → 0 ≤ i.b ∧ i.b < regs) ∧ constOk i.op i.c = true ∧
    (i.op ≠ 1 → i.op ≠ 2 → i.op ≠ 3 → i.op ≠ 4 → cst i ≠ 0 ∧ ((cst i).natAbs : Int) < pw 5) ∧ (i.op = 5 ∨ i.op = 6 → -9223372036854775808 ≤ i.c ∧ i.c ≤ 9223372036854775807) ∧ (¬ (i.op = 5 ∨ i.op = 6) → 0 ≤ i.c ∧ i.c ≤ 64) := by
  unfold mayOk at h
  rw [Bool.and_eq_true, Bool.and_eq_true, decide_eq_true_eq, List.all_eq_true] at h
  obtain ⟨⟨⟨g1, g2, g3, g4, g5⟩, g6⟩, g7⟩ := h
  have hA : ∀ r ∈ asks i, 0 ≤ r ∧ r < regs := fun r hr => by have := g7 r hr; rwa [decide_eq_true_eq] at this
  have ha : i.a ∈ asks i := by
    unfold asks
    split
    · exact List.mem_cons_self
    · rw [if_pos ⟨g1, g2⟩]; exact List.mem_cons_self
  have hc := g6
  unfold constOk at g6
  have k1 : i.op = 5 ∨ i.op = 6 → i.c ≠ 0 ∧ -512 ≤ i.c ∧ i.c ≤ 512 := fun h => by rw [if_pos h, decide_eq_true_eq] at g6; exact g6
  have k2 : ¬ (i.op = 5 ∨ i.op = 6) → (i.op = 7 ∨ i.op = 8 → 1 ≤ i.c ∧ i.c ≤ 64) ∧ (¬ (i.op = 7 ∨ i.op = 8) → i.c = 0) := fun h => by
    rw [if_neg h] at g6
    refine ⟨fun h2 => ?_, fun h2 => ?_⟩
    · rw [if_pos h2, decide_eq_true_eq] at g6; exact g6
    · rw [if_neg h2, decide_eq_true_eq] at g6; exact g6
  refine ⟨⟨g1, g2⟩, ⟨g3, g4⟩, hA _ ha, fun h34 => hA _ (by unfold asks; rw [if_pos h34]; exact List.mem_cons_of_mem _ List.mem_cons_self), hc, fun n1 n2 n3 n4 => ?_, fun h56 => by have := k1 h56; omega, fun h56 => ?_⟩
  · by_cases h56 : i.op = 5 ∨ i.op = 6
    · rw [cst_c h56]
      have := k1 h56
      have h3 : (65536 : Int) < pw 5 := by unfold pw; decide
      exact ⟨this.1, by omega⟩
    · rw [cst_p h56]
      have h2 := (k2 h56).1 (by omega)
      have := p2_pos i.c.toNat
      exact ⟨by omega, p2_64_lt _ (by omega)⟩
  · by_cases h78 : i.op = 7 ∨ i.op = 8
    · have := (k2 h56).1 h78; omega
    · have := (k2 h56).2 h78; omega
theorem regs0_len (p : PV) (gs : List (List Int)) : (regs0 p gs).length = p.regs.toNat := by unfold regs0; rw [List.length_map, List.length_range]
theorem regs0_at {p : PV} {gs : List (List Int)} {k : Nat} (hk : k < p.regs.toNat) : (regs0 p gs)[k]?.getD [] = if k < gs.length then gs[k]?.getD [] else List.replicate (gs[0]?.getD []).length 0 := by
  unfold regs0
  rw [List.getElem?_map, List.getElem?_range hk]; rfl
end Go.Proofs.Ytbppmiimeccclaa
set_option linter.unusedVariables false
namespace Go.Proofs.Ytbppmiimeccclaa
open Go Go.Sl
/-- one operation on rows -/
def doV (op c : Int) (a b : List Int) : Option (List Int) := doI ⟨op, 0, 0, 1, c⟩ [a, b]
theorem doI_doV (i : Sl.Instr) (rs : List (List Int)) : doI i rs = doV i.op i.c (rs[i.a.toNat]?.getD []) (rs[i.b.toNat]?.getD []) := rfl
theorem zip_comm (a b : List Int) : List.zipWith (fun x y => x + 1 * y) a b = List.zipWith (fun x y => x + 1 * y) b a := by
  rw [List.zipWith_comm]
  congr 1
  funext x y
  omega
theorem doV_comm (c : Int) (a b : List Int) : doV 3 c a b = doV 3 c b a := by
  show some (List.zipWith (fun x y => x + 1 * y) a b) = some (List.zipWith (fun x y => x + 1 * y) b a)
  rw [zip_comm]
theorem doV_one {op : Int} (h : ¬ (op = 3 ∨ op = 4)) (c : Int) (a b b' : List Int) : doV op c a b = doV op c a b' := by
  have h3 : ¬ op = 3 := fun e => h (.inl e)
  have h4 : ¬ op = 4 := fun e => h (.inr e)
  unfold doV doI
  simp only [h3, h4, if_false]
  rfl
/-- a key, over the values' rows -/
def evalK (E : Int → List Int) (k : K4) : Option (List Int) := doV k.op k.c (E k.a) (E k.b)
theorem evalK_key {E : Int → List Int} {held : List Int} {rs : List (List Int)} {regs : Int} {i : Sl.Instr} (hm : mayOk i regs = true) (hv : ∀ r : Int, 0 ≤ r ∧ r < regs → rs[r.toNat]?.getD [] = E (held[r.toNat]?.getD default)) :
    evalK E (keyOf held i) = doI i rs := by
  obtain ⟨m1, m2, m3, m4, m5, m6, m7, m8⟩ := may_facts hm
  rw [doI_doV, hv _ m3]
  unfold keyOf
  by_cases h34 : i.op = 3 ∨ i.op = 4
  · rw [hv _ (m4 h34)]
    simp only [if_pos h34]
    split
    · rename_i hsw
      unfold evalK
      simp only
      rw [hsw.1]
      exact doV_comm _ _ _
    · rfl
  · simp only [if_neg h34]
    exact doV_one h34 _ _ _ _
/-- code run over registers -/
def runL : List Sl.Instr → List (List Int) → Option (List (List Int))
  | [], rs => some rs
  | i :: l, rs => (doI i rs).bind fun x => runL l (rs.set i.to.toNat x)
theorem runL_append (l m : List Sl.Instr) (rs : List (List Int)) : runL (l ++ m) rs = (runL l rs).bind (runL m) := by
  induction l generalizing rs with
  | nil => rfl
  | cons i l ih =>
    show (doI i rs).bind (fun x => runL (l ++ m) (rs.set i.to.toNat x)) = _
    show _ = ((doI i rs).bind fun x => runL l (rs.set i.to.toNat x)).bind (runL m)
    cases doI i rs with
    | none => rfl
    | some x => exact ih _
theorem runL_snoc {l : List Sl.Instr} {i : Sl.Instr} {rs : List (List Int)} : runL (l ++ [i]) rs = (runL l rs).bind fun r => (doI i r).map fun x => r.set i.to.toNat x := by
  rw [runL_append]
  congr 1
  funext r
  show (doI i r).bind (fun x => runL [] (r.set i.to.toNat x)) = _
  cases doI i r <;> rfl
theorem runTo_runL (p : PV) (gs : List (List Int)) : ∀ k, k ≤ p.code.length → runTo p gs k = runL (p.code.take k) (regs0 p gs)
  | 0, _ => by rw [List.take_zero]; rfl
  | k + 1, h => by
    have hk : k < p.code.length := by omega
    have e : p.code.take (k + 1) = p.code.take k ++ [p.code[((k : Nat) : Int).toNat]?.getD default] := by
      rw [List.take_succ_eq_append_getElem hk, Int.toNat_natCast, List.getElem?_eq_getElem hk]; rfl
    rw [e, runL_snoc, ← runTo_runL p gs k (by omega)]
    rfl
end Go.Proofs.Ytbppmiimeccclaa
set_option linter.unusedVariables false
namespace Go.Proofs.Ytbppmiimeccclaa
open Go Go.Sl
/-- the registers hold what the table says -/
structure Val (t : Tab) (rs : List (List Int)) (E : Int → List Int) (regs : Int) : Prop where
  len : (rs.length : Int) = regs
  reg : ∀ r : Int, 0 ≤ r ∧ r < regs → rs[r.toNat]?.getD [] = E (t.held[r.toNat]?.getD default)
  key : ∀ k v, mget t.known k = some v → evalK E k = some (E v)
  old : ∀ k v, mget t.known k = some v → k.a < t.next ∧ k.b < t.next
  pos : 0 ≤ t.next
theorem key_old {t : Tab} {regs : Int} {i : Sl.Instr} (hs : Sound t regs) (hp : 0 ≤ t.next) (hm : mayOk i regs = true) : (keyOf t.held i).a < t.next ∧ (keyOf t.held i).b < t.next := by
  obtain ⟨m1, m2, m3, m4, m5, m6, m7, m8⟩ := may_facts hm
  have hl := hs.len
  have ha := hs.held _ (get_mem (l := t.held) (r := i.a) (by omega))
  unfold keyOf
  by_cases h34 : i.op = 3 ∨ i.op = 4
  · have hb := hs.held _ (get_mem (l := t.held) (r := i.b) (by have := m4 h34; omega))
    simp only [if_pos h34]
    split
    · exact ⟨hb, ha⟩
    · exact ⟨ha, hb⟩
  · simp only [if_neg h34]
    exact ⟨ha, by show (-1 : Int) < _; omega⟩
theorem doI_asked {t : Tab} {rs : List (List Int)} {E : Int → List Int} {regs : Int} {i : Sl.Instr} (hs : Sound t regs) (hv : Val t rs E regs) (hm : mayOk i regs = true) : doI (askedP t.held i) rs = doI i rs := by
  obtain ⟨m1, m2, m3, m4, m5, m6, m7, m8⟩ := may_facts hm
  have hl := hs.len
  obtain ⟨a1, a2, a3⟩ := holder_get (l := t.held) (r := i.a) (by omega)
  have ea : rs[(holder t.held (t.held[i.a.toNat]?.getD default)).toNat]?.getD [] = rs[i.a.toNat]?.getD [] := by
    rw [hv.reg _ ⟨a1, by omega⟩, hv.reg _ m3, a3]
  rw [doI_doV, doI_doV i]
  unfold askedP
  simp only
  rw [ea]
  by_cases h34 : i.op = 3 ∨ i.op = 4
  · obtain ⟨b1, b2, b3⟩ := holder_get (l := t.held) (r := i.b) (by have := m4 h34; omega)
    have eb : rs[(holder t.held (t.held[i.b.toNat]?.getD default)).toNat]?.getD [] = rs[i.b.toNat]?.getD [] := by
      rw [hv.reg _ ⟨b1, by omega⟩, hv.reg _ (m4 h34), b3]
    rw [if_pos h34, eb]
  · exact doV_one h34 _ _ _ _
theorem reckon_val {t : Tab} {rs : List (List Int)} {E : Int → List Int} {regs n : Int} {i : Sl.Instr} {x : List Int} (hs : Sound t regs) (hv : Val t rs E regs) (hm : mayOk i regs = true) (hd : doI i rs = some x) :
    ∃ E1, Val (reckonP t n i).2 rs E1 regs ∧ E1 (reckonP t n i).1.1 = x := by
  obtain ⟨m1, m2, m3, m4, m5, m6, m7, m8⟩ := may_facts hm
  have hl := hs.len
  have hk := evalK_key hm hv.reg
  unfold reckonP
  by_cases h1 : i.op = 1
  · rw [if_pos h1]
    refine ⟨E, hv, ?_⟩
    have : doI i rs = some (rs[i.a.toNat]?.getD []) := by unfold doI; simp [h1]
    rw [this] at hd
    cases hd
    exact (hv.reg _ m3).symm
  · rw [if_neg h1]
    cases hg : mget t.known (keyOf t.held i) with
    | some v =>
      refine ⟨E, hv, ?_⟩
      have e := hv.key _ _ hg
      rw [hk, hd] at e
      exact (Option.some.inj e).symm
    | none =>
      have hold : ∀ y : Int, y < t.next → (fun z => if z = t.next then x else E z) y = E y := fun y hy => if_neg (by omega)
      have hev : ∀ k : K4, k.a < t.next ∧ k.b < t.next → evalK (fun z => if z = t.next then x else E z) k = evalK E k := fun k hk => by
        unfold evalK; rw [hold _ hk.1, hold _ hk.2]
      have hgm : ∀ k, mget (t.known ++ [(keyOf t.held i, t.next)]) k = if keyOf t.held i = k then some t.next else mget t.known k := fun k => by
        rw [← mput_none _ _ _ hg, mget_mput]; by_cases he : k = keyOf t.held i <;> simp [he, eq_comm]
      refine ⟨fun z => if z = t.next then x else E z, ⟨hv.len, fun r hr => ?_, fun k v hkv => ?_, fun k v hkv => ?_, by have := hv.pos; show (0 : Int) ≤ t.next + 1; omega⟩, if_pos rfl⟩
      · have := hs.held _ (get_mem (l := t.held) (r := r) (by omega))
        exact (hv.reg r hr).trans (hold _ this).symm
      · have hkv : mget (t.known ++ [(keyOf t.held i, t.next)]) k = some v := hkv
        rw [hgm] at hkv
        split at hkv
        · rename_i he
          cases hkv
          subst he
          rw [hev _ (key_old hs hv.pos hm), hk, hd]
          exact congrArg some (if_pos rfl).symm
        · have hlt := hs.known _ _ hkv
          rw [hev _ (hv.old _ _ hkv), hv.key _ _ hkv]
          exact congrArg some (hold _ hlt).symm
      · have hkv : mget (t.known ++ [(keyOf t.held i, t.next)]) k = some v := hkv
        rw [hgm] at hkv
        show k.a < t.next + 1 ∧ k.b < t.next + 1
        split at hkv
        · rename_i he
          subst he
          have := key_old hs hv.pos hm
          omega
        · have := hv.old _ _ hkv
          omega
end Go.Proofs.Ytbppmiimeccclaa
set_option linter.unusedVariables false
namespace Go.Proofs.Ytbppmiimeccclaa
open Go Go.Sl
theorem rows_get_set {l : List (List Int)} {k : Nat} {x : List Int} {r : Int} (hr : 0 ≤ r ∧ r < l.length) : (l.set k x)[r.toNat]?.getD [] = if (k : Int) = r then x else l[r.toNat]?.getD [] := by
  have h1 : r.toNat < l.length := by omega
  rw [List.getElem?_set]
  by_cases h : (k : Int) = r
  · rw [if_pos (by omega), if_pos (by omega), if_pos h]; rfl
  · rw [if_neg (by omega), if_neg h]
theorem ints_get_set {l : List Int} {k : Nat} {x : Int} {r : Int} (hr : 0 ≤ r ∧ r < l.length) : (l.set k x)[r.toNat]?.getD default = if (k : Int) = r then x else l[r.toNat]?.getD default := by
  have h1 : r.toNat < l.length := by omega
  rw [List.getElem?_set]
  by_cases h : (k : Int) = r
  · rw [if_pos (by omega), if_pos (by omega), if_pos h]; rfl
  · rw [if_neg (by omega), if_neg h]
theorem set_self_row {l : List (List Int)} {k : Nat} (hk : k < l.length) {x : List Int} (h : l[k]?.getD [] = x) : l.set k x = l := by
  rw [List.getElem?_eq_getElem hk] at h
  have h : l[k] = x := h
  rw [← h, List.set_getElem_self]
theorem step_val {t : Tab} {rs r0 : List (List Int)} {E : Int → List Int} {regs n : Int} {i : Sl.Instr} {x : List Int} {out : List Sl.Instr} (hs : Sound t regs) (hv : Val t rs E regs) (hm : mayOk i regs = true) (hr : runL out r0 = some rs) (hd : doI i rs = some x) :
    runL (passStep (t, out) n i).2 r0 = some (rs.set i.to.toNat x) ∧ ∃ E1, Val (passStep (t, out) n i).1 (rs.set i.to.toNat x) E1 regs := by
  obtain ⟨m1, m2, m3, m4, m5, m6, m7, m8⟩ := may_facts hm
  obtain ⟨E1, hv1, hx⟩ := reckon_val (n := n) hs hv hm hd
  have hh := reckon_held t n i
  have hl := hs.len
  have hrl := hv.len
  have hask := doI_asked hs hv hm
  unfold passStep
  simp only
  split
  · rename_i hc
    have e : rs.set i.to.toNat x = rs := set_self_row (by omega) (by rw [hv1.reg _ m2, hc, hx])
    rw [e]
    exact ⟨hr, E1, hv1⟩
  · rename_i hc
    refine ⟨?_, E1, ⟨by rw [List.length_set]; exact hrl, fun r hr9 => ?_, hv1.key, hv1.old, hv1.pos⟩⟩
    · rw [runL_snoc, hr]
      show ((doI _ rs).map fun x => rs.set _ x) = _
      split
      · rename_i h0
        obtain ⟨g1, g2⟩ := holder_some h0
        have e : doI ⟨1, (askedP (reckonP t n i).2.held i).to, holder (reckonP t n i).2.held (reckonP t n i).1.1, 0, 0⟩ rs = some x := by
          show some (rs[(holder (reckonP t n i).2.held (reckonP t n i).1.1).toNat]?.getD []) = some x
          rw [hv1.reg _ ⟨h0, by rw [hh] at g1 ⊢; omega⟩, g2, hx]
        rw [e]; rfl
      · rw [hh, hask, hd]; rfl
    · rw [rows_get_set (by omega)]
      show _ = E1 (((reckonP t n i).2.held.set i.to.toNat (reckonP t n i).1.1)[r.toNat]?.getD default)
      rw [ints_get_set (by rw [hh]; omega)]
      split
      · exact hx.symm
      · exact hv1.reg r hr9
theorem step_none {t : Tab} {rs r0 : List (List Int)} {E : Int → List Int} {regs n : Int} {i : Sl.Instr} {out : List Sl.Instr} (hs : Sound t regs) (hv : Val t rs E regs) (hm : mayOk i regs = true) (hr : runL out r0 = some rs) (hd : doI i rs = none) :
    runL (passStep (t, out) n i).2 r0 = none := by
  obtain ⟨m1, m2, m3, m4, m5, m6, m7, m8⟩ := may_facts hm
  have hh := reckon_held t n i
  have hl := hs.len
  have hask := doI_asked hs hv hm
  have hk := evalK_key hm hv.reg
  have h1 : ¬ i.op = 1 := fun h => by
    have : doI i rs = some (rs[i.a.toNat]?.getD []) := by unfold doI; simp [h]
    rw [this] at hd; cases hd
  have hg : mget t.known (keyOf t.held i) = none := by
    cases hg : mget t.known (keyOf t.held i) with
    | none => rfl
    | some v => have := hv.key _ _ hg; rw [hk, hd] at this; cases this
  have hn : (reckonP t n i).1.1 = t.next := by unfold reckonP; rw [if_neg h1, hg]
  have hto := hs.held _ (get_mem (l := t.held) (r := i.to) (by omega))
  have hho := holder_lt (l := t.held) (v := t.next) (n := t.next) hs.held (Int.le_refl _)
  unfold passStep
  simp only
  rw [hn, hh, if_neg (by omega), hho, if_neg (by decide), runL_snoc, hr]
  show ((doI _ rs).map fun x => rs.set _ x) = _
  rw [hask, hd]; rfl
end Go.Proofs.Ytbppmiimeccclaa
set_option linter.unusedVariables false
namespace Go.Proofs.Ytbppmiimeccclaa
open Go Go.Sl
theorem step_sound {t : Tab} {regs n : Int} {i : Sl.Instr} {out : List Sl.Instr} (hs : Sound t regs) (hm : mayOk i regs = true) : Sound (passStep (t, out) n i).1 regs := by
  obtain ⟨m1, m2, m3, m4, m5, m6, m7, m8⟩ := may_facts hm
  obtain ⟨s1, s2⟩ := reckon_sound hs n i m3
  unfold passStep
  simp only
  split
  · exact s1
  · refine ⟨set_len s1.len, fun x hx => ?_, s1.known⟩
    rcases List.mem_or_eq_of_mem_set hx with h | h
    · exact s1.held x h
    · rw [h]; exact s2
theorem step_dead {t : Tab} {n : Int} {i : Sl.Instr} {out : List Sl.Instr} {r0 : List (List Int)} (h : runL out r0 = none) : runL (passStep (t, out) n i).2 r0 = none := by
  unfold passStep
  simp only
  split
  · exact h
  · rw [runL_snoc, h]; rfl
theorem start_val {p : PV} {gs : List (List Int)} (h : 1 ≤ p.ins ∧ p.ins ≤ p.regs) (hg : (gs.length : Int) = p.ins) :
    Val ⟨start p, [], [], p.ins + 1⟩ (regs0 p gs) (fun v => if v < p.ins then gs[v.toNat]?.getD [] else List.replicate (gs[0]?.getD []).length 0) p.regs := by
  refine ⟨by rw [regs0_len]; omega, fun r hr => ?_, fun k v hk => (nomatch (show (none : Option Int) = some v from hk)), fun k v hk => (nomatch (show (none : Option Int) = some v from hk)), by show (0 : Int) ≤ p.ins + 1; omega⟩
  have e : (start p)[r.toNat]?.getD default = if p.ins < r then p.ins else r := by
    unfold start
    rw [List.getElem?_map, List.getElem?_range (by omega)]
    show (if p.ins < ((r.toNat : Nat) : Int) then p.ins else ((r.toNat : Nat) : Int)) = _
    rw [Int.toNat_of_nonneg hr.1]
  show _ = (fun v : Int => if v < p.ins then gs[v.toNat]?.getD [] else List.replicate (gs[0]?.getD []).length 0) ((start p)[r.toNat]?.getD default)
  rw [regs0_at (by omega), e]
  by_cases h1 : r < p.ins
  · rw [if_pos (by omega)]
    show _ = if (if p.ins < r then p.ins else r) < p.ins then _ else _
    rw [if_neg (show ¬ p.ins < r by omega), if_pos h1]
  · rw [if_neg (by omega)]
    show _ = if (if p.ins < r then p.ins else r) < p.ins then _ else _
    rw [if_neg (by split <;> omega)]
theorem pass_run {p : PV} {gs : List (List Int)} (hR : rightP p = true) (hg : (gs.length : Int) = p.ins) : ∀ k, k ≤ p.code.length →
    Sound (passTo p k).1 p.regs ∧ ((∃ rs E, runTo p gs k = some rs ∧ runL (passTo p k).2 (regs0 p gs) = some rs ∧ Val (passTo p k).1 rs E p.regs) ∨ (runTo p gs k = none ∧ runL (passTo p k).2 (regs0 p gs) = none))
  | 0, _ => by
    obtain ⟨f1, f2, f3, f4, f5, f6, f7, f8⟩ := right_facts hR
    exact ⟨start_sound ⟨f1, f2⟩, .inl ⟨_, _, rfl, rfl, start_val ⟨f1, f2⟩ hg⟩⟩
  | k + 1, h => by
    obtain ⟨f1, f2, f3, f4, f5, f6, f7, f8⟩ := right_facts hR
    obtain ⟨hs, ih⟩ := pass_run hR hg k (by omega)
    have hm : mayOk (p.code[((k : Nat) : Int).toNat]?.getD default) p.regs = true := by
      refine f8 _ ?_
      rw [Int.toNat_natCast, List.getElem?_eq_getElem (by omega)]; exact List.getElem_mem _
    refine ⟨step_sound hs hm, ?_⟩
    rcases ih with ⟨rs, E, h1, h2, h3⟩ | ⟨h1, h2⟩
    · cases hd : doI (p.code[((k : Nat) : Int).toNat]?.getD default) rs with
      | some x =>
        obtain ⟨g1, E1, g2⟩ := step_val (n := k) hs h3 hm h2 hd
        exact .inl ⟨_, E1, runTo_succ (x := []) h1 hd, g1, g2⟩
      | none =>
        refine .inr ⟨?_, step_none (n := k) hs h3 hm h2 hd⟩
        unfold runTo; rw [h1]; simp only [Option.bind_some, hd, Option.map_none]
    · exact .inr ⟨runTo_none h1 1, step_dead h2⟩
theorem pass_follow {p : PV} {gs : List (List Int)} (hR : rightP p = true) (hg : (gs.length : Int) = p.ins) : followP (passP p) gs = followP p gs := by
  obtain ⟨f1, f2, f3, f4, f5, f6, f7, f8⟩ := right_facts hR
  obtain ⟨hs, ih⟩ := pass_run hR hg p.code.length (Nat.le_refl _)
  have e : runTo (passP p) gs (passP p).code.length = runL (passTo p p.code.length).2 (regs0 p gs) := by
    rw [runTo_runL _ _ _ (Nat.le_refl _), List.take_length]; rfl
  unfold followP
  rw [e]
  rcases ih with ⟨rs, E, h1, h2, h3⟩ | ⟨h1, h2⟩
  · rw [h1, h2]
    show some _ = some _
    congr 1
    show (passOuts p (passTo p p.code.length).1.held).map _ = p.outs.map _
    unfold passOuts
    rw [List.map_map]
    refine List.map_congr_left fun r hr => ?_
    have hl := hs.len
    obtain ⟨a1, a2, a3⟩ := holder_get (l := (passTo p p.code.length).1.held) (r := r) (by have := f7 r hr; omega)
    show rs[(holder _ _).toNat]?.getD [] = _
    rw [h3.reg _ ⟨a1, by omega⟩, a3, h3.reg _ (f7 r hr)]
  · rw [h1, h2]; rfl
end Go.Proofs.Ytbppmiimeccclaa
set_option maxRecDepth 100000
set_option linter.unusedVariables false
namespace Go.Proofs.Ytbppmiimeccclaa
open Go Go.Sl
set_option maxHeartbeats 4000000
/-- what a comparison answers -/
def cmpZ (x y : Int) : Int := if x < y then -1 else if y < x then 1 else 0
theorem cmpZ_lt {x y : Int} (h : x < y) : cmpZ x y = -1 := if_pos h
theorem cmpZ_gt {x y : Int} (h : y < x) : cmpZ x y = 1 := by unfold cmpZ; rw [if_neg (by omega), if_pos h]
theorem cmpZ_eq {x y : Int} (h : x = y) : cmpZ x y = 0 := by unfold cmpZ; rw [if_neg (by omega), if_neg (by omega)]
theorem cmpZ_congr {x y u v : Int} (h1 : x < y ↔ u < v) (h2 : y < x ↔ v < u) : cmpZ x y = cmpZ u v := by unfold cmpZ; simp only [h1, h2]
theorem trim_val {l m : List U32} (he : m = l.take m.length) (ht : Trim l m.length) : valB m = valB l := by rw [he]; exact ht.val
theorem trim_top {l m : List U32} (he : m = l.take m.length) (ht : Trim l m.length) : Top m := by rw [he]; exact ht.top
theorem trim_lims {l m : List U32} (he : m = l.take m.length) (hd : Lims l) : Lims m := by rw [he]; exact hd.take _
attribute [local irreducible] valB pb cmpZ
/-- the noughts at the top are struck -/
theorem c142 (G : Imm) (a : Option Addr) (c : Nat) (l : List U32) (hl : Arr G a l) (hb : l.length ≤ 1099511627776) (hc : l.length ≤ c) :
    Does Try.prog 142 [.slice a l.length c] G [] (fun v G' Ho => ∃ (b : Option Addr) (m : List U32), v = .slice b m.length m.length ∧ Arr G b m ∧ m = l.take m.length ∧ Trim l m.length ∧ m.length ≤ l.length ∧ G' = G ∧ Ho = []) := by
  refine Does.enter Try.func142 rfl Try.ntmps142 rfl (fun w => ?_)
  refine Wc.seq ?_
  refine Wc.region rfl ?_
  refine Wl.q rfl (Qy.assign rfl) ?_
  refine Wl.done ?_
  refine Ar.next ?_
  refine Wc.seq ?_
  refine Wc.region rfl ?_
  refine Wl.q rfl (Qy.move rfl) ?_
  refine Wl.q rfl (Qy.len T.sl59 rfl) ?_
  refine Wl.q rfl (Qy.assign rfl) ?_
  refine Wl.done ?_
  refine Ar.next ?_
  refine Wc.seq ?_
  refine Wc.block ?_
  refine Wc.loop (ι := Nat) (fun n => ([(3, .int .i64 (n : Int)), (2, Go.Value.slice Option.none 0 0), (0, Go.Value.slice a (List.length l) c)], [])) (fun n => n ≤ l.length ∧ (∀ j, n ≤ j → j < l.length → (l[j]?.getD default).v = 0)) (fun n => n) (l.length) (⟨Nat.le_refl _, fun j h1 h2 => absurd h2 (by omega)⟩) ⟨rfl, rfl, rfl, trivial⟩ trivial (fun n => fun (hk : n ≤ l.length ∧ (∀ j, n ≤ j → j < l.length → (l[j]?.getD default).v = 0)) => ?_)
  obtain ⟨hn, hz⟩ := hk
  have done : (n = 0 ∨ (l[n - 1]?.getD default).v ≠ 0) → ∃ (b : Option Addr) (m : List U32), Value.slice (subA a n 0 1) n n = .slice b m.length m.length ∧ Arr G b m ∧ m = l.take m.length ∧ Trim l m.length ∧ m.length ≤ l.length ∧ G = G ∧ ([] : Hp) = [] := fun ht => by
    have e : (l.take n).length = n := by rw [List.length_take, Nat.min_eq_left hn]
    refine ⟨subA a n 0 1, l.take n, by rw [e], barr_sub hl n, by rw [e], ?_, by rw [e]; exact hn, rfl, rfl⟩
    rw [e]; exact ⟨hn, hz, ht⟩
  refine Wc.seq ?_
  refine Wc.seq ?_
  refine Wc.region rfl ?_
  refine Wl.q rfl (Qy.move rfl) ?_
  refine Wl.q rfl (Qy.gtr rfl rfl) ?_
  refine Wl.q rfl (Qy.move rfl) ?_
  apply Wl.joinAnd 7 8 15 rfl
  intro hg1
  refine Wl.want rfl rfl ?_
  refine Wl.q rfl (Qy.move rfl) ?_
  refine Wl.want rfl rfl ?_
  refine Wl.q rfl (Qy.move rfl) ?_
  refine Wl.want rfl rfl ?_
  refine Wl.q rfl (Qy.sub rfl rfl (by omega)) ?_
  refine Wl.want rfl rfl ?_
  refine Wl.q rfl (Qy.at (α := U32) T.sl59 rfl rfl (by assumption) (by omega)) ?_
  refine Wl.want rfl rfl ?_
  refine Wl.q rfl (Qy.loadG T.one153 rfl (Arr.cell (by assumption) (by omega) 0 rfl rfl)) ?_
  refine Wl.want rfl rfl ?_
  refine Wl.q rfl (Qy.eql rfl rfl) ?_
  refine Wl.q rfl (Qy.pick rfl rfl) ?_
  exact Wl.back 7 0 rfl rfl rfl rfl rfl
  intro hg1
  refine Wl.pass rfl rfl rfl ?_
  refine Wl.pass rfl rfl rfl ?_
  refine Wl.pass rfl rfl rfl ?_
  refine Wl.pass rfl rfl rfl ?_
  refine Wl.pass rfl rfl rfl ?_
  refine Wl.pass rfl rfl rfl ?_
  refine Wl.q rfl (Qy.pick rfl rfl) ?_
  exact Wl.back 7 0 rfl rfl rfl rfl rfl
  refine Wl.done ?_
  refine Ar.next ?_
  refine Wc.cond rfl (fun hc1 => ?_) (fun hc1 => ?_)
  refine Wc.skip ?_
  refine Ar.next ?_
  refine Wc.block ?_
  refine Wc.region rfl ?_
  refine Wl.q rfl (Qy.move rfl) ?_
  refine Wl.q rfl (Qy.sub rfl rfl (by omega)) ?_
  refine Wl.q rfl (Qy.assign rfl) ?_
  refine Wl.done ?_
  refine Ar.outNormal ?_
  rotate_left
  refine Wc.exit ?_
  refine Ar.passExit ?_
  refine Ar.passExit ?_
  refine Ar.here ?_
  refine Ar.next ?_
  refine Wc.seq ?_
  refine Wc.region rfl ?_
  refine Wl.q rfl (Qy.move rfl) ?_
  refine Wl.q rfl (Qy.move rfl) ?_
  refine Wl.q rfl (Qy.move rfl) ?_
  refine Wl.q rfl (Qy.cutHM T.sl59 rfl rfl rfl (by omega) (by omega) (by omega)) ?_
  refine Wl.q rfl (Qy.assign rfl) ?_
  refine Wl.done ?_
  refine Ar.next ?_
  refine Wc.ret ?_
  refine Ar.out1 (.inr rfl) (Ho := Hp.only _ []) rfl (.tmp rfl) (Hp.sub_only _ _) ?_
  rotate_left
  · refine Ar.re 3 rfl (show _ = Value.int .i64 ((n - 1 : Nat) : Int) by congr 1; omega) ?_
    refine Ar.again (n - 1) ?_ ?_ rfl ⟨rfl, rfl, rfl, trivial⟩ trivial
    · refine ⟨by omega, fun j h1 h2 => ?_⟩
      rcases Nat.lt_or_ge j n with h3 | h3
      · have e : j = (((n : Nat) : Int) - 1).toNat := by omega
        rw [e]; exact hc1.2
      · exact hz j h3 h2
    · omega
  · refine done ?_
    rcases Nat.eq_zero_or_pos n with h | h
    · exact .inl h
    · refine .inr fun h2 => hc1 ⟨by omega, ?_⟩
      have e : (((n : Nat) : Int) - 1).toNat = n - 1 := by omega
      rw [e]; exact h2
theorem c107 (G : Imm) (a b : Option Addr) (ca cb : Nat) (la lb : List U32) (ha : Arr G a la) (hb : Arr G b lb) (da : Lims la) (db : Lims lb) (h1 : la.length ≤ 1073741824) (h2 : lb.length ≤ 1073741824) (h3 : la.length ≤ ca) (h4 : lb.length ≤ cb) :
    Does Try.prog 107 [.slice a la.length ca, .slice b lb.length cb] G [] (fun v G' Ho => v = .int .i64 (cmpZ (valB la) (valB lb)) ∧ G' = G ∧ Ho = []) := by
  refine Does.enter Try.func107 rfl Try.ntmps107 rfl (fun w => ?_)
  refine Wc.seq ?_
  refine Wc.region rfl ?_
  refine Wl.q rfl (Qy.assign rfl) ?_
  refine Wl.done ?_
  refine Ar.next ?_
  refine Wc.seq ?_
  refine Wc.region rfl ?_
  refine Wl.q rfl (Qy.move rfl) ?_
  refine Wl.call 0 rfl T.fn142 rfl (c142 _ _ _ _ (by assumption) (by omega) (by first | assumption | omega)) (tags_of trivial) (fun v1 G1 Ho1 hle1 hp => ?_)
  obtain ⟨ta1, tm1, rfl, hta1, hte1, htr1, htl1, rfl, rfl⟩ := hp
  refine Wl.q rfl (Qy.move rfl) ?_
  refine Wl.call 0 rfl T.fn142 rfl (c142 _ _ _ _ (by assumption) (by omega) (by first | assumption | omega)) (tags_of trivial) (fun v2 G2 Ho2 hle2 hp => ?_)
  obtain ⟨ta2, tm2, rfl, hta2, hte2, htr2, htl2, rfl, rfl⟩ := hp
  refine Wl.q rfl (Qy.assign rfl) ?_
  refine Wl.q rfl (Qy.assign rfl) ?_
  refine Wl.done ?_
  refine Ar.next ?_
  refine Wc.seq ?_
  refine Wc.block ?_
  refine Wc.seq ?_
  refine Wc.region rfl ?_
  refine Wl.q rfl (Qy.move rfl) ?_
  refine Wl.q rfl (Qy.len T.sl59 rfl) ?_
  refine Wl.q rfl (Qy.move rfl) ?_
  refine Wl.q rfl (Qy.len T.sl59 rfl) ?_
  refine Wl.q rfl (Qy.lss rfl rfl) ?_
  refine Wl.q rfl (Qy.assign rfl) ?_
  refine Wl.done ?_
  refine Ar.next ?_
  refine Wc.cond rfl (fun hc1 => ?_) (fun hc1 => ?_)
  refine Wc.seq ?_
  refine Wc.region rfl ?_
  refine Wl.q rfl (Qy.assign rfl) ?_
  refine Wl.done ?_
  refine Ar.next ?_
  refine Wc.ret ?_
  refine Ar.outRet ?_
  refine Ar.passRet ?_
  refine Ar.out1 (.inr rfl) (Ho := Hp.only _ []) rfl (.tmp rfl) (Hp.sub_only _ _) ?_
  rotate_left
  refine Wc.seq ?_
  refine Wc.region rfl ?_
  refine Wl.q rfl (Qy.move rfl) ?_
  refine Wl.q rfl (Qy.len T.sl59 rfl) ?_
  refine Wl.q rfl (Qy.move rfl) ?_
  refine Wl.q rfl (Qy.len T.sl59 rfl) ?_
  refine Wl.q rfl (Qy.gtr rfl rfl) ?_
  refine Wl.q rfl (Qy.assign rfl) ?_
  refine Wl.done ?_
  refine Ar.next ?_
  refine Wc.cond rfl (fun hc2 => ?_) (fun hc2 => ?_)
  refine Wc.seq ?_
  refine Wc.region rfl ?_
  refine Wl.q rfl (Qy.assign rfl) ?_
  refine Wl.done ?_
  refine Ar.next ?_
  refine Wc.ret ?_
  refine Ar.outRet ?_
  refine Ar.passRet ?_
  refine Ar.out1 (.inr rfl) (Ho := Hp.only _ []) rfl (.tmp rfl) (Hp.sub_only _ _) ?_
  rotate_left
  refine Wc.skip ?_
  refine Ar.outNormal ?_
  refine Ar.next ?_
  refine Wc.seq ?_
  refine Wc.seq ?_
  refine Wc.region rfl ?_
  refine Wl.q rfl (Qy.move rfl) ?_
  refine Wl.q rfl (Qy.len T.sl59 rfl) ?_
  refine Wl.q rfl (Qy.sub rfl rfl (by omega)) ?_
  refine Wl.q rfl (Qy.assign rfl) ?_
  refine Wl.done ?_
  refine Ar.next ?_
  refine Wc.block ?_
  rotate_left
  · rw [← trim_val hte1 htr1, ← trim_val hte2 htr2]
    exact ⟨by rw [cmpZ_lt (ltop_lt_len (trim_lims hte1 da) (trim_lims hte2 db) (trim_top hte2 htr2) (by omega))], rfl, rfl⟩
  · rw [← trim_val hte1 htr1, ← trim_val hte2 htr2]
    exact ⟨by rw [cmpZ_gt (ltop_lt_len (trim_lims hte2 db) (trim_lims hte1 da) (trim_top hte1 htr1) (by omega))], rfl, rfl⟩
  rw [← trim_val hte1 htr1, ← trim_val hte2 htr2]
  have dma := trim_lims hte1 da
  have dmb := trim_lims hte2 db
  have l1 := htr1.1
  have l2 := htr2.1
  have hn : tm1.length = tm2.length := by omega
  refine Wc.loop (ι := Nat) (fun k => ([(5, .int .i64 ((k : Int) - 1)), (1, Go.Value.slice ta2 (List.length tm2) (List.length tm2)), (0, Go.Value.slice ta1 (List.length tm1) (List.length tm1))], [])) (fun k => k ≤ tm1.length ∧ ∀ j, k ≤ j → j < tm1.length → lg tm1 j = lg tm2 j) (fun k => k) (tm1.length) (⟨Nat.le_refl _, fun j h1 h2 => absurd h2 (by omega)⟩) ⟨rfl, rfl, rfl, trivial⟩ trivial (fun k => fun (hk : k ≤ tm1.length ∧ ∀ j, k ≤ j → j < tm1.length → lg tm1 j = lg tm2 j) => ?_)
  obtain ⟨hk1, hz⟩ := hk
  rcases Nat.eq_zero_or_pos k with rfl | hpos
  · refine Wc.seq ?_
    refine Wc.seq ?_
    refine Wc.region rfl ?_
    refine Wl.q rfl (Qy.move rfl) ?_
    refine Wl.q rfl (Qy.geq rfl rfl) ?_
    refine Wl.done ?_
    refine Ar.next ?_
    refine Wc.condN rfl (by first | assumption | omega) ?_
    refine Wc.exit ?_
    refine Ar.passExit ?_
    refine Ar.passExit ?_
    refine Ar.here ?_
    refine Ar.next ?_
    refine Wc.seq ?_
    refine Wc.region rfl ?_
    refine Wl.q rfl (Qy.assign rfl) ?_
    refine Wl.done ?_
    refine Ar.next ?_
    refine Wc.ret ?_
    refine Ar.out1 (.inr rfl) (Ho := Hp.only _ []) rfl (.tmp rfl) (Hp.sub_only _ _) ?_
    have e : tm1 = tm2 := by
      have := bdrop_same (k := 0) hn hz
      simpa using this
    exact ⟨by rw [e, cmpZ_eq rfl], rfl, rfl⟩
  · have e1 : (tm1[(((k : Nat) : Int) - 1).toNat]?.getD default).v = lg tm1 (k - 1) := by
      unfold lg; rw [show (((k : Nat) : Int) - 1).toNat = ((k - 1 : Nat) : Int).toNat by omega]
    have e2 : (tm2[(((k : Nat) : Int) - 1).toNat]?.getD default).v = lg tm2 (k - 1) := by
      unfold lg; rw [show (((k : Nat) : Int) - 1).toNat = ((k - 1 : Nat) : Int).toNat by omega]
    have hz' : ∀ j, (k - 1) + 1 ≤ j → j < tm1.length → lg tm1 j = lg tm2 j := fun j h1 h2 => hz j (by omega) h2
    refine Wc.seq ?_
    refine Wc.seq ?_
    refine Wc.region rfl ?_
    refine Wl.q rfl (Qy.move rfl) ?_
    refine Wl.q rfl (Qy.geq rfl rfl) ?_
    refine Wl.done ?_
    refine Ar.next ?_
    refine Wc.condP rfl (by first | assumption | omega) ?_
    refine Wc.skip ?_
    refine Ar.next ?_
    refine Wc.seq ?_
    refine Wc.block ?_
    refine Wc.block ?_
    refine Wc.seq ?_
    refine Wc.draw [] [] T.mixed rfl ?_
    refine Gm.q 0 [] (by kernel_rfl) rfl rfl (Qy.move rfl) ?_
    refine Gm.q 1 [] (by kernel_rfl) rfl rfl (Qy.move rfl) ?_
    refine Gm.q 2 [] (by kernel_rfl) rfl rfl (Qy.at (α := U32) T.sl59 rfl rfl (by assumption) (by omega)) ?_
    refine Gm.q 3 [] (by kernel_rfl) rfl rfl (Qy.loadG T.one153 rfl (Arr.cell (by assumption) (by omega) 0 rfl rfl)) ?_
    refine Gm.q 4 [] (by kernel_rfl) rfl rfl (Qy.move rfl) ?_
    refine Gm.q 5 [] (by kernel_rfl) rfl rfl (Qy.move rfl) ?_
    refine Gm.q 6 [] (by kernel_rfl) rfl rfl (Qy.at (α := U32) T.sl59 rfl rfl (by assumption) (by omega)) ?_
    refine Gm.q 7 [] (by kernel_rfl) rfl rfl (Qy.loadG T.one153 rfl (Arr.cell (by assumption) (by omega) 0 rfl rfl)) ?_
    refine Gm.q 8 [] (by kernel_rfl) rfl rfl (Qy.lss rfl rfl) ?_
    refine Gm.q 9 [] (by kernel_rfl) rfl rfl (Qy.assign rfl) ?_
    refine Gm.doneA (by kernel_rfl) trivial (by first | exact Imm.le_refl _ | assumption | (refine Imm.le_trans ?_ (by assumption); first | assumption | (refine Imm.le_trans ?_ (by assumption); assumption))) ?_
    refine Ar.next ?_
    refine Wc.cond rfl (fun hc3 => ?_) (fun hc3 => ?_)
    refine Wc.seq ?_
    refine Wc.region rfl ?_
    refine Wl.q rfl (Qy.assign rfl) ?_
    refine Wl.done ?_
    refine Ar.next ?_
    refine Wc.ret ?_
    refine Ar.outRet ?_
    refine Ar.outRet ?_
    refine Ar.passRet ?_
    refine Ar.passRet ?_
    refine Ar.outRet ?_
    refine Ar.passRet ?_
    refine Ar.out1 (.inr rfl) (Ho := Hp.only _ []) rfl (.tmp rfl) (Hp.sub_only _ _) ?_
    rotate_left
    refine Wc.seq ?_
    refine Wc.draw [] [] T.mixed rfl ?_
    refine Gm.q 0 [] (by kernel_rfl) rfl rfl (Qy.move rfl) ?_
    refine Gm.q 1 [] (by kernel_rfl) rfl rfl (Qy.move rfl) ?_
    refine Gm.q 2 [] (by kernel_rfl) rfl rfl (Qy.at (α := U32) T.sl59 rfl rfl (by assumption) (by omega)) ?_
    refine Gm.q 3 [] (by kernel_rfl) rfl rfl (Qy.loadG T.one153 rfl (Arr.cell (by assumption) (by omega) 0 rfl rfl)) ?_
    refine Gm.q 4 [] (by kernel_rfl) rfl rfl (Qy.move rfl) ?_
    refine Gm.q 5 [] (by kernel_rfl) rfl rfl (Qy.move rfl) ?_
    refine Gm.q 6 [] (by kernel_rfl) rfl rfl (Qy.at (α := U32) T.sl59 rfl rfl (by assumption) (by omega)) ?_
    refine Gm.q 7 [] (by kernel_rfl) rfl rfl (Qy.loadG T.one153 rfl (Arr.cell (by assumption) (by omega) 0 rfl rfl)) ?_
    refine Gm.q 8 [] (by kernel_rfl) rfl rfl (Qy.gtr rfl rfl) ?_
    refine Gm.q 9 [] (by kernel_rfl) rfl rfl (Qy.assign rfl) ?_
    refine Gm.doneA (by kernel_rfl) trivial (by first | exact Imm.le_refl _ | assumption | (refine Imm.le_trans ?_ (by assumption); first | assumption | (refine Imm.le_trans ?_ (by assumption); assumption))) ?_
    refine Ar.next ?_
    refine Wc.cond rfl (fun hc4 => ?_) (fun hc4 => ?_)
    refine Wc.seq ?_
    refine Wc.region rfl ?_
    refine Wl.q rfl (Qy.assign rfl) ?_
    refine Wl.done ?_
    refine Ar.next ?_
    refine Wc.ret ?_
    refine Ar.outRet ?_
    refine Ar.outRet ?_
    refine Ar.passRet ?_
    refine Ar.passRet ?_
    refine Ar.outRet ?_
    refine Ar.passRet ?_
    refine Ar.out1 (.inr rfl) (Ho := Hp.only _ []) rfl (.tmp rfl) (Hp.sub_only _ _) ?_
    rotate_left
    refine Wc.skip ?_
    refine Ar.outNormal ?_
    refine Ar.outNormal ?_
    refine Ar.next ?_
    refine Wc.region rfl ?_
    refine Wl.q rfl (Qy.move rfl) ?_
    refine Wl.q rfl (Qy.sub rfl rfl (by omega)) ?_
    refine Wl.q rfl (Qy.assign rfl) ?_
    refine Wl.done ?_
    rotate_left
    · exact ⟨by rw [cmpZ_lt (bhigh_lt hn (by omega) dma dmb hz' (by omega))], rfl, rfl⟩
    · exact ⟨by rw [cmpZ_gt (bhigh_lt hn.symm (by omega) dmb dma (fun j h1 h2 => (hz' j h1 (by omega)).symm) (by omega))], rfl, rfl⟩
    · refine Ar.re 5 rfl (show _ = Value.int .i64 (((k - 1 : Nat) : Int) - 1) by congr 1; omega) ?_
      refine Ar.again (k - 1) ?_ ?_ rfl ⟨rfl, rfl, rfl, trivial⟩ trivial
      · refine ⟨by omega, fun j h1 h2 => ?_⟩
        rcases Nat.lt_or_ge j k with h3 | h3
        · have e : j = k - 1 := by omega
          rw [e]; omega
        · exact hz j h3 h2
      · omega
/-- a number of its own, without noughts at the top -/
theorem c139 (G : Imm) (a : Option Addr) (c : Nat) (l : List U32) (hl : Arr G a l) (hb : l.length ≤ 1073741824) (hc : l.length ≤ c) :
    Does Try.prog 139 [.slice a l.length c] G [] (fun v G' Ho => ∃ (b : Option Addr) (m : List U32), v = .slice b m.length m.length ∧ Arr G' b m ∧ m = l.take m.length ∧ Trim l m.length ∧ m.length ≤ l.length ∧ Ho = []) := by
  refine Does.enter Try.func139 rfl Try.ntmps139 rfl (fun w => ?_)
  refine Wc.seq ?_
  refine Wc.region rfl ?_
  refine Wl.q rfl (Qy.assign rfl) ?_
  refine Wl.done ?_
  refine Ar.next ?_
  refine Wc.seq ?_
  refine Wc.region rfl ?_
  refine Wl.q rfl (Qy.move rfl) ?_
  refine Wl.call 0 rfl T.fn142 rfl (c142 _ _ _ _ (by assumption) (by omega) (by first | assumption | omega)) (tags_of trivial) (fun v1 G1 Ho1 hle1 hp => ?_)
  obtain ⟨ta1, tm1, rfl, hta1, hte1, htr1, htl1, rfl, rfl⟩ := hp
  refine Wl.q rfl (Qy.assign rfl) ?_
  refine Wl.done ?_
  refine Ar.next ?_
  refine Wc.seq ?_
  refine Wc.region rfl ?_
  refine Wl.q rfl (Qy.move rfl) ?_
  refine Wl.q rfl (Qy.len T.sl59 rfl) ?_
  refine Wl.make (α := U32) 0 rfl T.sl59 T.el153 rfl rfl (by omega) (by omega) (fun b1 => ?_)
  refine Wl.q rfl (Qy.assign rfl) ?_
  refine Wl.done ?_
  refine Ar.next ?_
  refine Wc.seq ?_
  refine Wc.region rfl ?_
  refine Wl.q rfl (Qy.move rfl) ?_
  refine Wl.q rfl (Qy.move rfl) ?_
  refine Wl.copyRow (α := U32) 0 rfl T.sl59 rfl rfl rfl (Src.arr (by assumption)) (by first | omega | (simp only [List.length_append, List.length_cons, List.length_nil, List.length_replicate]; omega)) ?_
  refine Wl.done ?_
  refine Ar.next ?_
  refine Wc.seq ?_
  refine Wc.region rfl ?_
  refine Wl.q rfl (Qy.move rfl) ?_
  refine Wl.q rfl (Qy.assign rfl) ?_
  refine Wl.done ?_
  refine Ar.next ?_
  refine Wc.ret ?_
  have e1 : (List.replicate ((tm1.length : Nat) : Int).toNat (default : U32)).length = tm1.length := by rw [List.length_replicate, Int.toNat_natCast]
  refine Ar.reH 0 (Row 153 tm1 []) rfl (by rw [List.drop_eq_nil_of_le (by rw [e1]; exact Nat.le_refl _), List.append_nil]) ?_
  refine Ar.re 2 rfl (show _ = Value.slice (some ⟨b1, 0, none⟩) tm1.length tm1.length by rw [e1]) ?_
  refine Ar.freezeRow 0 rfl (OwnA.made (xs := tm1) (by simp only [maxLen]; omega)) (fun G9 hle9 hA => ?_)
  refine Ar.out1 (.inr rfl) (Ho := []) rfl (.tmp rfl) trivial ?_
  exact ⟨_, tm1, rfl, hA, hte1, htr1, htl1, rfl⟩
end Go.Proofs.Ytbppmiimeccclaa
set_option maxRecDepth 100000
set_option linter.unusedVariables false
namespace Go.Proofs.Ytbppmiimeccclaa
open Go Go.Sl
set_option maxHeartbeats 4000000
/-- a list of limbs, none a nought at the top, that stays as it is -/
def Nat32 (G : Imm) (v : Value) (z : Int) (n : Nat) : Prop := ∃ (b : Option Addr) (m : List U32), v = .slice b m.length m.length ∧ Arr G b m ∧ Lims m ∧ Top m ∧ valB m = z ∧ m.length ≤ n
theorem Nat32.of {G : Imm} {b : Option Addr} {l m : List U32} {z : Int} {n : Nat} (h : Arr G b m) (he : m = l.take m.length) (ht : Trim l m.length) (hd : Lims l) (hz : valB l = z) (hn : m.length ≤ n) : Nat32 G (.slice b m.length m.length) z n :=
  ⟨b, m, rfl, h, trim_lims he hd, trim_top he ht, (trim_val he ht).trans hz, hn⟩
attribute [local irreducible] valB pb cmpZ
theorem c134 (G : Imm) (a b : Option Addr) (ca cb : Nat) (la lb : List U32) (ha : Arr G a la) (hb : Arr G b lb) (da : Lims la) (db : Lims lb) (h1 : la.length ≤ 1073741824) (h2 : lb.length ≤ 1073741824) :
    Does Try.prog 134 [.slice a la.length ca, .slice b lb.length cb] G [] (fun v G' Ho => Nat32 G' v (valB la + valB lb) (max la.length lb.length + 1) ∧ Ho = []) := by
  refine Does.enter Try.func134 rfl Try.ntmps134 rfl (fun w => ?_)
  refine Wc.seq ?_
  refine Wc.region rfl ?_
  refine Wl.q rfl (Qy.assign rfl) ?_
  refine Wl.done ?_
  refine Ar.next ?_
  refine Wc.meet (ι := Option Addr × Nat × List U32 × (Option Addr × Nat × List U32)) (fun (xa, ka, l1, (xb, kb, l2)) => ([(0, .slice xa l1.length ka), (1, .slice xb l2.length kb), (4, Go.Value.slice Option.none 0 0)], [])) (fun (xa, ka, l1, (xb, kb, l2)) => Arr G xa l1 ∧ Arr G xb l2 ∧ Lims l1 ∧ Lims l2 ∧ l2.length ≤ l1.length ∧ l1.length ≤ max la.length lb.length ∧ valB l1 + valB l2 = valB la + valB lb) ?_ (fun ⟨xa, ka, l1, (xb, kb, l2)⟩ => fun (hk : Arr G xa l1 ∧ Arr G xb l2 ∧ Lims l1 ∧ Lims l2 ∧ l2.length ≤ l1.length ∧ l1.length ≤ max la.length lb.length ∧ valB l1 + valB l2 = valB la + valB lb) => ?_)
  · by_cases hlt : la.length < lb.length
    · refine Wc.seq ?_
      refine Wc.region rfl ?_
      refine Wl.q rfl (Qy.move rfl) ?_
      refine Wl.q rfl (Qy.len T.sl59 rfl) ?_
      refine Wl.q rfl (Qy.move rfl) ?_
      refine Wl.q rfl (Qy.len T.sl59 rfl) ?_
      refine Wl.q rfl (Qy.lss rfl rfl) ?_
      refine Wl.done ?_
      refine Ar.next ?_
      refine Wc.condP rfl (by first | assumption | omega) ?_
      refine Wc.region rfl ?_
      refine Wl.q rfl (Qy.move rfl) ?_
      refine Wl.q rfl (Qy.move rfl) ?_
      refine Wl.q rfl (Qy.assign rfl) ?_
      refine Wl.q rfl (Qy.assign rfl) ?_
      refine Wl.done ?_
      refine Ar.meet ((b, cb, lb, (a, ca, la))) ?_ rfl ⟨rfl, rfl, rfl, trivial⟩ trivial
      exact ⟨hb, ha, db, da, by omega, by omega, Int.add_comm _ _⟩
    · refine Wc.seq ?_
      refine Wc.region rfl ?_
      refine Wl.q rfl (Qy.move rfl) ?_
      refine Wl.q rfl (Qy.len T.sl59 rfl) ?_
      refine Wl.q rfl (Qy.move rfl) ?_
      refine Wl.q rfl (Qy.len T.sl59 rfl) ?_
      refine Wl.q rfl (Qy.lss rfl rfl) ?_
      refine Wl.done ?_
      refine Ar.next ?_
      refine Wc.condN rfl (by first | assumption | omega) ?_
      refine Wc.skip ?_
      refine Ar.meet ((a, ca, la, (b, cb, lb))) ?_ rfl ⟨rfl, rfl, rfl, trivial⟩ trivial
      exact ⟨ha, hb, da, db, by omega, by omega, rfl⟩
  obtain ⟨ha1, hb1, d1, d2, hl21, hl1, hsum⟩ := hk
  clear ha hb
  refine Wc.seq ?_
  refine Wc.region rfl ?_
  refine Wl.q rfl (Qy.move rfl) ?_
  refine Wl.q rfl (Qy.len T.sl59 rfl) ?_
  refine Wl.q rfl (Qy.add rfl rfl (by omega)) ?_
  refine Wl.make (α := U32) 0 rfl T.sl59 T.el153 rfl rfl (by omega) (by omega) (fun b1 => ?_)
  refine Wl.q rfl (Qy.assign rfl) ?_
  refine Wl.done ?_
  refine Ar.next ?_
  refine Wc.seq ?_
  refine Wc.region rfl ?_
  refine Wl.q rfl (Qy.assign rfl) ?_
  refine Wl.done ?_
  refine Ar.next ?_
  refine Wc.seq ?_
  refine Wc.seq ?_
  refine Wc.region rfl ?_
  refine Wl.q rfl (Qy.move rfl) ?_
  refine Wl.q rfl (Qy.len T.sl59 rfl) ?_
  refine Wl.q rfl (Qy.move rfl) ?_
  refine Wl.done ?_
  refine Ar.next ?_
  refine Wc.block ?_
  obtain ⟨N, hN⟩ : ∃ N, N = l1.length + 1 := ⟨_, rfl⟩
  have hM : ((l1.length : Int) + 1).toNat = N := by omega
  rw [hM]
  have hown : ∀ r : List U32, r.length = N → OwnA (some ⟨b1, 0, none⟩) N r [] := fun r hr => .inr ⟨b1, rfl, by rw [hr]; rfl, by omega, by simp only [maxLen]; omega⟩
  refine Wc.re 5 rfl (show _ = Value.slice (some ⟨b1, 0, none⟩) (List.replicate N (default : U32)).length N by rw [List.length_replicate]) ?_
  refine Wc.loop (ι := Nat × Int × List U32) (fun (i, cy, r) => ([(22, .int .i64 (i : Int)), (6, .int .u64 cy), (5, .slice (some ⟨b1, 0, none⟩) r.length N), (21, Go.Value.int Go.IntKind.i64 (↑(List.length l1) : Int)), (20, Go.Value.slice xa (List.length l1) ka), (0, Go.Value.slice xa (List.length l1) ka), (1, Go.Value.slice xb (List.length l2) kb), (4, Go.Value.slice Option.none 0 0)], [(0, some b1, Row 153 r [])])) (fun (i, cy, r) => i ≤ l1.length ∧ r.length = N ∧ Lims r ∧ 0 ≤ cy ∧ cy ≤ 1 ∧ valB (l1.take i) + valB (l2.take i) = valB (r.take i) + pb i * cy) (fun (i, cy, r) => l1.length - i) ((0, 0, List.replicate N (default : U32))) (⟨Nat.zero_le _, List.length_replicate, Lims.zeros N, by decide, by decide, by rw [List.take_zero, List.take_zero, List.take_zero, Int.mul_zero, Int.add_zero, valB_nil]; rfl⟩) ⟨rfl, rfl, rfl, rfl, rfl, rfl, rfl, rfl, trivial⟩ ⟨rfl, trivial⟩ (fun ⟨i, cy, r⟩ => fun (hk : i ≤ l1.length ∧ r.length = N ∧ Lims r ∧ 0 ≤ cy ∧ cy ≤ 1 ∧ valB (l1.take i) + valB (l2.take i) = valB (r.take i) + pb i * cy) => ?_)
  obtain ⟨hi, hrN, hdr, hc0, hc1, hv⟩ := hk
  have hor := hown r hrN
  rcases Nat.lt_or_ge i l1.length with hia | hia
  · have r1 : 0 ≤ (l1[((i : Nat) : Int).toNat]?.getD default).v ∧ (l1[((i : Nat) : Int).toNat]?.getD default).v < 4294967296 := lg_lt d1 hia
    rcases Nat.lt_or_ge i l2.length with hib | hib
    · have r2 : 0 ≤ (l2[((i : Nat) : Int).toNat]?.getD default).v ∧ (l2[((i : Nat) : Int).toNat]?.getD default).v < 4294967296 := lg_lt d2 hib
      refine Wc.seq ?_
      refine Wc.region rfl ?_
      refine Wl.q rfl (Qy.lss rfl rfl) ?_
      refine Wl.done ?_
      refine Ar.next ?_
      refine Wc.seq ?_
      refine Wc.condP rfl (by first | assumption | omega) ?_
      refine Wc.skip ?_
      refine Ar.next ?_
      refine Wc.seq ?_
      refine Wc.block ?_
      refine Wc.seq ?_
      refine Wc.region rfl ?_
      refine Wl.q rfl (Qy.move rfl) ?_
      refine Wl.q rfl (Qy.at (α := U32) T.sl59 rfl rfl (by assumption) (by omega)) ?_
      refine Wl.q rfl (Qy.loadG T.one153 rfl (Arr.cell (by assumption) (by omega) 0 rfl rfl)) ?_
      refine Wl.q rfl (Qy.assign rfl) ?_
      refine Wl.q rfl (Qy.assign rfl) ?_
      refine Wl.done ?_
      refine Ar.next ?_
      refine Wc.seq ?_
      refine Wc.region rfl ?_
      refine Wl.q rfl (Qy.move rfl) ?_
      refine Wl.q rfl (Qy.move rfl) ?_
      refine Wl.q rfl (Qy.conv64 rfl T.u151 rfl (by omega)) ?_
      refine Wl.q rfl (Qy.uadd64 rfl rfl (by omega)) ?_
      refine Wl.q rfl (Qy.assign rfl) ?_
      refine Wl.done ?_
      refine Ar.next ?_
      refine Wc.seq ?_
      refine Wc.seq ?_
      refine Wc.region rfl ?_
      refine Wl.q rfl (Qy.move rfl) ?_
      refine Wl.q rfl (Qy.move rfl) ?_
      refine Wl.q rfl (Qy.len T.sl59 rfl) ?_
      refine Wl.q rfl (Qy.lss rfl rfl) ?_
      refine Wl.done ?_
      refine Ar.next ?_
      refine Wc.condP rfl (by first | assumption | omega) ?_
      refine Wc.region rfl ?_
      refine Wl.q rfl (Qy.move rfl) ?_
      refine Wl.q rfl (Qy.move rfl) ?_
      refine Wl.q rfl (Qy.move rfl) ?_
      refine Wl.q rfl (Qy.at (α := U32) T.sl59 rfl rfl (by assumption) (by omega)) ?_
      refine Wl.q rfl (Qy.loadG T.one153 rfl (Arr.cell (by assumption) (by omega) 0 rfl rfl)) ?_
      refine Wl.q rfl (Qy.conv64 rfl T.u151 rfl (by omega)) ?_
      refine Wl.q rfl (Qy.uadd64 rfl rfl (by omega)) ?_
      refine Wl.q rfl (Qy.assign rfl) ?_
      refine Wl.done ?_
      refine Ar.next ?_
      refine Wc.seq ?_
      refine Wc.region rfl ?_
      refine Wl.q rfl (Qy.move rfl) ?_
      refine Wl.q rfl (Qy.move rfl) ?_
      refine Wl.q rfl (Qy.move rfl) ?_
      refine Wl.q rfl (Qy.trunc32 rfl T.u153 rfl) ?_
      refine Wl.q rfl (Qy.indexAddrO (α := U32) T.sl59 rfl rfl (by assumption) (by omega)) ?_
      refine Wl.setO (z := _) 0 T.size153 rfl rfl rfl (by assumption) (by omega) rfl (fun ho1 => ?_)
      refine Wl.done ?_
      refine Ar.next ?_
      refine Wc.region rfl ?_
      refine Wl.q rfl (Qy.move rfl) ?_
      refine Wl.q rfl (Qy.shr32 rfl rfl (by omega)) ?_
      refine Wl.q rfl (Qy.assign rfl) ?_
      refine Wl.done ?_
      refine Ar.outNormal ?_
      refine Ar.next ?_
      refine Wc.region rfl ?_
      refine Wl.q rfl (Qy.add rfl rfl (by omega)) ?_
      refine Wl.q rfl (Qy.move rfl) ?_
      refine Wl.done ?_
      refine Ar.reH 0 (Row 153 (r.set i (⟨(cy + (l1[((i : Nat) : Int).toNat]?.getD default).v + (l2[((i : Nat) : Int).toNat]?.getD default).v) % 4294967296⟩ : U32)) []) rfl (by rw [Int.toNat_natCast]) ?_
      refine Ar.re 5 rfl (show _ = Value.slice (some ⟨b1, 0, none⟩) (r.set i (⟨(cy + (l1[((i : Nat) : Int).toNat]?.getD default).v + (l2[((i : Nat) : Int).toNat]?.getD default).v) % 4294967296⟩ : U32)).length N by rw [List.length_set]) ?_
      refine Ar.again ((i + 1, (cy + (l1[((i : Nat) : Int).toNat]?.getD default).v + (l2[((i : Nat) : Int).toNat]?.getD default).v) / 4294967296, r.set i (⟨(cy + (l1[((i : Nat) : Int).toNat]?.getD default).v + (l2[((i : Nat) : Int).toNat]?.getD default).v) % 4294967296⟩ : U32))) ?_ ?_ rfl ⟨rfl, rfl, rfl, rfl, rfl, rfl, rfl, rfl, trivial⟩ ⟨rfl, trivial⟩
      · exact ⟨by omega, by rw [List.length_set]; exact hrN, lims_set hdr _ (mod32 _), by omega, by omega, add_next (by omega) hv rfl⟩
      · show l1.length - (i + 1) < l1.length - i
        omega
    · have z := lg_end hib
      refine Wc.seq ?_
      refine Wc.region rfl ?_
      refine Wl.q rfl (Qy.lss rfl rfl) ?_
      refine Wl.done ?_
      refine Ar.next ?_
      refine Wc.seq ?_
      refine Wc.condP rfl (by first | assumption | omega) ?_
      refine Wc.skip ?_
      refine Ar.next ?_
      refine Wc.seq ?_
      refine Wc.block ?_
      refine Wc.seq ?_
      refine Wc.region rfl ?_
      refine Wl.q rfl (Qy.move rfl) ?_
      refine Wl.q rfl (Qy.at (α := U32) T.sl59 rfl rfl (by assumption) (by omega)) ?_
      refine Wl.q rfl (Qy.loadG T.one153 rfl (Arr.cell (by assumption) (by omega) 0 rfl rfl)) ?_
      refine Wl.q rfl (Qy.assign rfl) ?_
      refine Wl.q rfl (Qy.assign rfl) ?_
      refine Wl.done ?_
      refine Ar.next ?_
      refine Wc.seq ?_
      refine Wc.region rfl ?_
      refine Wl.q rfl (Qy.move rfl) ?_
      refine Wl.q rfl (Qy.move rfl) ?_
      refine Wl.q rfl (Qy.conv64 rfl T.u151 rfl (by omega)) ?_
      refine Wl.q rfl (Qy.uadd64 rfl rfl (by omega)) ?_
      refine Wl.q rfl (Qy.assign rfl) ?_
      refine Wl.done ?_
      refine Ar.next ?_
      refine Wc.seq ?_
      refine Wc.seq ?_
      refine Wc.region rfl ?_
      refine Wl.q rfl (Qy.move rfl) ?_
      refine Wl.q rfl (Qy.move rfl) ?_
      refine Wl.q rfl (Qy.len T.sl59 rfl) ?_
      refine Wl.q rfl (Qy.lss rfl rfl) ?_
      refine Wl.done ?_
      refine Ar.next ?_
      refine Wc.condN rfl (by first | assumption | omega) ?_
      refine Wc.skip ?_
      refine Ar.next ?_
      refine Wc.seq ?_
      refine Wc.region rfl ?_
      refine Wl.q rfl (Qy.move rfl) ?_
      refine Wl.q rfl (Qy.move rfl) ?_
      refine Wl.q rfl (Qy.move rfl) ?_
      refine Wl.q rfl (Qy.trunc32 rfl T.u153 rfl) ?_
      refine Wl.q rfl (Qy.indexAddrO (α := U32) T.sl59 rfl rfl (by assumption) (by omega)) ?_
      refine Wl.setO (z := _) 0 T.size153 rfl rfl rfl (by assumption) (by omega) rfl (fun ho1 => ?_)
      refine Wl.done ?_
      refine Ar.next ?_
      refine Wc.region rfl ?_
      refine Wl.q rfl (Qy.move rfl) ?_
      refine Wl.q rfl (Qy.shr32 rfl rfl (by omega)) ?_
      refine Wl.q rfl (Qy.assign rfl) ?_
      refine Wl.done ?_
      refine Ar.outNormal ?_
      refine Ar.next ?_
      refine Wc.region rfl ?_
      refine Wl.q rfl (Qy.add rfl rfl (by omega)) ?_
      refine Wl.q rfl (Qy.move rfl) ?_
      refine Wl.done ?_
      refine Ar.reH 0 (Row 153 (r.set i (⟨(cy + (l1[((i : Nat) : Int).toNat]?.getD default).v) % 4294967296⟩ : U32)) []) rfl (by rw [Int.toNat_natCast]) ?_
      refine Ar.re 5 rfl (show _ = Value.slice (some ⟨b1, 0, none⟩) (r.set i (⟨(cy + (l1[((i : Nat) : Int).toNat]?.getD default).v) % 4294967296⟩ : U32)).length N by rw [List.length_set]) ?_
      refine Ar.again ((i + 1, (cy + (l1[((i : Nat) : Int).toNat]?.getD default).v) / 4294967296, r.set i (⟨(cy + (l1[((i : Nat) : Int).toNat]?.getD default).v) % 4294967296⟩ : U32))) ?_ ?_ rfl ⟨rfl, rfl, rfl, rfl, rfl, rfl, rfl, rfl, trivial⟩ ⟨rfl, trivial⟩
      · exact ⟨by omega, by rw [List.length_set]; exact hrN, lims_set hdr _ (mod32 _), by omega, by omega, add_next (by omega) hv (by rw [z, Int.add_zero]; rfl)⟩
      · show l1.length - (i + 1) < l1.length - i
        omega
  · have hii : i = l1.length := by omega
    subst hii
    refine Wc.seq ?_
    refine Wc.region rfl ?_
    refine Wl.q rfl (Qy.lss rfl rfl) ?_
    refine Wl.done ?_
    refine Ar.next ?_
    refine Wc.seq ?_
    refine Wc.condN rfl (by first | assumption | omega) ?_
    refine Wc.exit ?_
    refine Ar.passExit ?_
    refine Ar.passExit ?_
    refine Ar.here ?_
    refine Ar.next ?_
    refine Wc.seq ?_
    refine Wc.region rfl ?_
    refine Wl.q rfl (Qy.move rfl) ?_
    refine Wl.q rfl (Qy.move rfl) ?_
    refine Wl.q rfl (Qy.len T.sl59 rfl) ?_
    refine Wl.q rfl (Qy.move rfl) ?_
    refine Wl.q rfl (Qy.conv32 rfl T.u153 rfl (by omega)) ?_
    refine Wl.q rfl (Qy.indexAddrO (α := U32) T.sl59 rfl rfl (by assumption) (by omega)) ?_
    refine Wl.setO (z := _) 0 T.size153 rfl rfl rfl (by assumption) (by omega) rfl (fun ho1 => ?_)
    refine Wl.done ?_
    refine Ar.next ?_
    refine Wc.seq ?_
    refine Wc.region rfl ?_
    refine Wl.q rfl (Qy.move rfl) ?_
    have hd2 := lims_set hdr l1.length (s := cy) (by omega)
    have hlen : (r.set l1.length (⟨cy⟩ : U32)).length = N := by rw [List.length_set]; exact hrN
    have hval : valB (r.set l1.length (⟨cy⟩ : U32)) = valB la + valB lb := by
      rw [take_all (Nat.le_refl _), take_all hl21] at hv
      rw [← hsum, hv]
      have h3 := bval_step (r.set l1.length (⟨cy⟩ : U32)) l1.length
      rw [take_all (by omega), List.take_set_of_le (Nat.le_refl _), lg_set (by omega)] at h3
      exact h3
    refine Wl.reH 0 (Row 153 (r.set l1.length (⟨cy⟩ : U32)) []) rfl (by rw [Int.toNat_natCast]) ?_
    refine Wl.re 56 rfl (show _ = Value.slice (some ⟨b1, 0, none⟩) (r.set l1.length (⟨cy⟩ : U32)).length N by rw [List.length_set]) ?_
    refine Wl.freezeRow 0 rfl (hown _ hlen) (fun G9 hle9 hA => ?_)
    refine Wl.call 1 rfl T.fn142 rfl (c142 _ _ _ _ (by assumption) (by omega) (by first | assumption | omega)) (tags_of trivial) (fun v1 G1 Ho1 hle1 hp => ?_)
    obtain ⟨ta1, tm1, rfl, hta1, hte1, htr1, htl1, rfl, rfl⟩ := hp
    refine Wl.q rfl (Qy.assign rfl) ?_
    refine Wl.done ?_
    refine Ar.next ?_
    refine Wc.ret ?_
    refine Ar.out1 (.inr rfl) (Ho := Hp.only _ []) rfl (.tmp rfl) (Hp.sub_only _ _) ?_
    exact ⟨Nat32.of hta1 hte1 htr1 hd2 hval (by omega), rfl⟩
end Go.Proofs.Ytbppmiimeccclaa
set_option maxRecDepth 100000
set_option linter.unusedVariables false
namespace Go.Proofs.Ytbppmiimeccclaa
open Go Go.Sl
set_option maxHeartbeats 4000000
attribute [local irreducible] valB pb cmpZ
theorem c135 (G : Imm) (a b : Option Addr) (ca cb : Nat) (la lb : List U32) (ha : Arr G a la) (hb : Arr G b lb) (da : Lims la) (db : Lims lb) (h1 : la.length ≤ 1073741824) (h2 : lb.length ≤ la.length) (h3 : la.length ≤ ca) (h4 : lb.length ≤ cb) (hle : valB lb ≤ valB la) :
    Does Try.prog 135 [.slice a la.length ca, .slice b lb.length cb] G [] (fun v G' Ho => ∃ r, v = .tuple #[r, .int .i64 0] ∧ Nat32 G' r (valB la - valB lb) la.length ∧ Ho = []) := by
  have hcmp : 0 ≤ cmpZ (valB la) (valB lb) := by
    rcases Int.lt_or_eq_of_le hle with h | h
    · rw [cmpZ_gt h]; decide
    · rw [cmpZ_eq h.symm]; decide
  refine Does.enter Try.func135 rfl Try.ntmps135 rfl (fun w => ?_)
  refine Wc.seq ?_
  refine Wc.region rfl ?_
  refine Wl.q rfl (Qy.assign rfl) ?_
  refine Wl.q rfl (Qy.assign rfl) ?_
  refine Wl.done ?_
  refine Ar.next ?_
  refine Wc.seq ?_
  refine Wc.seq ?_
  refine Wc.region rfl ?_
  refine Wl.q rfl (Qy.move rfl) ?_
  refine Wl.q rfl (Qy.move rfl) ?_
  refine Wl.call0 rfl T.fn107 rfl (c107 _ _ _ _ _ _ _ (by assumption) (by assumption) (by assumption) (by assumption) (by omega) (by omega) (by omega) (by omega)) ?_
  refine Wl.q rfl (Qy.lss rfl rfl) ?_
  refine Wl.done ?_
  refine Ar.next ?_
  refine Wc.condN rfl (by first | assumption | omega) ?_
  refine Wc.skip ?_
  refine Ar.next ?_
  refine Wc.seq ?_
  refine Wc.region rfl ?_
  refine Wl.q rfl (Qy.move rfl) ?_
  refine Wl.q rfl (Qy.len T.sl59 rfl) ?_
  refine Wl.make (α := U32) 0 rfl T.sl59 T.el153 rfl rfl (by omega) (by omega) (fun b1 => ?_)
  refine Wl.q rfl (Qy.assign rfl) ?_
  refine Wl.done ?_
  refine Ar.next ?_
  refine Wc.seq ?_
  refine Wc.region rfl ?_
  refine Wl.q rfl (Qy.assign rfl) ?_
  refine Wl.done ?_
  refine Ar.next ?_
  refine Wc.seq ?_
  refine Wc.seq ?_
  refine Wc.region rfl ?_
  refine Wl.q rfl (Qy.move rfl) ?_
  refine Wl.q rfl (Qy.len T.sl59 rfl) ?_
  refine Wl.q rfl (Qy.move rfl) ?_
  refine Wl.done ?_
  refine Ar.next ?_
  refine Wc.block ?_
  obtain ⟨N, hN⟩ : ∃ N, N = la.length := ⟨_, rfl⟩
  have hM : (la.length : Int).toNat = N := by omega
  rw [hM]
  have hown : ∀ r : List U32, r.length = N → OwnA (some ⟨b1, 0, none⟩) N r [] := fun r hr => .inr ⟨b1, rfl, by rw [hr]; rfl, by omega, by simp only [maxLen]; omega⟩
  refine Wc.re 6 rfl (show _ = Value.slice (some ⟨b1, 0, none⟩) (List.replicate N (default : U32)).length N by rw [List.length_replicate]) ?_
  refine Wc.loop (ι := Nat × Int × List U32) (fun (i, cy, r) => ([(21, .int .i64 (i : Int)), (7, .int .u64 cy), (6, .slice (some ⟨b1, 0, none⟩) r.length N), (20, Go.Value.int Go.IntKind.i64 (↑(List.length la) : Int)), (19, Go.Value.slice a (List.length la) ca), (5, Go.Value.int Go.IntKind.i64 0), (4, Go.Value.slice Option.none 0 0), (1, Go.Value.slice b (List.length lb) cb)], [(0, some b1, Row 153 r [])])) (fun (i, cy, r) => i ≤ la.length ∧ r.length = N ∧ Lims r ∧ 0 ≤ cy ∧ cy ≤ 1 ∧ valB (la.take i) - valB (lb.take i) = valB (r.take i) - pb i * cy) (fun (i, cy, r) => la.length - i) ((0, 0, List.replicate N (default : U32))) (⟨Nat.zero_le _, List.length_replicate, Lims.zeros N, by decide, by decide, by rw [List.take_zero, List.take_zero, List.take_zero, Int.mul_zero, Int.sub_zero, valB_nil]; rfl⟩) ⟨rfl, rfl, rfl, rfl, rfl, rfl, rfl, rfl, trivial⟩ ⟨rfl, trivial⟩ (fun ⟨i, cy, r⟩ => fun (hk : i ≤ la.length ∧ r.length = N ∧ Lims r ∧ 0 ≤ cy ∧ cy ≤ 1 ∧ valB (la.take i) - valB (lb.take i) = valB (r.take i) - pb i * cy) => ?_)
  obtain ⟨hi, hrN, hdr, hc0, hc1, hv⟩ := hk
  have hor := hown r hrN
  rcases Nat.lt_or_ge i la.length with hia | hia
  · have r1 : 0 ≤ (la[((i : Nat) : Int).toNat]?.getD default).v ∧ (la[((i : Nat) : Int).toNat]?.getD default).v < 4294967296 := lg_lt da hia
    have e1 : (la[((i : Nat) : Int).toNat]?.getD default).v = lg la i := rfl
    rcases Nat.lt_or_ge i lb.length with hib | hib
    · have r2 : 0 ≤ (lb[((i : Nat) : Int).toNat]?.getD default).v ∧ (lb[((i : Nat) : Int).toNat]?.getD default).v < 4294967296 := lg_lt db hib
      have e2 : (lb[((i : Nat) : Int).toNat]?.getD default).v = lg lb i := rfl
      by_cases hlt : (la[((i : Nat) : Int).toNat]?.getD default).v < cy + (lb[((i : Nat) : Int).toNat]?.getD default).v
      · refine Wc.seq ?_
        refine Wc.region rfl ?_
        refine Wl.q rfl (Qy.lss rfl rfl) ?_
        refine Wl.done ?_
        refine Ar.next ?_
        refine Wc.seq ?_
        refine Wc.condP rfl (by first | assumption | omega) ?_
        refine Wc.skip ?_
        refine Ar.next ?_
        refine Wc.seq ?_
        refine Wc.block ?_
        refine Wc.seq ?_
        refine Wc.region rfl ?_
        refine Wl.q rfl (Qy.move rfl) ?_
        refine Wl.q rfl (Qy.at (α := U32) T.sl59 rfl rfl (by assumption) (by omega)) ?_
        refine Wl.q rfl (Qy.loadG T.one153 rfl (Arr.cell (by assumption) (by omega) 0 rfl rfl)) ?_
        refine Wl.q rfl (Qy.assign rfl) ?_
        refine Wl.q rfl (Qy.assign rfl) ?_
        refine Wl.done ?_
        refine Ar.next ?_
        refine Wc.seq ?_
        refine Wc.region rfl ?_
        refine Wl.q rfl (Qy.move rfl) ?_
        refine Wl.q rfl (Qy.assign rfl) ?_
        refine Wl.done ?_
        refine Ar.next ?_
        refine Wc.seq ?_
        refine Wc.seq ?_
        refine Wc.region rfl ?_
        refine Wl.q rfl (Qy.move rfl) ?_
        refine Wl.q rfl (Qy.move rfl) ?_
        refine Wl.q rfl (Qy.len T.sl59 rfl) ?_
        refine Wl.q rfl (Qy.lss rfl rfl) ?_
        refine Wl.done ?_
        refine Ar.next ?_
        refine Wc.condP rfl (by first | assumption | omega) ?_
        refine Wc.region rfl ?_
        refine Wl.q rfl (Qy.move rfl) ?_
        refine Wl.q rfl (Qy.move rfl) ?_
        refine Wl.q rfl (Qy.move rfl) ?_
        refine Wl.q rfl (Qy.at (α := U32) T.sl59 rfl rfl (by assumption) (by omega)) ?_
        refine Wl.q rfl (Qy.loadG T.one153 rfl (Arr.cell (by assumption) (by omega) 0 rfl rfl)) ?_
        refine Wl.q rfl (Qy.conv64 rfl T.u151 rfl (by omega)) ?_
        refine Wl.q rfl (Qy.uadd64 rfl rfl (by omega)) ?_
        refine Wl.q rfl (Qy.assign rfl) ?_
        refine Wl.done ?_
        refine Ar.next ?_
        refine Wc.seq ?_
        refine Wc.region rfl ?_
        refine Wl.q rfl (Qy.move rfl) ?_
        refine Wl.q rfl (Qy.conv64 rfl T.u151 rfl (by omega)) ?_
        refine Wl.q rfl (Qy.move rfl) ?_
        refine Wl.q rfl (Qy.usubN rfl rfl (by omega)) ?_
        refine Wl.q rfl (Qy.assign rfl) ?_
        refine Wl.done ?_
        refine Ar.next ?_
        refine Wc.seq ?_
        refine Wc.region rfl ?_
        refine Wl.q rfl (Qy.move rfl) ?_
        refine Wl.q rfl (Qy.move rfl) ?_
        refine Wl.q rfl (Qy.move rfl) ?_
        refine Wl.q rfl (Qy.trunc32 rfl T.u153 rfl) ?_
        refine Wl.q rfl (Qy.indexAddrO (α := U32) T.sl59 rfl rfl (by assumption) (by omega)) ?_
        refine Wl.setO (z := _) 0 T.size153 rfl rfl rfl (by assumption) (by omega) rfl (fun ho1 => ?_)
        refine Wl.done ?_
        refine Ar.next ?_
        refine Wc.region rfl ?_
        refine Wl.q rfl (Qy.move rfl) ?_
        refine Wl.q rfl (Qy.shr32 rfl rfl (by omega)) ?_
        refine Wl.q rfl (Qy.and1 rfl rfl (by omega)) ?_
        refine Wl.q rfl (Qy.assign rfl) ?_
        refine Wl.done ?_
        refine Ar.outNormal ?_
        refine Ar.next ?_
        refine Wc.region rfl ?_
        refine Wl.q rfl (Qy.add rfl rfl (by omega)) ?_
        refine Wl.q rfl (Qy.move rfl) ?_
        refine Wl.done ?_
        have es : ((la[((i : Nat) : Int).toNat]?.getD default).v - (cy + (lb[((i : Nat) : Int).toNat]?.getD default).v) + 18446744073709551616) % 4294967296 = ((la[((i : Nat) : Int).toNat]?.getD default).v - (cy + (lb[((i : Nat) : Int).toNat]?.getD default).v) + 4294967296) := by omega
        have ec : ((la[((i : Nat) : Int).toNat]?.getD default).v - (cy + (lb[((i : Nat) : Int).toNat]?.getD default).v) + 18446744073709551616) / 4294967296 % 2 = 1 := by omega
        refine Ar.re 7 rfl (show _ = Value.int .u64 1 by rw [ec]) ?_
        refine Ar.reH 0 (Row 153 (r.set i (⟨((la[((i : Nat) : Int).toNat]?.getD default).v - (cy + (lb[((i : Nat) : Int).toNat]?.getD default).v) + 4294967296)⟩ : U32)) []) rfl (by rw [es, Int.toNat_natCast]) ?_
        refine Ar.re 6 rfl (show _ = Value.slice (some ⟨b1, 0, none⟩) (r.set i (⟨((la[((i : Nat) : Int).toNat]?.getD default).v - (cy + (lb[((i : Nat) : Int).toNat]?.getD default).v) + 4294967296)⟩ : U32)).length N by rw [List.length_set]) ?_
        refine Ar.again ((i + 1, 1, r.set i (⟨((la[((i : Nat) : Int).toNat]?.getD default).v - (cy + (lb[((i : Nat) : Int).toNat]?.getD default).v) + 4294967296)⟩ : U32))) ?_ ?_ rfl ⟨rfl, rfl, rfl, rfl, rfl, rfl, rfl, rfl, trivial⟩ ⟨rfl, trivial⟩
        · exact ⟨by omega, by rw [List.length_set]; exact hrN, lims_set hdr _ (by omega), by decide, by decide, sub_next (cy' := 1) (by omega) hv (by rw [← e1, ← e2]; omega)⟩
        · show la.length - (i + 1) < la.length - i
          omega
      · refine Wc.seq ?_
        refine Wc.region rfl ?_
        refine Wl.q rfl (Qy.lss rfl rfl) ?_
        refine Wl.done ?_
        refine Ar.next ?_
        refine Wc.seq ?_
        refine Wc.condP rfl (by first | assumption | omega) ?_
        refine Wc.skip ?_
        refine Ar.next ?_
        refine Wc.seq ?_
        refine Wc.block ?_
        refine Wc.seq ?_
        refine Wc.region rfl ?_
        refine Wl.q rfl (Qy.move rfl) ?_
        refine Wl.q rfl (Qy.at (α := U32) T.sl59 rfl rfl (by assumption) (by omega)) ?_
        refine Wl.q rfl (Qy.loadG T.one153 rfl (Arr.cell (by assumption) (by omega) 0 rfl rfl)) ?_
        refine Wl.q rfl (Qy.assign rfl) ?_
        refine Wl.q rfl (Qy.assign rfl) ?_
        refine Wl.done ?_
        refine Ar.next ?_
        refine Wc.seq ?_
        refine Wc.region rfl ?_
        refine Wl.q rfl (Qy.move rfl) ?_
        refine Wl.q rfl (Qy.assign rfl) ?_
        refine Wl.done ?_
        refine Ar.next ?_
        refine Wc.seq ?_
        refine Wc.seq ?_
        refine Wc.region rfl ?_
        refine Wl.q rfl (Qy.move rfl) ?_
        refine Wl.q rfl (Qy.move rfl) ?_
        refine Wl.q rfl (Qy.len T.sl59 rfl) ?_
        refine Wl.q rfl (Qy.lss rfl rfl) ?_
        refine Wl.done ?_
        refine Ar.next ?_
        refine Wc.condP rfl (by first | assumption | omega) ?_
        refine Wc.region rfl ?_
        refine Wl.q rfl (Qy.move rfl) ?_
        refine Wl.q rfl (Qy.move rfl) ?_
        refine Wl.q rfl (Qy.move rfl) ?_
        refine Wl.q rfl (Qy.at (α := U32) T.sl59 rfl rfl (by assumption) (by omega)) ?_
        refine Wl.q rfl (Qy.loadG T.one153 rfl (Arr.cell (by assumption) (by omega) 0 rfl rfl)) ?_
        refine Wl.q rfl (Qy.conv64 rfl T.u151 rfl (by omega)) ?_
        refine Wl.q rfl (Qy.uadd64 rfl rfl (by omega)) ?_
        refine Wl.q rfl (Qy.assign rfl) ?_
        refine Wl.done ?_
        refine Ar.next ?_
        refine Wc.seq ?_
        refine Wc.region rfl ?_
        refine Wl.q rfl (Qy.move rfl) ?_
        refine Wl.q rfl (Qy.conv64 rfl T.u151 rfl (by omega)) ?_
        refine Wl.q rfl (Qy.move rfl) ?_
        refine Wl.q rfl (Qy.usub64 rfl rfl (by omega)) ?_
        refine Wl.q rfl (Qy.assign rfl) ?_
        refine Wl.done ?_
        refine Ar.next ?_
        refine Wc.seq ?_
        refine Wc.region rfl ?_
        refine Wl.q rfl (Qy.move rfl) ?_
        refine Wl.q rfl (Qy.move rfl) ?_
        refine Wl.q rfl (Qy.move rfl) ?_
        refine Wl.q rfl (Qy.conv32 rfl T.u153 rfl (by omega)) ?_
        refine Wl.q rfl (Qy.indexAddrO (α := U32) T.sl59 rfl rfl (by assumption) (by omega)) ?_
        refine Wl.setO (z := _) 0 T.size153 rfl rfl rfl (by assumption) (by omega) rfl (fun ho1 => ?_)
        refine Wl.done ?_
        refine Ar.next ?_
        refine Wc.region rfl ?_
        refine Wl.q rfl (Qy.move rfl) ?_
        refine Wl.q rfl (Qy.shr32 rfl rfl (by omega)) ?_
        refine Wl.q rfl (Qy.and1 rfl rfl (by omega)) ?_
        refine Wl.q rfl (Qy.assign rfl) ?_
        refine Wl.done ?_
        refine Ar.outNormal ?_
        refine Ar.next ?_
        refine Wc.region rfl ?_
        refine Wl.q rfl (Qy.add rfl rfl (by omega)) ?_
        refine Wl.q rfl (Qy.move rfl) ?_
        refine Wl.done ?_
        have es : ((la[((i : Nat) : Int).toNat]?.getD default).v - (cy + (lb[((i : Nat) : Int).toNat]?.getD default).v)) = ((la[((i : Nat) : Int).toNat]?.getD default).v - (cy + (lb[((i : Nat) : Int).toNat]?.getD default).v)) := by omega
        have ec : ((la[((i : Nat) : Int).toNat]?.getD default).v - (cy + (lb[((i : Nat) : Int).toNat]?.getD default).v)) / 4294967296 % 2 = 0 := by omega
        refine Ar.re 7 rfl (show _ = Value.int .u64 0 by rw [ec]) ?_
        refine Ar.reH 0 (Row 153 (r.set i (⟨((la[((i : Nat) : Int).toNat]?.getD default).v - (cy + (lb[((i : Nat) : Int).toNat]?.getD default).v))⟩ : U32)) []) rfl (by rw [es, Int.toNat_natCast]) ?_
        refine Ar.re 6 rfl (show _ = Value.slice (some ⟨b1, 0, none⟩) (r.set i (⟨((la[((i : Nat) : Int).toNat]?.getD default).v - (cy + (lb[((i : Nat) : Int).toNat]?.getD default).v))⟩ : U32)).length N by rw [List.length_set]) ?_
        refine Ar.again ((i + 1, 0, r.set i (⟨((la[((i : Nat) : Int).toNat]?.getD default).v - (cy + (lb[((i : Nat) : Int).toNat]?.getD default).v))⟩ : U32))) ?_ ?_ rfl ⟨rfl, rfl, rfl, rfl, rfl, rfl, rfl, rfl, trivial⟩ ⟨rfl, trivial⟩
        · exact ⟨by omega, by rw [List.length_set]; exact hrN, lims_set hdr _ (by omega), by decide, by decide, sub_next (cy' := 0) (by omega) hv (by rw [← e1, ← e2]; omega)⟩
        · show la.length - (i + 1) < la.length - i
          omega
    · have z := lg_end hib
      by_cases hlt : (la[((i : Nat) : Int).toNat]?.getD default).v < cy
      · refine Wc.seq ?_
        refine Wc.region rfl ?_
        refine Wl.q rfl (Qy.lss rfl rfl) ?_
        refine Wl.done ?_
        refine Ar.next ?_
        refine Wc.seq ?_
        refine Wc.condP rfl (by first | assumption | omega) ?_
        refine Wc.skip ?_
        refine Ar.next ?_
        refine Wc.seq ?_
        refine Wc.block ?_
        refine Wc.seq ?_
        refine Wc.region rfl ?_
        refine Wl.q rfl (Qy.move rfl) ?_
        refine Wl.q rfl (Qy.at (α := U32) T.sl59 rfl rfl (by assumption) (by omega)) ?_
        refine Wl.q rfl (Qy.loadG T.one153 rfl (Arr.cell (by assumption) (by omega) 0 rfl rfl)) ?_
        refine Wl.q rfl (Qy.assign rfl) ?_
        refine Wl.q rfl (Qy.assign rfl) ?_
        refine Wl.done ?_
        refine Ar.next ?_
        refine Wc.seq ?_
        refine Wc.region rfl ?_
        refine Wl.q rfl (Qy.move rfl) ?_
        refine Wl.q rfl (Qy.assign rfl) ?_
        refine Wl.done ?_
        refine Ar.next ?_
        refine Wc.seq ?_
        refine Wc.seq ?_
        refine Wc.region rfl ?_
        refine Wl.q rfl (Qy.move rfl) ?_
        refine Wl.q rfl (Qy.move rfl) ?_
        refine Wl.q rfl (Qy.len T.sl59 rfl) ?_
        refine Wl.q rfl (Qy.lss rfl rfl) ?_
        refine Wl.done ?_
        refine Ar.next ?_
        refine Wc.condN rfl (by first | assumption | omega) ?_
        refine Wc.skip ?_
        refine Ar.next ?_
        refine Wc.seq ?_
        refine Wc.region rfl ?_
        refine Wl.q rfl (Qy.move rfl) ?_
        refine Wl.q rfl (Qy.conv64 rfl T.u151 rfl (by omega)) ?_
        refine Wl.q rfl (Qy.move rfl) ?_
        refine Wl.q rfl (Qy.usubN rfl rfl (by omega)) ?_
        refine Wl.q rfl (Qy.assign rfl) ?_
        refine Wl.done ?_
        refine Ar.next ?_
        refine Wc.seq ?_
        refine Wc.region rfl ?_
        refine Wl.q rfl (Qy.move rfl) ?_
        refine Wl.q rfl (Qy.move rfl) ?_
        refine Wl.q rfl (Qy.move rfl) ?_
        refine Wl.q rfl (Qy.trunc32 rfl T.u153 rfl) ?_
        refine Wl.q rfl (Qy.indexAddrO (α := U32) T.sl59 rfl rfl (by assumption) (by omega)) ?_
        refine Wl.setO (z := _) 0 T.size153 rfl rfl rfl (by assumption) (by omega) rfl (fun ho1 => ?_)
        refine Wl.done ?_
        refine Ar.next ?_
        refine Wc.region rfl ?_
        refine Wl.q rfl (Qy.move rfl) ?_
        refine Wl.q rfl (Qy.shr32 rfl rfl (by omega)) ?_
        refine Wl.q rfl (Qy.and1 rfl rfl (by omega)) ?_
        refine Wl.q rfl (Qy.assign rfl) ?_
        refine Wl.done ?_
        refine Ar.outNormal ?_
        refine Ar.next ?_
        refine Wc.region rfl ?_
        refine Wl.q rfl (Qy.add rfl rfl (by omega)) ?_
        refine Wl.q rfl (Qy.move rfl) ?_
        refine Wl.done ?_
        have es : ((la[((i : Nat) : Int).toNat]?.getD default).v - (cy) + 18446744073709551616) % 4294967296 = ((la[((i : Nat) : Int).toNat]?.getD default).v - (cy) + 4294967296) := by omega
        have ec : ((la[((i : Nat) : Int).toNat]?.getD default).v - (cy) + 18446744073709551616) / 4294967296 % 2 = 1 := by omega
        refine Ar.re 7 rfl (show _ = Value.int .u64 1 by rw [ec]) ?_
        refine Ar.reH 0 (Row 153 (r.set i (⟨((la[((i : Nat) : Int).toNat]?.getD default).v - (cy) + 4294967296)⟩ : U32)) []) rfl (by rw [es, Int.toNat_natCast]) ?_
        refine Ar.re 6 rfl (show _ = Value.slice (some ⟨b1, 0, none⟩) (r.set i (⟨((la[((i : Nat) : Int).toNat]?.getD default).v - (cy) + 4294967296)⟩ : U32)).length N by rw [List.length_set]) ?_
        refine Ar.again ((i + 1, 1, r.set i (⟨((la[((i : Nat) : Int).toNat]?.getD default).v - (cy) + 4294967296)⟩ : U32))) ?_ ?_ rfl ⟨rfl, rfl, rfl, rfl, rfl, rfl, rfl, rfl, trivial⟩ ⟨rfl, trivial⟩
        · exact ⟨by omega, by rw [List.length_set]; exact hrN, lims_set hdr _ (by omega), by decide, by decide, sub_next (cy' := 1) (by omega) hv (by rw [← e1, z]; omega)⟩
        · show la.length - (i + 1) < la.length - i
          omega
      · refine Wc.seq ?_
        refine Wc.region rfl ?_
        refine Wl.q rfl (Qy.lss rfl rfl) ?_
        refine Wl.done ?_
        refine Ar.next ?_
        refine Wc.seq ?_
        refine Wc.condP rfl (by first | assumption | omega) ?_
        refine Wc.skip ?_
        refine Ar.next ?_
        refine Wc.seq ?_
        refine Wc.block ?_
        refine Wc.seq ?_
        refine Wc.region rfl ?_
        refine Wl.q rfl (Qy.move rfl) ?_
        refine Wl.q rfl (Qy.at (α := U32) T.sl59 rfl rfl (by assumption) (by omega)) ?_
        refine Wl.q rfl (Qy.loadG T.one153 rfl (Arr.cell (by assumption) (by omega) 0 rfl rfl)) ?_
        refine Wl.q rfl (Qy.assign rfl) ?_
        refine Wl.q rfl (Qy.assign rfl) ?_
        refine Wl.done ?_
        refine Ar.next ?_
        refine Wc.seq ?_
        refine Wc.region rfl ?_
        refine Wl.q rfl (Qy.move rfl) ?_
        refine Wl.q rfl (Qy.assign rfl) ?_
        refine Wl.done ?_
        refine Ar.next ?_
        refine Wc.seq ?_
        refine Wc.seq ?_
        refine Wc.region rfl ?_
        refine Wl.q rfl (Qy.move rfl) ?_
        refine Wl.q rfl (Qy.move rfl) ?_
        refine Wl.q rfl (Qy.len T.sl59 rfl) ?_
        refine Wl.q rfl (Qy.lss rfl rfl) ?_
        refine Wl.done ?_
        refine Ar.next ?_
        refine Wc.condN rfl (by first | assumption | omega) ?_
        refine Wc.skip ?_
        refine Ar.next ?_
        refine Wc.seq ?_
        refine Wc.region rfl ?_
        refine Wl.q rfl (Qy.move rfl) ?_
        refine Wl.q rfl (Qy.conv64 rfl T.u151 rfl (by omega)) ?_
        refine Wl.q rfl (Qy.move rfl) ?_
        refine Wl.q rfl (Qy.usub64 rfl rfl (by omega)) ?_
        refine Wl.q rfl (Qy.assign rfl) ?_
        refine Wl.done ?_
        refine Ar.next ?_
        refine Wc.seq ?_
        refine Wc.region rfl ?_
        refine Wl.q rfl (Qy.move rfl) ?_
        refine Wl.q rfl (Qy.move rfl) ?_
        refine Wl.q rfl (Qy.move rfl) ?_
        refine Wl.q rfl (Qy.conv32 rfl T.u153 rfl (by omega)) ?_
        refine Wl.q rfl (Qy.indexAddrO (α := U32) T.sl59 rfl rfl (by assumption) (by omega)) ?_
        refine Wl.setO (z := _) 0 T.size153 rfl rfl rfl (by assumption) (by omega) rfl (fun ho1 => ?_)
        refine Wl.done ?_
        refine Ar.next ?_
        refine Wc.region rfl ?_
        refine Wl.q rfl (Qy.move rfl) ?_
        refine Wl.q rfl (Qy.shr32 rfl rfl (by omega)) ?_
        refine Wl.q rfl (Qy.and1 rfl rfl (by omega)) ?_
        refine Wl.q rfl (Qy.assign rfl) ?_
        refine Wl.done ?_
        refine Ar.outNormal ?_
        refine Ar.next ?_
        refine Wc.region rfl ?_
        refine Wl.q rfl (Qy.add rfl rfl (by omega)) ?_
        refine Wl.q rfl (Qy.move rfl) ?_
        refine Wl.done ?_
        have es : ((la[((i : Nat) : Int).toNat]?.getD default).v - (cy)) = ((la[((i : Nat) : Int).toNat]?.getD default).v - (cy)) := by omega
        have ec : ((la[((i : Nat) : Int).toNat]?.getD default).v - (cy)) / 4294967296 % 2 = 0 := by omega
        refine Ar.re 7 rfl (show _ = Value.int .u64 0 by rw [ec]) ?_
        refine Ar.reH 0 (Row 153 (r.set i (⟨((la[((i : Nat) : Int).toNat]?.getD default).v - (cy))⟩ : U32)) []) rfl (by rw [es, Int.toNat_natCast]) ?_
        refine Ar.re 6 rfl (show _ = Value.slice (some ⟨b1, 0, none⟩) (r.set i (⟨((la[((i : Nat) : Int).toNat]?.getD default).v - (cy))⟩ : U32)).length N by rw [List.length_set]) ?_
        refine Ar.again ((i + 1, 0, r.set i (⟨((la[((i : Nat) : Int).toNat]?.getD default).v - (cy))⟩ : U32))) ?_ ?_ rfl ⟨rfl, rfl, rfl, rfl, rfl, rfl, rfl, rfl, trivial⟩ ⟨rfl, trivial⟩
        · exact ⟨by omega, by rw [List.length_set]; exact hrN, lims_set hdr _ (by omega), by decide, by decide, sub_next (cy' := 0) (by omega) hv (by rw [← e1, z]; omega)⟩
        · show la.length - (i + 1) < la.length - i
          omega
  · have hii : i = la.length := by omega
    subst hii
    refine Wc.seq ?_
    refine Wc.region rfl ?_
    refine Wl.q rfl (Qy.lss rfl rfl) ?_
    refine Wl.done ?_
    refine Ar.next ?_
    refine Wc.seq ?_
    refine Wc.condN rfl (by first | assumption | omega) ?_
    refine Wc.exit ?_
    refine Ar.passExit ?_
    refine Ar.passExit ?_
    refine Ar.here ?_
    refine Ar.next ?_
    refine Wc.seq ?_
    refine Wc.region rfl ?_
    refine Wl.q rfl (Qy.move rfl) ?_
    refine Wl.freezeRow 0 rfl hor (fun G9 hle9 hA => ?_)
    refine Wl.call 1 rfl T.fn142 rfl (c142 _ _ _ _ (by assumption) (by omega) (by first | assumption | omega)) (tags_of trivial) (fun v1 G1 Ho1 hle1 hp => ?_)
    obtain ⟨ta1, tm1, rfl, hta1, hte1, htr1, htl1, rfl, rfl⟩ := hp
    refine Wl.q rfl (Qy.assign rfl) ?_
    refine Wl.q rfl (Qy.assign rfl) ?_
    refine Wl.done ?_
    refine Ar.next ?_
    refine Wc.ret ?_
    refine Ar.out2 (.inr rfl) (Ho := Hp.only _ []) rfl (.tmp rfl) (.tmp rfl) (Hp.sub_only _ _) ?_
    exact ⟨_, rfl, Nat32.of hta1 hte1 htr1 hdr (sub_end rfl h2 hle (by omega) hdr ⟨hc0, hc1⟩ hv) (by omega), rfl⟩
end Go.Proofs.Ytbppmiimeccclaa
set_option maxRecDepth 100000
set_option linter.unusedVariables false
namespace Go.Proofs.Ytbppmiimeccclaa
open Go Go.Sl
set_option maxHeartbeats 4000000
theorem lg_zeros (n k : Nat) : lg (List.replicate n (default : U32)) k = 0 := by
  unfold lg
  rw [Int.toNat_natCast, List.getElem?_replicate]
  split <;> rfl
attribute [local irreducible] valB pb cmpZ
theorem c136 (G : Imm) (a b : Option Addr) (ca cb : Nat) (la lb : List U32) (ha : Arr G a la) (hb : Arr G b lb) (da : Lims la) (db : Lims lb) (h1 : la.length ≤ 536870912) (h2 : lb.length ≤ 536870912) :
    Does Try.prog 136 [.slice a la.length ca, .slice b lb.length cb] G [] (fun v G' Ho => Nat32 G' v (valB la * valB lb) (la.length + lb.length) ∧ Ho = []) := by
  refine Does.enter Try.func136 rfl Try.ntmps136 rfl (fun w => ?_)
  refine Wc.seq ?_
  refine Wc.region rfl ?_
  refine Wl.q rfl (Qy.assign rfl) ?_
  refine Wl.done ?_
  refine Ar.next ?_
  refine Wc.seq ?_
  refine Wc.region rfl ?_
  refine Wl.q rfl (Qy.move rfl) ?_
  refine Wl.q rfl (Qy.len T.sl59 rfl) ?_
  refine Wl.q rfl (Qy.move rfl) ?_
  refine Wl.q rfl (Qy.len T.sl59 rfl) ?_
  refine Wl.q rfl (Qy.add rfl rfl (by omega)) ?_
  refine Wl.make (α := U32) 0 rfl T.sl59 T.el153 rfl rfl (by omega) (by omega) (fun b1 => ?_)
  refine Wl.q rfl (Qy.assign rfl) ?_
  refine Wl.done ?_
  refine Ar.next ?_
  refine Wc.seq ?_
  refine Wc.seq ?_
  refine Wc.region rfl ?_
  refine Wl.q rfl (Qy.move rfl) ?_
  refine Wl.q rfl (Qy.len T.sl59 rfl) ?_
  refine Wl.q rfl (Qy.move rfl) ?_
  refine Wl.done ?_
  refine Ar.next ?_
  refine Wc.block ?_
  obtain ⟨N, hN⟩ : ∃ N, N = la.length + lb.length := ⟨_, rfl⟩
  have hM : ((la.length : Int) + (lb.length : Int)).toNat = N := by omega
  rw [hM]
  have hown : ∀ r : List U32, r.length = N → OwnA (some ⟨b1, 0, none⟩) N r [] := fun r hr => .inr ⟨b1, rfl, by rw [hr]; rfl, by omega, by simp only [maxLen]; omega⟩
  refine Wc.re 5 rfl (show _ = Value.slice (some ⟨b1, 0, none⟩) (List.replicate N (default : U32)).length N by rw [List.length_replicate]) ?_
  refine Wc.loop (ι := Nat × List U32) (fun (i, r) => ([(19, .int .i64 (i : Int)), (5, .slice (some ⟨b1, 0, none⟩) r.length N), (18, Go.Value.int Go.IntKind.i64 (↑(List.length la) : Int)), (17, Go.Value.slice a (List.length la) ca), (4, Go.Value.slice Option.none 0 0), (1, Go.Value.slice b (List.length lb) cb)], [(0, some b1, Row 153 r [])])) (fun (i, r) => i ≤ la.length ∧ r.length = N ∧ Lims r ∧ valB r = valB (la.take i) * valB lb ∧ ∀ k, i + lb.length ≤ k → lg r k = 0) (fun (i, r) => la.length - i) ((0, List.replicate N (default : U32))) (⟨Nat.zero_le _, List.length_replicate, Lims.zeros N, by rw [List.take_zero, valB_nil, Int.zero_mul]; exact valB_replicate N, fun k _ => lg_zeros N k⟩) ⟨rfl, rfl, rfl, rfl, rfl, rfl, trivial⟩ ⟨rfl, trivial⟩ (fun ⟨i, r⟩ => fun (hk : i ≤ la.length ∧ r.length = N ∧ Lims r ∧ valB r = valB (la.take i) * valB lb ∧ ∀ k, i + lb.length ≤ k → lg r k = 0) => ?_)
  obtain ⟨hi, hrN, hdr, hv, hz⟩ := hk
  rcases Nat.lt_or_ge i la.length with hia | hia
  · have hxi : 0 ≤ (la[((i : Nat) : Int).toNat]?.getD default).v ∧ (la[((i : Nat) : Int).toNat]?.getD default).v < 4294967296 := lg_lt da hia
    refine Wc.seq ?_
    refine Wc.region rfl ?_
    refine Wl.q rfl (Qy.lss rfl rfl) ?_
    refine Wl.done ?_
    refine Ar.next ?_
    refine Wc.seq ?_
    refine Wc.condP rfl (by first | assumption | omega) ?_
    refine Wc.skip ?_
    refine Ar.next ?_
    refine Wc.seq ?_
    refine Wc.block ?_
    refine Wc.seq ?_
    refine Wc.region rfl ?_
    refine Wl.q rfl (Qy.move rfl) ?_
    refine Wl.q rfl (Qy.at (α := U32) T.sl59 rfl rfl (by assumption) (by omega)) ?_
    refine Wl.q rfl (Qy.loadG T.one153 rfl (Arr.cell (by assumption) (by omega) 0 rfl rfl)) ?_
    refine Wl.q rfl (Qy.assign rfl) ?_
    refine Wl.q rfl (Qy.assign rfl) ?_
    refine Wl.done ?_
    refine Ar.next ?_
    refine Wc.seq ?_
    refine Wc.region rfl ?_
    refine Wl.q rfl (Qy.assign rfl) ?_
    refine Wl.done ?_
    refine Ar.next ?_
    refine Wc.seq ?_
    refine Wc.seq ?_
    refine Wc.region rfl ?_
    refine Wl.q rfl (Qy.move rfl) ?_
    refine Wl.q rfl (Qy.len T.sl59 rfl) ?_
    refine Wl.q rfl (Qy.move rfl) ?_
    refine Wl.done ?_
    refine Ar.next ?_
    refine Wc.block ?_
    refine Wc.loop (ι := Nat × Int × List U32) (fun (j, c, s) => ([(26, .int .i64 (j : Int)), (8, .int .u64 c), (5, .slice (some ⟨b1, 0, none⟩) s.length N), (17, .slice a la.length ca), (18, .int .i64 (la.length : Int)), (25, Go.Value.int Go.IntKind.i64 (↑(List.length lb) : Int)), (24, Go.Value.slice b (List.length lb) cb), (7, Go.Value.int Go.IntKind.u32 (Go.Sl.U32.v (Option.getD la[Int.toNat (↑i : Int)]? Inhabited.default))), (6, Go.Value.int Go.IntKind.i64 (↑i : Int)), (19, Go.Value.int Go.IntKind.i64 (↑i : Int)), (4, Go.Value.slice Option.none 0 0), (1, Go.Value.slice b (List.length lb) cb)], [(0, some b1, Row 153 s [])])) (fun (j, c, s) => 0 ≤ c ∧ c ≤ 4294967295 ∧ s.length = N ∧ Lims s ∧ valB s + pb (i + j) * c = valB (la.take i) * valB lb + pb i * (lg la i * valB (lb.take j)) ∧ j ≤ lb.length ∧ ∀ k, i + lb.length ≤ k → lg s k = 0) (fun (j, c, s) => lb.length - j) ((0, 0, r)) (⟨by decide, by decide, hrN, hdr, by rw [Int.mul_zero, List.take_zero, valB_nil, Int.mul_zero, Int.mul_zero, Int.add_zero, Int.add_zero]; exact hv, Nat.zero_le _, hz⟩) ⟨rfl, rfl, rfl, rfl, rfl, rfl, rfl, rfl, rfl, rfl, rfl, rfl, trivial⟩ ⟨rfl, trivial⟩ (fun ⟨j, c, s⟩ => fun (hk : 0 ≤ c ∧ c ≤ 4294967295 ∧ s.length = N ∧ Lims s ∧ valB s + pb (i + j) * c = valB (la.take i) * valB lb + pb i * (lg la i * valB (lb.take j)) ∧ j ≤ lb.length ∧ ∀ k, i + lb.length ≤ k → lg s k = 0) => ?_)
    obtain ⟨hc0, hc1, hsN, hds, hvs, hjl, hzs⟩ := hk
    have hos := hown s hsN
    have ekk : ((i : Int) + (j : Int)).toNat = i + j := by omega
    rcases Nat.lt_or_ge j lb.length with hjb | hjb
    · have hyj : 0 ≤ (lb[((j : Nat) : Int).toNat]?.getD default).v ∧ (lb[((j : Nat) : Int).toNat]?.getD default).v < 4294967296 := lg_lt db hjb
      have hxy := bmul_small hxi hyj
      have hxy2 : 0 ≤ (la[((i : Nat) : Int).toNat]?.getD default).v * (lb[((j : Nat) : Int).toNat]?.getD default).v ∧ (la[((i : Nat) : Int).toNat]?.getD default).v * (lb[((j : Nat) : Int).toNat]?.getD default).v ≤ 18446744073709551615 := by omega
      have hsk : 0 ≤ (s[((i : Int) + (j : Int)).toNat]?.getD default).v ∧ (s[((i : Int) + (j : Int)).toNat]?.getD default).v < 4294967296 := hds.at (by omega)
      refine Wc.seq ?_
      refine Wc.region rfl ?_
      refine Wl.q rfl (Qy.lss rfl rfl) ?_
      refine Wl.done ?_
      refine Ar.next ?_
      refine Wc.seq ?_
      refine Wc.condP rfl (by first | assumption | omega) ?_
      refine Wc.skip ?_
      refine Ar.next ?_
      refine Wc.seq ?_
      refine Wc.block ?_
      refine Wc.seq ?_
      refine Wc.region rfl ?_
      refine Wl.q rfl (Qy.move rfl) ?_
      refine Wl.q rfl (Qy.at (α := U32) T.sl59 rfl rfl (by assumption) (by omega)) ?_
      refine Wl.q rfl (Qy.loadG T.one153 rfl (Arr.cell (by assumption) (by omega) 0 rfl rfl)) ?_
      refine Wl.q rfl (Qy.assign rfl) ?_
      refine Wl.q rfl (Qy.assign rfl) ?_
      refine Wl.done ?_
      refine Ar.next ?_
      refine Wc.seq ?_
      refine Wc.region rfl ?_
      refine Wl.q rfl (Qy.move rfl) ?_
      refine Wl.q rfl (Qy.move rfl) ?_
      refine Wl.q rfl (Qy.conv64 rfl T.u151 rfl (by omega)) ?_
      refine Wl.q rfl (Qy.move rfl) ?_
      refine Wl.q rfl (Qy.conv64 rfl T.u151 rfl (by omega)) ?_
      refine Wl.q rfl (Qy.umul64 rfl rfl (by first | assumption | omega)) ?_
      refine Wl.q rfl (Qy.move rfl) ?_
      refine Wl.q rfl (Qy.move rfl) ?_
      refine Wl.q rfl (Qy.move rfl) ?_
      refine Wl.q rfl (Qy.add rfl rfl (by omega)) ?_
      refine Wl.q rfl (Qy.indexAddrO (α := U32) T.sl59 rfl rfl (by assumption) (by omega)) ?_
      refine Wl.q rfl (Qy.loadO 0 0 T.one153 rfl rfl (by assumption) (by omega) rfl rfl) ?_
      refine Wl.q rfl (Qy.conv64 rfl T.u151 rfl (by omega)) ?_
      refine Wl.q rfl (Qy.uadd64 rfl rfl (by omega)) ?_
      refine Wl.q rfl (Qy.uadd64 rfl rfl (by omega)) ?_
      refine Wl.q rfl (Qy.assign rfl) ?_
      refine Wl.done ?_
      refine Ar.next ?_
      refine Wc.seq ?_
      refine Wc.region rfl ?_
      refine Wl.q rfl (Qy.move rfl) ?_
      refine Wl.q rfl (Qy.move rfl) ?_
      refine Wl.q rfl (Qy.move rfl) ?_
      refine Wl.q rfl (Qy.add rfl rfl (by omega)) ?_
      refine Wl.q rfl (Qy.move rfl) ?_
      refine Wl.q rfl (Qy.trunc32 rfl T.u153 rfl) ?_
      refine Wl.q rfl (Qy.indexAddrO (α := U32) T.sl59 rfl rfl (by assumption) (by omega)) ?_
      refine Wl.setO (z := _) 0 T.size153 rfl rfl rfl (by assumption) (by omega) rfl (fun ho1 => ?_)
      refine Wl.done ?_
      refine Ar.next ?_
      refine Wc.region rfl ?_
      refine Wl.q rfl (Qy.move rfl) ?_
      refine Wl.q rfl (Qy.shr32 rfl rfl (by omega)) ?_
      refine Wl.q rfl (Qy.assign rfl) ?_
      refine Wl.done ?_
      refine Ar.outNormal ?_
      refine Ar.next ?_
      refine Wc.region rfl ?_
      refine Wl.q rfl (Qy.add rfl rfl (by omega)) ?_
      refine Wl.q rfl (Qy.move rfl) ?_
      refine Wl.done ?_
      rw [ekk] at ⊢ hsk
      refine Ar.re 5 rfl (show _ = Value.slice (some ⟨b1, 0, none⟩) (s.set (i + j) (⟨(c + ((la[((i : Nat) : Int).toNat]?.getD default).v * (lb[((j : Nat) : Int).toNat]?.getD default).v + (s[i + j]?.getD default).v)) % 4294967296⟩ : U32)).length N by rw [List.length_set]) ?_
      refine Ar.again ((j + 1, (c + ((la[((i : Nat) : Int).toNat]?.getD default).v * (lb[((j : Nat) : Int).toNat]?.getD default).v + (s[i + j]?.getD default).v)) / 4294967296, s.set (i + j) (⟨(c + ((la[((i : Nat) : Int).toNat]?.getD default).v * (lb[((j : Nat) : Int).toNat]?.getD default).v + (s[i + j]?.getD default).v)) % 4294967296⟩ : U32))) ?_ ?_ rfl ⟨rfl, rfl, rfl, rfl, rfl, rfl, rfl, rfl, rfl, rfl, rfl, rfl, trivial⟩ ⟨rfl, trivial⟩
      · exact ⟨by omega, by omega, by rw [List.length_set]; exact hsN, lims_set hds _ (mod32 _), bmul_next (by omega) hvs (by simp only [lg, Int.toNat_natCast]), by omega, fun k hk => by rw [lg_set_ne (by omega)]; exact hzs k hk⟩
      · show lb.length - (j + 1) < lb.length - j
        omega
    · have hjj : j = lb.length := by omega
      subst hjj
      refine Wc.seq ?_
      refine Wc.region rfl ?_
      refine Wl.q rfl (Qy.lss rfl rfl) ?_
      refine Wl.done ?_
      refine Ar.next ?_
      refine Wc.seq ?_
      refine Wc.condN rfl (by first | assumption | omega) ?_
      refine Wc.exit ?_
      refine Ar.passExit ?_
      refine Ar.passExit ?_
      refine Ar.here ?_
      refine Ar.next ?_
      refine Wc.region rfl ?_
      refine Wl.q rfl (Qy.move rfl) ?_
      refine Wl.q rfl (Qy.move rfl) ?_
      refine Wl.q rfl (Qy.move rfl) ?_
      refine Wl.q rfl (Qy.len T.sl59 rfl) ?_
      refine Wl.q rfl (Qy.add rfl rfl (by omega)) ?_
      refine Wl.q rfl (Qy.move rfl) ?_
      refine Wl.q rfl (Qy.conv32 rfl T.u153 rfl (by omega)) ?_
      refine Wl.q rfl (Qy.indexAddrO (α := U32) T.sl59 rfl rfl (by assumption) (by omega)) ?_
      refine Wl.setO (z := _) 0 T.size153 rfl rfl rfl (by assumption) (by omega) rfl (fun ho1 => ?_)
      refine Wl.done ?_
      refine Ar.outNormal ?_
      refine Ar.next ?_
      refine Wc.region rfl ?_
      refine Wl.q rfl (Qy.add rfl rfl (by omega)) ?_
      refine Wl.q rfl (Qy.move rfl) ?_
      refine Wl.done ?_
      rw [ekk]
      refine Ar.re 5 rfl (show _ = Value.slice (some ⟨b1, 0, none⟩) (s.set (i + lb.length) (⟨c⟩ : U32)).length N by rw [List.length_set]) ?_
      refine Ar.again ((i + 1, s.set (i + lb.length) (⟨c⟩ : U32))) ?_ ?_ rfl ⟨rfl, rfl, rfl, rfl, rfl, rfl, trivial⟩ ⟨rfl, trivial⟩
      · exact ⟨by omega, by rw [List.length_set]; exact hsN, lims_set hds _ (by omega), bmul_end (by omega) (hzs _ (Nat.le_refl _)) hvs, fun k hk => by rw [lg_set_ne (by omega)]; exact hzs k (by omega)⟩
      · show la.length - (i + 1) < la.length - i
        omega
  · have hor := hown r hrN
    rw [take_all hia] at hv
    refine Wc.seq ?_
    refine Wc.region rfl ?_
    refine Wl.q rfl (Qy.lss rfl rfl) ?_
    refine Wl.done ?_
    refine Ar.next ?_
    refine Wc.seq ?_
    refine Wc.condN rfl (by first | assumption | omega) ?_
    refine Wc.exit ?_
    refine Ar.passExit ?_
    refine Ar.passExit ?_
    refine Ar.here ?_
    refine Ar.next ?_
    refine Wc.seq ?_
    refine Wc.region rfl ?_
    refine Wl.q rfl (Qy.move rfl) ?_
    refine Wl.freezeRow 0 rfl hor (fun G9 hle9 hA => ?_)
    refine Wl.call 1 rfl T.fn142 rfl (c142 _ _ _ _ (by assumption) (by omega) (by first | assumption | omega)) (tags_of trivial) (fun v1 G1 Ho1 hle1 hp => ?_)
    obtain ⟨ta1, tm1, rfl, hta1, hte1, htr1, htl1, rfl, rfl⟩ := hp
    refine Wl.q rfl (Qy.assign rfl) ?_
    refine Wl.done ?_
    refine Ar.next ?_
    refine Wc.ret ?_
    refine Ar.out1 (.inr rfl) (Ho := Hp.only _ []) rfl (.tmp rfl) (Hp.sub_only _ _) ?_
    exact ⟨Nat32.of hta1 hte1 htr1 hdr hv (by omega), rfl⟩
theorem c169 (G : Imm) (a : Option Addr) (ca : Nat) (la : List U32) (B : Int) (ha : Arr G a la) (da : Lims la) (h1 : la.length ≤ 1073741824) (hB : 0 < B) (hB2 : B < 4294967296) :
    Does Try.prog 169 [.slice a la.length ca, .int .u32 B] G [] (fun v G' Ho => ∃ r q m, v = .tuple #[r, .int .u32 m, .int .i64 0] ∧ Nat32 G' r q la.length ∧ valB la = q * B + m ∧ 0 ≤ m ∧ m < B ∧ Ho = []) := by
  refine Does.enter Try.func169 rfl Try.ntmps169 rfl (fun w => ?_)
  refine Wc.seq ?_
  refine Wc.region rfl ?_
  refine Wl.q rfl (Qy.assign rfl) ?_
  refine Wl.q rfl (Qy.assign rfl) ?_
  refine Wl.q rfl (Qy.assign rfl) ?_
  refine Wl.done ?_
  refine Ar.next ?_
  refine Wc.seq ?_
  refine Wc.seq ?_
  refine Wc.region rfl ?_
  refine Wl.q rfl (Qy.move rfl) ?_
  refine Wl.q rfl (Qy.eql rfl rfl) ?_
  refine Wl.done ?_
  refine Ar.next ?_
  refine Wc.condN rfl (by first | assumption | omega) ?_
  refine Wc.skip ?_
  refine Ar.next ?_
  refine Wc.seq ?_
  refine Wc.region rfl ?_
  refine Wl.q rfl (Qy.move rfl) ?_
  refine Wl.q rfl (Qy.len T.sl59 rfl) ?_
  refine Wl.make (α := U32) 0 rfl T.sl59 T.el153 rfl rfl (by omega) (by omega) (fun b1 => ?_)
  refine Wl.q rfl (Qy.assign rfl) ?_
  refine Wl.done ?_
  refine Ar.next ?_
  refine Wc.seq ?_
  refine Wc.region rfl ?_
  refine Wl.q rfl (Qy.assign rfl) ?_
  refine Wl.done ?_
  refine Ar.next ?_
  refine Wc.seq ?_
  refine Wc.seq ?_
  refine Wc.region rfl ?_
  refine Wl.q rfl (Qy.move rfl) ?_
  refine Wl.q rfl (Qy.len T.sl59 rfl) ?_
  refine Wl.q rfl (Qy.sub rfl rfl (by omega)) ?_
  refine Wl.q rfl (Qy.assign rfl) ?_
  refine Wl.done ?_
  refine Ar.next ?_
  refine Wc.block ?_
  obtain ⟨N, hN⟩ : ∃ N, N = la.length := ⟨_, rfl⟩
  have hM : (la.length : Int).toNat = N := by omega
  rw [hM]
  have hown : ∀ r : List U32, r.length = N → OwnA (some ⟨b1, 0, none⟩) N r [] := fun r hr => .inr ⟨b1, rfl, by rw [hr]; rfl, by omega, by simp only [maxLen]; omega⟩
  refine Wc.re 7 rfl (show _ = Value.slice (some ⟨b1, 0, none⟩) (List.replicate N (default : U32)).length N by rw [List.length_replicate]) ?_
  refine Wc.loop (ι := Nat × Int × List U32) (fun (k, r, q) => ([(9, .int .i64 ((k : Int) - 1)), (8, .int .u64 r), (7, .slice (some ⟨b1, 0, none⟩) q.length N), (6, Go.Value.int Go.IntKind.i64 0), (5, Go.Value.int Go.IntKind.u32 0), (4, Go.Value.slice Option.none 0 0), (0, Go.Value.slice a (List.length la) ca), (1, Go.Value.int Go.IntKind.u32 B)], [(0, some b1, Row 153 q [])])) (fun (k, r, q) => k ≤ la.length ∧ q.length = N ∧ Lims q ∧ 0 ≤ r ∧ r < B ∧ valB (la.drop k) = valB (q.drop k) * B + r) (fun (k, r, q) => k) ((la.length, 0, List.replicate N (default : U32))) (⟨Nat.le_refl _, List.length_replicate, Lims.zeros N, by decide, hB, by rw [List.drop_eq_nil_of_le (Nat.le_refl _), List.drop_eq_nil_of_le (by rw [List.length_replicate]; omega), valB_nil, Int.zero_mul]; rfl⟩) ⟨rfl, rfl, rfl, rfl, rfl, rfl, rfl, rfl, trivial⟩ ⟨rfl, trivial⟩ (fun ⟨k, r, q⟩ => fun (hk : k ≤ la.length ∧ q.length = N ∧ Lims q ∧ 0 ≤ r ∧ r < B ∧ valB (la.drop k) = valB (q.drop k) * B + r) => ?_)
  obtain ⟨hk1, hqN, hdq, hr0, hr1, hv⟩ := hk
  have hoq := hown q hqN
  rcases Nat.eq_zero_or_pos k with rfl | hpos
  · rw [List.drop_zero, List.drop_zero] at hv
    refine Wc.seq ?_
    refine Wc.seq ?_
    refine Wc.region rfl ?_
    refine Wl.q rfl (Qy.move rfl) ?_
    refine Wl.q rfl (Qy.geq rfl rfl) ?_
    refine Wl.done ?_
    refine Ar.next ?_
    refine Wc.condN rfl (by first | assumption | omega) ?_
    refine Wc.exit ?_
    refine Ar.passExit ?_
    refine Ar.passExit ?_
    refine Ar.here ?_
    refine Ar.next ?_
    refine Wc.seq ?_
    refine Wc.region rfl ?_
    refine Wl.q rfl (Qy.move rfl) ?_
    refine Wl.freezeRow 0 rfl hoq (fun G9 hle9 hA => ?_)
    refine Wl.call 1 rfl T.fn142 rfl (c142 _ _ _ _ (by assumption) (by omega) (by first | assumption | omega)) (tags_of trivial) (fun v1 G1 Ho1 hle1 hp => ?_)
    obtain ⟨ta1, tm1, rfl, hta1, hte1, htr1, htl1, rfl, rfl⟩ := hp
    refine Wl.q rfl (Qy.move rfl) ?_
    refine Wl.q rfl (Qy.conv32 rfl T.u153 rfl (by omega)) ?_
    refine Wl.q rfl (Qy.assign rfl) ?_
    refine Wl.q rfl (Qy.assign rfl) ?_
    refine Wl.q rfl (Qy.assign rfl) ?_
    refine Wl.done ?_
    refine Ar.next ?_
    refine Wc.ret ?_
    refine Ar.out3 (.inr rfl) (Ho := Hp.only _ []) rfl (.tmp rfl) (.tmp rfl) (.tmp rfl) (Hp.sub_only _ _) ?_
    exact ⟨_, _, _, rfl, Nat32.of hta1 hte1 htr1 hdq rfl (by omega), hv, hr0, hr1, rfl⟩
  · obtain ⟨i, rfl⟩ : ∃ i, k = i + 1 := ⟨k - 1, by omega⟩
    have hai := lg_lt da (show i < la.length by omega)
    have ei : (((i + 1 : Nat) : Int) - 1).toNat = i := by omega
    have eA : (la[(((i + 1 : Nat) : Int) - 1).toNat]?.getD default).v = lg la i := by unfold lg; rw [ei, Int.toNat_natCast]
    have hsl := bshort_lt ⟨hr0, hr1⟩ hai
    have hsl' : 0 ≤ (r * 4294967296 + (la[(((i + 1 : Nat) : Int) - 1).toNat]?.getD default).v) / B ∧ (r * 4294967296 + (la[(((i + 1 : Nat) : Int) - 1).toNat]?.getD default).v) / B ≤ 4294967295 := by
      rw [eA]
      exact ⟨hsl.1, by have := hsl.2; omega⟩
    have hrm : 0 ≤ (r * 4294967296 + lg la i) % B ∧ (r * 4294967296 + lg la i) % B < B := ⟨Int.emod_nonneg _ (by omega), Int.emod_lt_of_pos _ hB⟩
    refine Wc.seq ?_
    refine Wc.seq ?_
    refine Wc.region rfl ?_
    refine Wl.q rfl (Qy.move rfl) ?_
    refine Wl.q rfl (Qy.geq rfl rfl) ?_
    refine Wl.done ?_
    refine Ar.next ?_
    refine Wc.condP rfl (by first | assumption | omega) ?_
    refine Wc.skip ?_
    refine Ar.next ?_
    refine Wc.seq ?_
    refine Wc.block ?_
    refine Wc.seq ?_
    refine Wc.region rfl ?_
    refine Wl.q rfl (Qy.move rfl) ?_
    refine Wl.q rfl (Qy.shl32 rfl rfl (by omega)) ?_
    refine Wl.q rfl (Qy.move rfl) ?_
    refine Wl.q rfl (Qy.move rfl) ?_
    refine Wl.q rfl (Qy.at (α := U32) T.sl59 rfl rfl (by assumption) (by omega)) ?_
    refine Wl.q rfl (Qy.loadG T.one153 rfl (Arr.cell (by assumption) (by omega) 0 rfl rfl)) ?_
    refine Wl.q rfl (Qy.conv64 rfl T.u151 rfl (by omega)) ?_
    refine Wl.q rfl (Qy.orLow rfl rfl (by omega) (by omega)) ?_
    refine Wl.q rfl (Qy.assign rfl) ?_
    refine Wl.done ?_
    refine Ar.next ?_
    refine Wc.seq ?_
    refine Wc.region rfl ?_
    refine Wl.q rfl (Qy.move rfl) ?_
    refine Wl.q rfl (Qy.move rfl) ?_
    refine Wl.q rfl (Qy.move rfl) ?_
    refine Wl.q rfl (Qy.move rfl) ?_
    refine Wl.q rfl (Qy.conv64 rfl T.u151 rfl (by omega)) ?_
    refine Wl.q rfl (Qy.uquo64 rfl rfl (by omega)) ?_
    refine Wl.q rfl (Qy.conv32 rfl T.u153 rfl (by omega)) ?_
    refine Wl.q rfl (Qy.indexAddrO (α := U32) T.sl59 rfl rfl (by assumption) (by omega)) ?_
    refine Wl.setO (z := _) 0 T.size153 rfl rfl rfl (by assumption) (by omega) rfl (fun ho1 => ?_)
    refine Wl.done ?_
    refine Ar.next ?_
    refine Wc.region rfl ?_
    refine Wl.q rfl (Qy.move rfl) ?_
    refine Wl.q rfl (Qy.move rfl) ?_
    refine Wl.q rfl (Qy.conv64 rfl T.u151 rfl (by omega)) ?_
    refine Wl.q rfl (Qy.urem rfl rfl (by omega)) ?_
    refine Wl.q rfl (Qy.assign rfl) ?_
    refine Wl.done ?_
    refine Ar.outNormal ?_
    refine Ar.next ?_
    refine Wc.region rfl ?_
    refine Wl.q rfl (Qy.move rfl) ?_
    refine Wl.q rfl (Qy.sub rfl rfl (by omega)) ?_
    refine Wl.q rfl (Qy.assign rfl) ?_
    refine Wl.done ?_
    rw [eA]
    refine Ar.re 9 rfl (show _ = Value.int .i64 ((i : Int) - 1) by congr 1; omega) ?_
    refine Ar.reH 0 (Row 153 (q.set i ⟨(r * 4294967296 + lg la i) / B⟩) []) rfl (by rw [ei]) ?_
    refine Ar.re 7 rfl (show _ = Value.slice (some ⟨b1, 0, none⟩) (q.set i ⟨(r * 4294967296 + lg la i) / B⟩).length N by rw [List.length_set]) ?_
    refine Ar.again ((i, (r * 4294967296 + lg la i) % B, q.set i ⟨(r * 4294967296 + lg la i) / B⟩)) ?_ ?_ rfl ⟨rfl, rfl, rfl, rfl, rfl, rfl, rfl, rfl, trivial⟩ ⟨rfl, trivial⟩
    · exact ⟨by omega, by rw [List.length_set]; exact hqN, lims_set hdq _ hsl, hrm.1, hrm.2, bshort_next (by omega) (by omega) hv⟩
    · show i < i + 1
      omega
end Go.Proofs.Ytbppmiimeccclaa
set_option maxRecDepth 100000
set_option linter.unusedVariables false
namespace Go.Proofs.Ytbppmiimeccclaa
open Go Go.Sl
set_option maxHeartbeats 4000000
theorem lg_drop {r s : List U32} {i : Nat} (h : s.drop i = r.drop i) : lg s i = lg r i := by
  have e : s[i]? = r[i]? := by
    have := congrArg (·[0]?) h
    simpa [List.getElem?_drop] using this
  unfold lg; rw [Int.toNat_natCast, e]
theorem bdrop_next {r s : List U32} {i : Nat} (h : s.drop i = r.drop i) (d : U32) : (s.set i d).drop (i + 1) = r.drop (i + 1) := by
  rw [List.drop_set_of_lt (by omega), ← List.drop_drop, ← List.drop_drop, h]
attribute [local irreducible] valB pb cmpZ
theorem c184 (G : Imm) (b : Nat) (p u q : List U32) (junk : List Value) (cw : Nat) (v : Option Addr) (cv : Nat) (lv : List U32) (t : Int) (hv : Arr G v lv) (du : Lims u) (dv : Lims lv) (h1 : u.length ≤ 1073741824) (h2 : lv.length < u.length) (ht : 0 ≤ t ∧ t < 4294967296) :
    Does Try.prog 184 [.slice (some ⟨b, p.length, none⟩) u.length cw, .slice v lv.length cv, .int .u64 t] G [(0, some b, Row 153 (p ++ (u ++ q)) junk)] (fun r G' Ho => ∃ (w : List U32) (o : Int), r = .bool (decide (0 < o)) ∧ Ho = [(0, some b, Row 153 (p ++ (w ++ q)) junk)] ∧ G' = G ∧ (o = 0 ∨ o = 1) ∧ w.length = u.length ∧ Lims w ∧ valB u - t * valB lv = valB w - pb u.length * o) := by
  refine Does.enter Try.func184 rfl Try.ntmps184 rfl (fun w => ?_)
  refine Wc.seq ?_
  refine Wc.region rfl ?_
  refine Wl.q rfl (Qy.assign rfl) ?_
  refine Wl.done ?_
  refine Ar.next ?_
  refine Wc.seq ?_
  refine Wc.region rfl ?_
  refine Wl.q rfl (Qy.assign rfl) ?_
  refine Wl.q rfl (Qy.assign rfl) ?_
  refine Wl.done ?_
  refine Ar.next ?_
  refine Wc.seq ?_
  refine Wc.seq ?_
  refine Wc.region rfl ?_
  refine Wl.q rfl (Qy.move rfl) ?_
  refine Wl.q rfl (Qy.len T.sl59 rfl) ?_
  refine Wl.q rfl (Qy.move rfl) ?_
  refine Wl.done ?_
  refine Ar.next ?_
  refine Wc.block ?_
  refine Wc.loop (ι := Nat × Int × Int × List U32) (fun (i, c, o, w) => ([(13, .int .i64 (i : Int)), (7, .int .u64 c), (8, .int .u64 o), (12, Go.Value.int Go.IntKind.i64 (↑(List.length u) : Int)), (6, Go.Value.bool Bool.false), (0, Go.Value.slice (Option.some (Go.Addr.mk b (List.length p) Option.none)) (List.length u) cw), (1, Go.Value.slice v (List.length lv) cv), (2, Go.Value.int Go.IntKind.u64 t)], [(0, some b, Row 153 (p ++ (w ++ q)) junk)])) (fun (i, c, o, w) => i ≤ u.length ∧ w.length = u.length ∧ Lims w ∧ 0 ≤ c ∧ c < 4294967296 ∧ 0 ≤ o ∧ o ≤ 1 ∧ (lv.length < i → c = 0) ∧ w.drop i = u.drop i ∧ valB (u.take i) - t * valB (lv.take i) = valB (w.take i) - pb i * (o + c)) (fun (i, c, o, w) => u.length - i) ((0, 0, 0, u)) (⟨Nat.zero_le _, rfl, du, by decide, by decide, by decide, by decide, fun _ => rfl, rfl, by rw [List.take_zero, List.take_zero, valB_nil, Int.mul_zero, Int.add_zero, Int.mul_zero]⟩) ⟨rfl, rfl, rfl, rfl, rfl, rfl, rfl, rfl, trivial⟩ ⟨rfl, trivial⟩ (fun ⟨i, c, o, w⟩ => fun (hk : i ≤ u.length ∧ w.length = u.length ∧ Lims w ∧ 0 ≤ c ∧ c < 4294967296 ∧ 0 ≤ o ∧ o ≤ 1 ∧ (lv.length < i → c = 0) ∧ w.drop i = u.drop i ∧ valB (u.take i) - t * valB (lv.take i) = valB (w.take i) - pb i * (o + c)) => ?_)
  obtain ⟨hi, hwn, hdw, hc0, hc1, ho0, ho1, hcz, hdrop, hval⟩ := hk
  rcases Nat.lt_or_ge i u.length with hia | hia
  · have hx : 0 ≤ (w[((i : Nat) : Int).toNat]?.getD default).v ∧ (w[((i : Nat) : Int).toNat]?.getD default).v < 4294967296 := lg_lt hdw (by omega)
    have ex : (w[((i : Nat) : Int).toNat]?.getD default).v = lg u i := lg_drop hdrop
    rcases Nat.lt_or_ge i lv.length with hib | hib
    · have hy : 0 ≤ (lv[((i : Nat) : Int).toNat]?.getD default).v ∧ (lv[((i : Nat) : Int).toNat]?.getD default).v < 4294967296 := lg_lt dv hib
      have hca := less_carry ⟨hc0, hc1⟩ hy ht
      have hm : 0 ≤ (lv[((i : Nat) : Int).toNat]?.getD default).v * t ∧ (lv[((i : Nat) : Int).toNat]?.getD default).v * t ≤ 18446744073709551615 := by omega
      by_cases hlt : (w[((i : Nat) : Int).toNat]?.getD default).v < (c + (lv[((i : Nat) : Int).toNat]?.getD default).v * t) % 4294967296
      · refine Wc.seq ?_
        refine Wc.region rfl ?_
        refine Wl.q rfl (Qy.lss rfl rfl) ?_
        refine Wl.done ?_
        refine Ar.next ?_
        refine Wc.seq ?_
        refine Wc.condP rfl (by first | assumption | omega) ?_
        refine Wc.skip ?_
        refine Ar.next ?_
        refine Wc.seq ?_
        refine Wc.block ?_
        refine Wc.seq ?_
        refine Wc.region rfl ?_
        refine Wl.q rfl (Qy.move rfl) ?_
        refine Wl.q rfl (Qy.assign rfl) ?_
        refine Wl.done ?_
        refine Ar.next ?_
        refine Wc.seq ?_
        refine Wc.seq ?_
        refine Wc.region rfl ?_
        refine Wl.q rfl (Qy.move rfl) ?_
        refine Wl.q rfl (Qy.move rfl) ?_
        refine Wl.q rfl (Qy.len T.sl59 rfl) ?_
        refine Wl.q rfl (Qy.lss rfl rfl) ?_
        refine Wl.done ?_
        refine Ar.next ?_
        refine Wc.condP rfl (by first | assumption | omega) ?_
        refine Wc.region rfl ?_
        refine Wl.q rfl (Qy.move rfl) ?_
        refine Wl.q rfl (Qy.move rfl) ?_
        refine Wl.q rfl (Qy.move rfl) ?_
        refine Wl.q rfl (Qy.at (α := U32) T.sl59 rfl rfl (by assumption) (by omega)) ?_
        refine Wl.q rfl (Qy.loadG T.one153 rfl (Arr.cell (by assumption) (by omega) 0 rfl rfl)) ?_
        refine Wl.q rfl (Qy.conv64 rfl T.u151 rfl (by omega)) ?_
        refine Wl.q rfl (Qy.move rfl) ?_
        refine Wl.q rfl (Qy.umul64 rfl rfl (by first | assumption | omega)) ?_
        refine Wl.q rfl (Qy.uadd64 rfl rfl (by omega)) ?_
        refine Wl.q rfl (Qy.assign rfl) ?_
        refine Wl.done ?_
        refine Ar.next ?_
        refine Wc.seq ?_
        refine Wc.region rfl ?_
        refine Wl.q rfl (Qy.move rfl) ?_
        refine Wl.q rfl (Qy.move rfl) ?_
        refine Wl.q rfl (Qy.indexAddr T.sl59 rfl rfl (by omega)) ?_
        refine Wl.q rfl (Qy.loadW 0 T.one153 rfl rfl (by omega)) ?_
        refine Wl.q rfl (Qy.conv64 rfl T.u151 rfl (by omega)) ?_
        refine Wl.q rfl (Qy.move rfl) ?_
        refine Wl.q rfl (Qy.andLow rfl rfl (by omega)) ?_
        refine Wl.q rfl (Qy.usubN rfl rfl (by omega)) ?_
        refine Wl.q rfl (Qy.move rfl) ?_
        refine Wl.q rfl (Qy.usub64 rfl rfl (by omega)) ?_
        refine Wl.q rfl (Qy.assign rfl) ?_
        refine Wl.done ?_
        refine Ar.next ?_
        refine Wc.seq ?_
        refine Wc.region rfl ?_
        refine Wl.q rfl (Qy.move rfl) ?_
        refine Wl.q rfl (Qy.shr32 rfl rfl (by omega)) ?_
        refine Wl.q rfl (Qy.assign rfl) ?_
        refine Wl.done ?_
        refine Ar.next ?_
        refine Wc.seq ?_
        refine Wc.region rfl ?_
        refine Wl.q rfl (Qy.move rfl) ?_
        refine Wl.q rfl (Qy.move rfl) ?_
        refine Wl.q rfl (Qy.move rfl) ?_
        refine Wl.q rfl (Qy.trunc32 rfl T.u153 rfl) ?_
        refine Wl.q rfl (Qy.indexAddr T.sl59 rfl rfl (by omega)) ?_
        refine Wl.setW 0 T.size153 rfl rfl rfl (by omega) ?_
        refine Wl.done ?_
        refine Ar.next ?_
        refine Wc.region rfl ?_
        refine Wl.q rfl (Qy.move rfl) ?_
        refine Wl.q rfl (Qy.shr32 rfl rfl (by omega)) ?_
        refine Wl.q rfl (Qy.and1 rfl rfl (by omega)) ?_
        refine Wl.q rfl (Qy.assign rfl) ?_
        refine Wl.done ?_
        refine Ar.outNormal ?_
        refine Ar.next ?_
        refine Wc.region rfl ?_
        refine Wl.q rfl (Qy.add rfl rfl (by omega)) ?_
        refine Wl.q rfl (Qy.move rfl) ?_
        refine Wl.done ?_
        have es : ((w[((i : Nat) : Int).toNat]?.getD default).v - (c + (lv[((i : Nat) : Int).toNat]?.getD default).v * t) % 4294967296 + 18446744073709551616 - o) % 4294967296 = ((w[((i : Nat) : Int).toNat]?.getD default).v - (c + (lv[((i : Nat) : Int).toNat]?.getD default).v * t) % 4294967296 - o + 4294967296 * 1) := by omega
        have ec : ((w[((i : Nat) : Int).toNat]?.getD default).v - (c + (lv[((i : Nat) : Int).toNat]?.getD default).v * t) % 4294967296 + 18446744073709551616 - o) / 4294967296 % 2 = 1 := by omega
        refine Ar.re 8 rfl (show _ = Value.int .u64 1 by rw [ec]) ?_
        refine Ar.reH 0 (Row 153 (p ++ (w.set i (⟨((w[((i : Nat) : Int).toNat]?.getD default).v - (c + (lv[((i : Nat) : Int).toNat]?.getD default).v * t) % 4294967296 - o + 4294967296 * 1)⟩ : U32) ++ q)) junk) rfl (by rw [← es, Int.toNat_natCast]) ?_
        refine Ar.again ((i + 1, (c + (lv[((i : Nat) : Int).toNat]?.getD default).v * t) / 4294967296, 1, w.set i (⟨((w[((i : Nat) : Int).toNat]?.getD default).v - (c + (lv[((i : Nat) : Int).toNat]?.getD default).v * t) % 4294967296 - o + 4294967296 * 1)⟩ : U32))) ?_ ?_ rfl ⟨rfl, rfl, rfl, rfl, rfl, rfl, rfl, rfl, trivial⟩ ⟨rfl, trivial⟩
        · exact ⟨by omega, by rw [List.length_set]; exact hwn, lims_set hdw _ (by omega), by omega, by omega, by decide, by decide, by omega, bdrop_next hdrop _, less_next (c' := (c + (lv[((i : Nat) : Int).toNat]?.getD default).v * t)) (b := o) (b' := 1) (by omega) hval (by rfl) (by rw [← ex])⟩
        · show u.length - (i + 1) < u.length - i
          omega
      · by_cases hlt2 : (w[((i : Nat) : Int).toNat]?.getD default).v - (c + (lv[((i : Nat) : Int).toNat]?.getD default).v * t) % 4294967296 < o
        · refine Wc.seq ?_
          refine Wc.region rfl ?_
          refine Wl.q rfl (Qy.lss rfl rfl) ?_
          refine Wl.done ?_
          refine Ar.next ?_
          refine Wc.seq ?_
          refine Wc.condP rfl (by first | assumption | omega) ?_
          refine Wc.skip ?_
          refine Ar.next ?_
          refine Wc.seq ?_
          refine Wc.block ?_
          refine Wc.seq ?_
          refine Wc.region rfl ?_
          refine Wl.q rfl (Qy.move rfl) ?_
          refine Wl.q rfl (Qy.assign rfl) ?_
          refine Wl.done ?_
          refine Ar.next ?_
          refine Wc.seq ?_
          refine Wc.seq ?_
          refine Wc.region rfl ?_
          refine Wl.q rfl (Qy.move rfl) ?_
          refine Wl.q rfl (Qy.move rfl) ?_
          refine Wl.q rfl (Qy.len T.sl59 rfl) ?_
          refine Wl.q rfl (Qy.lss rfl rfl) ?_
          refine Wl.done ?_
          refine Ar.next ?_
          refine Wc.condP rfl (by first | assumption | omega) ?_
          refine Wc.region rfl ?_
          refine Wl.q rfl (Qy.move rfl) ?_
          refine Wl.q rfl (Qy.move rfl) ?_
          refine Wl.q rfl (Qy.move rfl) ?_
          refine Wl.q rfl (Qy.at (α := U32) T.sl59 rfl rfl (by assumption) (by omega)) ?_
          refine Wl.q rfl (Qy.loadG T.one153 rfl (Arr.cell (by assumption) (by omega) 0 rfl rfl)) ?_
          refine Wl.q rfl (Qy.conv64 rfl T.u151 rfl (by omega)) ?_
          refine Wl.q rfl (Qy.move rfl) ?_
          refine Wl.q rfl (Qy.umul64 rfl rfl (by first | assumption | omega)) ?_
          refine Wl.q rfl (Qy.uadd64 rfl rfl (by omega)) ?_
          refine Wl.q rfl (Qy.assign rfl) ?_
          refine Wl.done ?_
          refine Ar.next ?_
          refine Wc.seq ?_
          refine Wc.region rfl ?_
          refine Wl.q rfl (Qy.move rfl) ?_
          refine Wl.q rfl (Qy.move rfl) ?_
          refine Wl.q rfl (Qy.indexAddr T.sl59 rfl rfl (by omega)) ?_
          refine Wl.q rfl (Qy.loadW 0 T.one153 rfl rfl (by omega)) ?_
          refine Wl.q rfl (Qy.conv64 rfl T.u151 rfl (by omega)) ?_
          refine Wl.q rfl (Qy.move rfl) ?_
          refine Wl.q rfl (Qy.andLow rfl rfl (by omega)) ?_
          refine Wl.q rfl (Qy.usub64 rfl rfl (by omega)) ?_
          refine Wl.q rfl (Qy.move rfl) ?_
          refine Wl.q rfl (Qy.usubN rfl rfl (by omega)) ?_
          refine Wl.q rfl (Qy.assign rfl) ?_
          refine Wl.done ?_
          refine Ar.next ?_
          refine Wc.seq ?_
          refine Wc.region rfl ?_
          refine Wl.q rfl (Qy.move rfl) ?_
          refine Wl.q rfl (Qy.shr32 rfl rfl (by omega)) ?_
          refine Wl.q rfl (Qy.assign rfl) ?_
          refine Wl.done ?_
          refine Ar.next ?_
          refine Wc.seq ?_
          refine Wc.region rfl ?_
          refine Wl.q rfl (Qy.move rfl) ?_
          refine Wl.q rfl (Qy.move rfl) ?_
          refine Wl.q rfl (Qy.move rfl) ?_
          refine Wl.q rfl (Qy.trunc32 rfl T.u153 rfl) ?_
          refine Wl.q rfl (Qy.indexAddr T.sl59 rfl rfl (by omega)) ?_
          refine Wl.setW 0 T.size153 rfl rfl rfl (by omega) ?_
          refine Wl.done ?_
          refine Ar.next ?_
          refine Wc.region rfl ?_
          refine Wl.q rfl (Qy.move rfl) ?_
          refine Wl.q rfl (Qy.shr32 rfl rfl (by omega)) ?_
          refine Wl.q rfl (Qy.and1 rfl rfl (by omega)) ?_
          refine Wl.q rfl (Qy.assign rfl) ?_
          refine Wl.done ?_
          refine Ar.outNormal ?_
          refine Ar.next ?_
          refine Wc.region rfl ?_
          refine Wl.q rfl (Qy.add rfl rfl (by omega)) ?_
          refine Wl.q rfl (Qy.move rfl) ?_
          refine Wl.done ?_
          have es : ((w[((i : Nat) : Int).toNat]?.getD default).v - (c + (lv[((i : Nat) : Int).toNat]?.getD default).v * t) % 4294967296 - o + 18446744073709551616) % 4294967296 = ((w[((i : Nat) : Int).toNat]?.getD default).v - (c + (lv[((i : Nat) : Int).toNat]?.getD default).v * t) % 4294967296 - o + 4294967296 * 1) := by omega
          have ec : ((w[((i : Nat) : Int).toNat]?.getD default).v - (c + (lv[((i : Nat) : Int).toNat]?.getD default).v * t) % 4294967296 - o + 18446744073709551616) / 4294967296 % 2 = 1 := by omega
          refine Ar.re 8 rfl (show _ = Value.int .u64 1 by rw [ec]) ?_
          refine Ar.reH 0 (Row 153 (p ++ (w.set i (⟨((w[((i : Nat) : Int).toNat]?.getD default).v - (c + (lv[((i : Nat) : Int).toNat]?.getD default).v * t) % 4294967296 - o + 4294967296 * 1)⟩ : U32) ++ q)) junk) rfl (by rw [← es, Int.toNat_natCast]) ?_
          refine Ar.again ((i + 1, (c + (lv[((i : Nat) : Int).toNat]?.getD default).v * t) / 4294967296, 1, w.set i (⟨((w[((i : Nat) : Int).toNat]?.getD default).v - (c + (lv[((i : Nat) : Int).toNat]?.getD default).v * t) % 4294967296 - o + 4294967296 * 1)⟩ : U32))) ?_ ?_ rfl ⟨rfl, rfl, rfl, rfl, rfl, rfl, rfl, rfl, trivial⟩ ⟨rfl, trivial⟩
          · exact ⟨by omega, by rw [List.length_set]; exact hwn, lims_set hdw _ (by omega), by omega, by omega, by decide, by decide, by omega, bdrop_next hdrop _, less_next (c' := (c + (lv[((i : Nat) : Int).toNat]?.getD default).v * t)) (b := o) (b' := 1) (by omega) hval (by rfl) (by rw [← ex])⟩
          · show u.length - (i + 1) < u.length - i
            omega
        · refine Wc.seq ?_
          refine Wc.region rfl ?_
          refine Wl.q rfl (Qy.lss rfl rfl) ?_
          refine Wl.done ?_
          refine Ar.next ?_
          refine Wc.seq ?_
          refine Wc.condP rfl (by first | assumption | omega) ?_
          refine Wc.skip ?_
          refine Ar.next ?_
          refine Wc.seq ?_
          refine Wc.block ?_
          refine Wc.seq ?_
          refine Wc.region rfl ?_
          refine Wl.q rfl (Qy.move rfl) ?_
          refine Wl.q rfl (Qy.assign rfl) ?_
          refine Wl.done ?_
          refine Ar.next ?_
          refine Wc.seq ?_
          refine Wc.seq ?_
          refine Wc.region rfl ?_
          refine Wl.q rfl (Qy.move rfl) ?_
          refine Wl.q rfl (Qy.move rfl) ?_
          refine Wl.q rfl (Qy.len T.sl59 rfl) ?_
          refine Wl.q rfl (Qy.lss rfl rfl) ?_
          refine Wl.done ?_
          refine Ar.next ?_
          refine Wc.condP rfl (by first | assumption | omega) ?_
          refine Wc.region rfl ?_
          refine Wl.q rfl (Qy.move rfl) ?_
          refine Wl.q rfl (Qy.move rfl) ?_
          refine Wl.q rfl (Qy.move rfl) ?_
          refine Wl.q rfl (Qy.at (α := U32) T.sl59 rfl rfl (by assumption) (by omega)) ?_
          refine Wl.q rfl (Qy.loadG T.one153 rfl (Arr.cell (by assumption) (by omega) 0 rfl rfl)) ?_
          refine Wl.q rfl (Qy.conv64 rfl T.u151 rfl (by omega)) ?_
          refine Wl.q rfl (Qy.move rfl) ?_
          refine Wl.q rfl (Qy.umul64 rfl rfl (by first | assumption | omega)) ?_
          refine Wl.q rfl (Qy.uadd64 rfl rfl (by omega)) ?_
          refine Wl.q rfl (Qy.assign rfl) ?_
          refine Wl.done ?_
          refine Ar.next ?_
          refine Wc.seq ?_
          refine Wc.region rfl ?_
          refine Wl.q rfl (Qy.move rfl) ?_
          refine Wl.q rfl (Qy.move rfl) ?_
          refine Wl.q rfl (Qy.indexAddr T.sl59 rfl rfl (by omega)) ?_
          refine Wl.q rfl (Qy.loadW 0 T.one153 rfl rfl (by omega)) ?_
          refine Wl.q rfl (Qy.conv64 rfl T.u151 rfl (by omega)) ?_
          refine Wl.q rfl (Qy.move rfl) ?_
          refine Wl.q rfl (Qy.andLow rfl rfl (by omega)) ?_
          refine Wl.q rfl (Qy.usub64 rfl rfl (by omega)) ?_
          refine Wl.q rfl (Qy.move rfl) ?_
          refine Wl.q rfl (Qy.usub64 rfl rfl (by omega)) ?_
          refine Wl.q rfl (Qy.assign rfl) ?_
          refine Wl.done ?_
          refine Ar.next ?_
          refine Wc.seq ?_
          refine Wc.region rfl ?_
          refine Wl.q rfl (Qy.move rfl) ?_
          refine Wl.q rfl (Qy.shr32 rfl rfl (by omega)) ?_
          refine Wl.q rfl (Qy.assign rfl) ?_
          refine Wl.done ?_
          refine Ar.next ?_
          refine Wc.seq ?_
          refine Wc.region rfl ?_
          refine Wl.q rfl (Qy.move rfl) ?_
          refine Wl.q rfl (Qy.move rfl) ?_
          refine Wl.q rfl (Qy.move rfl) ?_
          refine Wl.q rfl (Qy.conv32 rfl T.u153 rfl (by omega)) ?_
          refine Wl.q rfl (Qy.indexAddr T.sl59 rfl rfl (by omega)) ?_
          refine Wl.setW 0 T.size153 rfl rfl rfl (by omega) ?_
          refine Wl.done ?_
          refine Ar.next ?_
          refine Wc.region rfl ?_
          refine Wl.q rfl (Qy.move rfl) ?_
          refine Wl.q rfl (Qy.shr32 rfl rfl (by omega)) ?_
          refine Wl.q rfl (Qy.and1 rfl rfl (by omega)) ?_
          refine Wl.q rfl (Qy.assign rfl) ?_
          refine Wl.done ?_
          refine Ar.outNormal ?_
          refine Ar.next ?_
          refine Wc.region rfl ?_
          refine Wl.q rfl (Qy.add rfl rfl (by omega)) ?_
          refine Wl.q rfl (Qy.move rfl) ?_
          refine Wl.done ?_
          have es : ((w[((i : Nat) : Int).toNat]?.getD default).v - (c + (lv[((i : Nat) : Int).toNat]?.getD default).v * t) % 4294967296 - o) = ((w[((i : Nat) : Int).toNat]?.getD default).v - (c + (lv[((i : Nat) : Int).toNat]?.getD default).v * t) % 4294967296 - o + 4294967296 * 0) := by omega
          have ec : ((w[((i : Nat) : Int).toNat]?.getD default).v - (c + (lv[((i : Nat) : Int).toNat]?.getD default).v * t) % 4294967296 - o) / 4294967296 % 2 = 0 := by omega
          refine Ar.re 8 rfl (show _ = Value.int .u64 0 by rw [ec]) ?_
          refine Ar.reH 0 (Row 153 (p ++ (w.set i (⟨((w[((i : Nat) : Int).toNat]?.getD default).v - (c + (lv[((i : Nat) : Int).toNat]?.getD default).v * t) % 4294967296 - o + 4294967296 * 0)⟩ : U32) ++ q)) junk) rfl (by rw [← es, Int.toNat_natCast]) ?_
          refine Ar.again ((i + 1, (c + (lv[((i : Nat) : Int).toNat]?.getD default).v * t) / 4294967296, 0, w.set i (⟨((w[((i : Nat) : Int).toNat]?.getD default).v - (c + (lv[((i : Nat) : Int).toNat]?.getD default).v * t) % 4294967296 - o + 4294967296 * 0)⟩ : U32))) ?_ ?_ rfl ⟨rfl, rfl, rfl, rfl, rfl, rfl, rfl, rfl, trivial⟩ ⟨rfl, trivial⟩
          · exact ⟨by omega, by rw [List.length_set]; exact hwn, lims_set hdw _ (by omega), by omega, by omega, by decide, by decide, by omega, bdrop_next hdrop _, less_next (c' := (c + (lv[((i : Nat) : Int).toNat]?.getD default).v * t)) (b := o) (b' := 0) (by omega) hval (by rfl) (by rw [← ex])⟩
          · show u.length - (i + 1) < u.length - i
            omega
    · have z := lg_end hib
      by_cases hlt : (w[((i : Nat) : Int).toNat]?.getD default).v < (c) % 4294967296
      · refine Wc.seq ?_
        refine Wc.region rfl ?_
        refine Wl.q rfl (Qy.lss rfl rfl) ?_
        refine Wl.done ?_
        refine Ar.next ?_
        refine Wc.seq ?_
        refine Wc.condP rfl (by first | assumption | omega) ?_
        refine Wc.skip ?_
        refine Ar.next ?_
        refine Wc.seq ?_
        refine Wc.block ?_
        refine Wc.seq ?_
        refine Wc.region rfl ?_
        refine Wl.q rfl (Qy.move rfl) ?_
        refine Wl.q rfl (Qy.assign rfl) ?_
        refine Wl.done ?_
        refine Ar.next ?_
        refine Wc.seq ?_
        refine Wc.seq ?_
        refine Wc.region rfl ?_
        refine Wl.q rfl (Qy.move rfl) ?_
        refine Wl.q rfl (Qy.move rfl) ?_
        refine Wl.q rfl (Qy.len T.sl59 rfl) ?_
        refine Wl.q rfl (Qy.lss rfl rfl) ?_
        refine Wl.done ?_
        refine Ar.next ?_
        refine Wc.condN rfl (by first | assumption | omega) ?_
        refine Wc.skip ?_
        refine Ar.next ?_
        refine Wc.seq ?_
        refine Wc.region rfl ?_
        refine Wl.q rfl (Qy.move rfl) ?_
        refine Wl.q rfl (Qy.move rfl) ?_
        refine Wl.q rfl (Qy.indexAddr T.sl59 rfl rfl (by omega)) ?_
        refine Wl.q rfl (Qy.loadW 0 T.one153 rfl rfl (by omega)) ?_
        refine Wl.q rfl (Qy.conv64 rfl T.u151 rfl (by omega)) ?_
        refine Wl.q rfl (Qy.move rfl) ?_
        refine Wl.q rfl (Qy.andLow rfl rfl (by omega)) ?_
        refine Wl.q rfl (Qy.usubN rfl rfl (by omega)) ?_
        refine Wl.q rfl (Qy.move rfl) ?_
        refine Wl.q rfl (Qy.usub64 rfl rfl (by omega)) ?_
        refine Wl.q rfl (Qy.assign rfl) ?_
        refine Wl.done ?_
        refine Ar.next ?_
        refine Wc.seq ?_
        refine Wc.region rfl ?_
        refine Wl.q rfl (Qy.move rfl) ?_
        refine Wl.q rfl (Qy.shr32 rfl rfl (by omega)) ?_
        refine Wl.q rfl (Qy.assign rfl) ?_
        refine Wl.done ?_
        refine Ar.next ?_
        refine Wc.seq ?_
        refine Wc.region rfl ?_
        refine Wl.q rfl (Qy.move rfl) ?_
        refine Wl.q rfl (Qy.move rfl) ?_
        refine Wl.q rfl (Qy.move rfl) ?_
        refine Wl.q rfl (Qy.trunc32 rfl T.u153 rfl) ?_
        refine Wl.q rfl (Qy.indexAddr T.sl59 rfl rfl (by omega)) ?_
        refine Wl.setW 0 T.size153 rfl rfl rfl (by omega) ?_
        refine Wl.done ?_
        refine Ar.next ?_
        refine Wc.region rfl ?_
        refine Wl.q rfl (Qy.move rfl) ?_
        refine Wl.q rfl (Qy.shr32 rfl rfl (by omega)) ?_
        refine Wl.q rfl (Qy.and1 rfl rfl (by omega)) ?_
        refine Wl.q rfl (Qy.assign rfl) ?_
        refine Wl.done ?_
        refine Ar.outNormal ?_
        refine Ar.next ?_
        refine Wc.region rfl ?_
        refine Wl.q rfl (Qy.add rfl rfl (by omega)) ?_
        refine Wl.q rfl (Qy.move rfl) ?_
        refine Wl.done ?_
        have es : ((w[((i : Nat) : Int).toNat]?.getD default).v - (c) % 4294967296 + 18446744073709551616 - o) % 4294967296 = ((w[((i : Nat) : Int).toNat]?.getD default).v - (c) % 4294967296 - o + 4294967296 * 1) := by omega
        have ec : ((w[((i : Nat) : Int).toNat]?.getD default).v - (c) % 4294967296 + 18446744073709551616 - o) / 4294967296 % 2 = 1 := by omega
        refine Ar.re 8 rfl (show _ = Value.int .u64 1 by rw [ec]) ?_
        refine Ar.reH 0 (Row 153 (p ++ (w.set i (⟨((w[((i : Nat) : Int).toNat]?.getD default).v - (c) % 4294967296 - o + 4294967296 * 1)⟩ : U32) ++ q)) junk) rfl (by rw [← es, Int.toNat_natCast]) ?_
        refine Ar.again ((i + 1, (c) / 4294967296, 1, w.set i (⟨((w[((i : Nat) : Int).toNat]?.getD default).v - (c) % 4294967296 - o + 4294967296 * 1)⟩ : U32))) ?_ ?_ rfl ⟨rfl, rfl, rfl, rfl, rfl, rfl, rfl, rfl, trivial⟩ ⟨rfl, trivial⟩
        · exact ⟨by omega, by rw [List.length_set]; exact hwn, lims_set hdw _ (by omega), by omega, by omega, by decide, by decide, by intro _; omega, bdrop_next hdrop _, less_next (c' := (c)) (b := o) (b' := 1) (by omega) hval (by rw [z, Int.zero_mul, Int.add_zero]) (by rw [← ex])⟩
        · show u.length - (i + 1) < u.length - i
          omega
      · by_cases hlt2 : (w[((i : Nat) : Int).toNat]?.getD default).v - (c) % 4294967296 < o
        · refine Wc.seq ?_
          refine Wc.region rfl ?_
          refine Wl.q rfl (Qy.lss rfl rfl) ?_
          refine Wl.done ?_
          refine Ar.next ?_
          refine Wc.seq ?_
          refine Wc.condP rfl (by first | assumption | omega) ?_
          refine Wc.skip ?_
          refine Ar.next ?_
          refine Wc.seq ?_
          refine Wc.block ?_
          refine Wc.seq ?_
          refine Wc.region rfl ?_
          refine Wl.q rfl (Qy.move rfl) ?_
          refine Wl.q rfl (Qy.assign rfl) ?_
          refine Wl.done ?_
          refine Ar.next ?_
          refine Wc.seq ?_
          refine Wc.seq ?_
          refine Wc.region rfl ?_
          refine Wl.q rfl (Qy.move rfl) ?_
          refine Wl.q rfl (Qy.move rfl) ?_
          refine Wl.q rfl (Qy.len T.sl59 rfl) ?_
          refine Wl.q rfl (Qy.lss rfl rfl) ?_
          refine Wl.done ?_
          refine Ar.next ?_
          refine Wc.condN rfl (by first | assumption | omega) ?_
          refine Wc.skip ?_
          refine Ar.next ?_
          refine Wc.seq ?_
          refine Wc.region rfl ?_
          refine Wl.q rfl (Qy.move rfl) ?_
          refine Wl.q rfl (Qy.move rfl) ?_
          refine Wl.q rfl (Qy.indexAddr T.sl59 rfl rfl (by omega)) ?_
          refine Wl.q rfl (Qy.loadW 0 T.one153 rfl rfl (by omega)) ?_
          refine Wl.q rfl (Qy.conv64 rfl T.u151 rfl (by omega)) ?_
          refine Wl.q rfl (Qy.move rfl) ?_
          refine Wl.q rfl (Qy.andLow rfl rfl (by omega)) ?_
          refine Wl.q rfl (Qy.usub64 rfl rfl (by omega)) ?_
          refine Wl.q rfl (Qy.move rfl) ?_
          refine Wl.q rfl (Qy.usubN rfl rfl (by omega)) ?_
          refine Wl.q rfl (Qy.assign rfl) ?_
          refine Wl.done ?_
          refine Ar.next ?_
          refine Wc.seq ?_
          refine Wc.region rfl ?_
          refine Wl.q rfl (Qy.move rfl) ?_
          refine Wl.q rfl (Qy.shr32 rfl rfl (by omega)) ?_
          refine Wl.q rfl (Qy.assign rfl) ?_
          refine Wl.done ?_
          refine Ar.next ?_
          refine Wc.seq ?_
          refine Wc.region rfl ?_
          refine Wl.q rfl (Qy.move rfl) ?_
          refine Wl.q rfl (Qy.move rfl) ?_
          refine Wl.q rfl (Qy.move rfl) ?_
          refine Wl.q rfl (Qy.trunc32 rfl T.u153 rfl) ?_
          refine Wl.q rfl (Qy.indexAddr T.sl59 rfl rfl (by omega)) ?_
          refine Wl.setW 0 T.size153 rfl rfl rfl (by omega) ?_
          refine Wl.done ?_
          refine Ar.next ?_
          refine Wc.region rfl ?_
          refine Wl.q rfl (Qy.move rfl) ?_
          refine Wl.q rfl (Qy.shr32 rfl rfl (by omega)) ?_
          refine Wl.q rfl (Qy.and1 rfl rfl (by omega)) ?_
          refine Wl.q rfl (Qy.assign rfl) ?_
          refine Wl.done ?_
          refine Ar.outNormal ?_
          refine Ar.next ?_
          refine Wc.region rfl ?_
          refine Wl.q rfl (Qy.add rfl rfl (by omega)) ?_
          refine Wl.q rfl (Qy.move rfl) ?_
          refine Wl.done ?_
          have es : ((w[((i : Nat) : Int).toNat]?.getD default).v - (c) % 4294967296 - o + 18446744073709551616) % 4294967296 = ((w[((i : Nat) : Int).toNat]?.getD default).v - (c) % 4294967296 - o + 4294967296 * 1) := by omega
          have ec : ((w[((i : Nat) : Int).toNat]?.getD default).v - (c) % 4294967296 - o + 18446744073709551616) / 4294967296 % 2 = 1 := by omega
          refine Ar.re 8 rfl (show _ = Value.int .u64 1 by rw [ec]) ?_
          refine Ar.reH 0 (Row 153 (p ++ (w.set i (⟨((w[((i : Nat) : Int).toNat]?.getD default).v - (c) % 4294967296 - o + 4294967296 * 1)⟩ : U32) ++ q)) junk) rfl (by rw [← es, Int.toNat_natCast]) ?_
          refine Ar.again ((i + 1, (c) / 4294967296, 1, w.set i (⟨((w[((i : Nat) : Int).toNat]?.getD default).v - (c) % 4294967296 - o + 4294967296 * 1)⟩ : U32))) ?_ ?_ rfl ⟨rfl, rfl, rfl, rfl, rfl, rfl, rfl, rfl, trivial⟩ ⟨rfl, trivial⟩
          · exact ⟨by omega, by rw [List.length_set]; exact hwn, lims_set hdw _ (by omega), by omega, by omega, by decide, by decide, by intro _; omega, bdrop_next hdrop _, less_next (c' := (c)) (b := o) (b' := 1) (by omega) hval (by rw [z, Int.zero_mul, Int.add_zero]) (by rw [← ex])⟩
          · show u.length - (i + 1) < u.length - i
            omega
        · refine Wc.seq ?_
          refine Wc.region rfl ?_
          refine Wl.q rfl (Qy.lss rfl rfl) ?_
          refine Wl.done ?_
          refine Ar.next ?_
          refine Wc.seq ?_
          refine Wc.condP rfl (by first | assumption | omega) ?_
          refine Wc.skip ?_
          refine Ar.next ?_
          refine Wc.seq ?_
          refine Wc.block ?_
          refine Wc.seq ?_
          refine Wc.region rfl ?_
          refine Wl.q rfl (Qy.move rfl) ?_
          refine Wl.q rfl (Qy.assign rfl) ?_
          refine Wl.done ?_
          refine Ar.next ?_
          refine Wc.seq ?_
          refine Wc.seq ?_
          refine Wc.region rfl ?_
          refine Wl.q rfl (Qy.move rfl) ?_
          refine Wl.q rfl (Qy.move rfl) ?_
          refine Wl.q rfl (Qy.len T.sl59 rfl) ?_
          refine Wl.q rfl (Qy.lss rfl rfl) ?_
          refine Wl.done ?_
          refine Ar.next ?_
          refine Wc.condN rfl (by first | assumption | omega) ?_
          refine Wc.skip ?_
          refine Ar.next ?_
          refine Wc.seq ?_
          refine Wc.region rfl ?_
          refine Wl.q rfl (Qy.move rfl) ?_
          refine Wl.q rfl (Qy.move rfl) ?_
          refine Wl.q rfl (Qy.indexAddr T.sl59 rfl rfl (by omega)) ?_
          refine Wl.q rfl (Qy.loadW 0 T.one153 rfl rfl (by omega)) ?_
          refine Wl.q rfl (Qy.conv64 rfl T.u151 rfl (by omega)) ?_
          refine Wl.q rfl (Qy.move rfl) ?_
          refine Wl.q rfl (Qy.andLow rfl rfl (by omega)) ?_
          refine Wl.q rfl (Qy.usub64 rfl rfl (by omega)) ?_
          refine Wl.q rfl (Qy.move rfl) ?_
          refine Wl.q rfl (Qy.usub64 rfl rfl (by omega)) ?_
          refine Wl.q rfl (Qy.assign rfl) ?_
          refine Wl.done ?_
          refine Ar.next ?_
          refine Wc.seq ?_
          refine Wc.region rfl ?_
          refine Wl.q rfl (Qy.move rfl) ?_
          refine Wl.q rfl (Qy.shr32 rfl rfl (by omega)) ?_
          refine Wl.q rfl (Qy.assign rfl) ?_
          refine Wl.done ?_
          refine Ar.next ?_
          refine Wc.seq ?_
          refine Wc.region rfl ?_
          refine Wl.q rfl (Qy.move rfl) ?_
          refine Wl.q rfl (Qy.move rfl) ?_
          refine Wl.q rfl (Qy.move rfl) ?_
          refine Wl.q rfl (Qy.conv32 rfl T.u153 rfl (by omega)) ?_
          refine Wl.q rfl (Qy.indexAddr T.sl59 rfl rfl (by omega)) ?_
          refine Wl.setW 0 T.size153 rfl rfl rfl (by omega) ?_
          refine Wl.done ?_
          refine Ar.next ?_
          refine Wc.region rfl ?_
          refine Wl.q rfl (Qy.move rfl) ?_
          refine Wl.q rfl (Qy.shr32 rfl rfl (by omega)) ?_
          refine Wl.q rfl (Qy.and1 rfl rfl (by omega)) ?_
          refine Wl.q rfl (Qy.assign rfl) ?_
          refine Wl.done ?_
          refine Ar.outNormal ?_
          refine Ar.next ?_
          refine Wc.region rfl ?_
          refine Wl.q rfl (Qy.add rfl rfl (by omega)) ?_
          refine Wl.q rfl (Qy.move rfl) ?_
          refine Wl.done ?_
          have es : ((w[((i : Nat) : Int).toNat]?.getD default).v - (c) % 4294967296 - o) = ((w[((i : Nat) : Int).toNat]?.getD default).v - (c) % 4294967296 - o + 4294967296 * 0) := by omega
          have ec : ((w[((i : Nat) : Int).toNat]?.getD default).v - (c) % 4294967296 - o) / 4294967296 % 2 = 0 := by omega
          refine Ar.re 8 rfl (show _ = Value.int .u64 0 by rw [ec]) ?_
          refine Ar.reH 0 (Row 153 (p ++ (w.set i (⟨((w[((i : Nat) : Int).toNat]?.getD default).v - (c) % 4294967296 - o + 4294967296 * 0)⟩ : U32) ++ q)) junk) rfl (by rw [← es, Int.toNat_natCast]) ?_
          refine Ar.again ((i + 1, (c) / 4294967296, 0, w.set i (⟨((w[((i : Nat) : Int).toNat]?.getD default).v - (c) % 4294967296 - o + 4294967296 * 0)⟩ : U32))) ?_ ?_ rfl ⟨rfl, rfl, rfl, rfl, rfl, rfl, rfl, rfl, trivial⟩ ⟨rfl, trivial⟩
          · exact ⟨by omega, by rw [List.length_set]; exact hwn, lims_set hdw _ (by omega), by omega, by omega, by decide, by decide, by intro _; omega, bdrop_next hdrop _, less_next (c' := (c)) (b := o) (b' := 0) (by omega) hval (by rw [z, Int.zero_mul, Int.add_zero]) (by rw [← ex])⟩
          · show u.length - (i + 1) < u.length - i
            omega
  · have hii : i = u.length := by omega
    subst hii
    have hc := hcz (by omega)
    subst hc
    refine Wc.seq ?_
    refine Wc.region rfl ?_
    refine Wl.q rfl (Qy.lss rfl rfl) ?_
    refine Wl.done ?_
    refine Ar.next ?_
    refine Wc.seq ?_
    refine Wc.condN rfl (by first | assumption | omega) ?_
    refine Wc.exit ?_
    refine Ar.passExit ?_
    refine Ar.passExit ?_
    refine Ar.here ?_
    refine Ar.next ?_
    refine Wc.seq ?_
    refine Wc.region rfl ?_
    refine Wl.q rfl (Qy.move rfl) ?_
    refine Wl.q rfl (Qy.gtr rfl rfl) ?_
    refine Wl.q rfl (Qy.assign rfl) ?_
    refine Wl.done ?_
    refine Ar.next ?_
    refine Wc.ret ?_
    refine Ar.out1 (.inr rfl) (Ho := Hp.only _ [0]) rfl (.tmp rfl) (Hp.sub_only _ _) ?_
    rw [take_all (Nat.le_refl _), take_all (by omega), take_all (by omega), Int.add_zero] at hval
    exact ⟨w, o, rfl, rfl, rfl, by omega, hwn, hdw, hval⟩
end Go.Proofs.Ytbppmiimeccclaa
set_option maxRecDepth 100000
set_option linter.unusedVariables false
namespace Go.Proofs.Ytbppmiimeccclaa
open Go Go.Sl
set_option maxHeartbeats 4000000
theorem kn_bound {u v : List U32} {m : Nat} (hu : u.length = m + 3) (hv : v.length = m + 2) (du : Lims u) (dv : Lims v) (h : valB u < 4294967296 * valB v) : lg u (m + 2) * 4294967296 + lg u (m + 1) < lg v (m + 1) * 4294967296 + 4294967296 := by
  have e1 := top3 hu
  have e2 := top2 hv
  have e3 := take_rng dv (show m ≤ v.length by omega)
  have e4 := take_rng du (show m ≤ u.length by omega)
  have a0 := lg_rng dv m
  have b0 := lg_rng du m
  have hp := pb_pos m
  generalize lg u (m + 2) * 4294967296 + lg u (m + 1) = high at *
  generalize lg v (m + 1) = v1 at *
  generalize lg v m = v0 at *
  generalize lg u m = u0 at *
  refine Int.lt_of_mul_lt_mul_left (a := pb m * 4294967296) ?_ (by omega)
  have f1 := Int.mul_le_mul_of_nonneg_left (show v0 + 4294967296 * v1 + 1 ≤ v1 * 4294967296 + 4294967296 by omega) (Int.le_of_lt hp)
  have f2 := Int.mul_nonneg (Int.le_of_lt hp) b0.1
  rw [Int.mul_add, Int.mul_one] at f1
  rw [Int.mul_add, ← Int.mul_assoc] at e1
  have f3 : pb m * 4294967296 * (v1 * 4294967296 + 4294967296) = 4294967296 * (pb m * (v1 * 4294967296 + 4294967296)) := by rw [Int.mul_comm (pb m) 4294967296, Int.mul_assoc]
  rw [f3]
  omega
attribute [local irreducible] valB pb cmpZ
theorem c172 (G : Imm) (b : Nat) (p u q : List U32) (junk : List Value) (cw : Nat) (v : Option Addr) (cv : Nat) (lv : List U32) (m : Nat) (hv : Arr G v lv) (du : Lims u) (dv : Lims lv) (h1 : u.length ≤ 1073741824) (hu : u.length = m + 3) (hl : lv.length = m + 2) (htop : 2147483648 ≤ lg lv (m + 1)) (hlt : valB u < 4294967296 * valB lv) :
    Does Try.prog 172 [.slice (some ⟨b, p.length, none⟩) u.length cw, .slice v lv.length cv] G [(0, some b, Row 153 (p ++ (u ++ q)) junk)] (fun r G' Ho => ∃ (w : List U32) (g : Int), r = .int .u32 g ∧ Ho = [(0, some b, Row 153 (p ++ (w ++ q)) junk)] ∧ G' = G ∧ 0 ≤ g ∧ g < 4294967296 ∧ w.length = u.length ∧ Lims w ∧ valB w = valB u - g * valB lv ∧ valB w < valB lv) := by
  have hU2 := lg_rng du (m + 2)
  have hU1 := lg_rng du (m + 1)
  have hU0 := lg_rng du m
  have hV1 := lg_rng dv (m + 1)
  have hV0 := lg_rng dv m
  have eu2 : (u[((lv.length : Nat) : Int).toNat]?.getD default).v = lg u (m + 2) := by unfold lg; rw [hl]
  have eu1 : (u[(((lv.length : Nat) : Int) - 1).toNat]?.getD default).v = lg u (m + 1) := by unfold lg; rw [show (((lv.length : Nat) : Int) - 1).toNat = ((m + 1 : Nat) : Int).toNat by omega]
  have eu0 : (u[(((lv.length : Nat) : Int) - 2).toNat]?.getD default).v = lg u m := by unfold lg; rw [show (((lv.length : Nat) : Int) - 2).toNat = ((m : Nat) : Int).toNat by omega]
  have ev1 : (lv[(((lv.length : Nat) : Int) - 1).toNat]?.getD default).v = lg lv (m + 1) := by unfold lg; rw [show (((lv.length : Nat) : Int) - 1).toNat = ((m + 1 : Nat) : Int).toNat by omega]
  have ev0 : (lv[(((lv.length : Nat) : Int) - 2).toNat]?.getD default).v = lg lv m := by unfold lg; rw [show (((lv.length : Nat) : Int) - 2).toNat = ((m : Nat) : Int).toNat by omega]
  refine Does.enter Try.func172 rfl Try.ntmps172 rfl (fun w => ?_)
  have hp1 : 0 < lg lv (m + 1) := by omega
  obtain ⟨high, hhigh⟩ : ∃ high, high = lg u (m + 2) * 4294967296 + lg u (m + 1) := ⟨_, rfl⟩
  obtain ⟨hk1, hk2, hk3, hk4, hk5⟩ := kn_first hu hl du dv hhigh hp1 rfl rfl
  have hq := Int.ediv_le_self (lg lv (m + 1)) (show 0 ≤ high by omega)
  have hVm : 0 < valB lv := by
    have := top2 hl
    have h3 := take_rng dv (show m ≤ lv.length by omega)
    have h4 := Int.mul_pos (pb_pos m) (show 0 < lg lv m + 4294967296 * lg lv (m + 1) by omega)
    omega
  have hUp : valB u < 4294967296 * valB lv := hlt
  have hbrk : high < lg lv (m + 1) * 4294967296 + 4294967296 := hhigh ▸ kn_bound hu hl du dv hlt
  refine Wc.seq ?_
  refine Wc.region rfl ?_
  refine Wl.q rfl (Qy.assign rfl) ?_
  refine Wl.done ?_
  refine Ar.next ?_
  refine Wc.scope ?_
  refine Wc.seq ?_
  refine Wc.region rfl ?_
  refine Wl.q rfl (Qy.move rfl) ?_
  refine Wl.q rfl (Qy.len T.sl59 rfl) ?_
  refine Wl.q rfl (Qy.assign rfl) ?_
  refine Wl.done ?_
  refine Ar.next ?_
  refine Wc.seq ?_
  refine Wc.draw [0] [] T.mixed rfl ?_
  refine Gm.q 0 [] (by kernel_rfl) rfl rfl (Qy.move rfl) ?_
  refine Gm.q 1 [] (by kernel_rfl) rfl rfl (Qy.move rfl) ?_
  refine Gm.q 2 [] (by kernel_rfl) rfl rfl (Qy.indexAddr T.sl59 rfl rfl (by omega)) ?_
  refine Gm.q 3 [0] (by kernel_rfl) rfl rfl (Qy.loadW 0 T.one153 rfl rfl (by omega)) ?_
  refine Gm.q 4 [] (by kernel_rfl) rfl rfl (Qy.conv64 rfl T.u151 rfl (by omega)) ?_
  refine Gm.q 5 [] (by kernel_rfl) rfl rfl (Qy.shl32 rfl rfl (by omega)) ?_
  refine Gm.q 6 [] (by kernel_rfl) rfl rfl (Qy.move rfl) ?_
  refine Gm.q 7 [] (by kernel_rfl) rfl rfl (Qy.move rfl) ?_
  refine Gm.q 8 [] (by kernel_rfl) rfl rfl (Qy.sub rfl rfl (by omega)) ?_
  refine Gm.q 9 [] (by kernel_rfl) rfl rfl (Qy.indexAddr T.sl59 rfl rfl (by omega)) ?_
  refine Gm.q 10 [0] (by kernel_rfl) rfl rfl (Qy.loadW 0 T.one153 rfl rfl (by omega)) ?_
  refine Gm.q 11 [] (by kernel_rfl) rfl rfl (Qy.conv64 rfl T.u151 rfl (by omega)) ?_
  refine Gm.q 12 [] (by kernel_rfl) rfl rfl (Qy.orLow rfl rfl (by omega) (by omega)) ?_
  refine Gm.q 13 [] (by kernel_rfl) rfl rfl (Qy.assign rfl) ?_
  refine Gm.doneA (by kernel_rfl) ⟨rfl, trivial⟩ (by first | exact Imm.le_refl _ | assumption | (refine Imm.le_trans ?_ (by assumption); first | assumption | (refine Imm.le_trans ?_ (by assumption); assumption))) ?_
  refine Ar.next ?_
  refine Wc.meet (ι := Int × Int) (fun (g, r) => ([(0, .slice (some ⟨b, p.length, none⟩) u.length cw), (1, .slice v lv.length cv), (5, .int .i64 (lv.length : Int)), (7, .int .u64 g), (8, .int .u64 r), (4, Go.Value.int Go.IntKind.u32 0)], [(0, some b, Row 153 (p ++ (u ++ q)) junk)])) (fun (g, r) => g * lg lv (m + 1) + r = high ∧ 0 ≤ g ∧ g ≤ 18446744073709551615 ∧ 0 ≤ r ∧ r < 4294967296 ∧ valB u < (g + 1) * valB lv) ?_ (fun ⟨g, r⟩ => fun (hk : g * lg lv (m + 1) + r = high ∧ 0 ≤ g ∧ g ≤ 18446744073709551615 ∧ 0 ≤ r ∧ r < 4294967296 ∧ valB u < (g + 1) * valB lv) => ?_)
  · refine Wc.draw [0] [] T.mixed rfl ?_
    refine Gm.q 0 [] (by kernel_rfl) rfl rfl (Qy.move rfl) ?_
    refine Gm.q 1 [] (by kernel_rfl) rfl rfl (Qy.move rfl) ?_
    refine Gm.q 2 [] (by kernel_rfl) rfl rfl (Qy.move rfl) ?_
    refine Gm.q 3 [] (by kernel_rfl) rfl rfl (Qy.sub rfl rfl (by omega)) ?_
    refine Gm.q 4 [] (by kernel_rfl) rfl rfl (Qy.at (α := U32) T.sl59 rfl rfl (by assumption) (by omega)) ?_
    refine Gm.q 5 [0] (by kernel_rfl) rfl rfl (Qy.loadG T.one153 rfl (Arr.cell (by assumption) (by omega) 0 rfl rfl)) ?_
    refine Gm.q 6 [] (by kernel_rfl) rfl rfl (Qy.conv64 rfl T.u151 rfl (by omega)) ?_
    refine Gm.q 7 [] (by kernel_rfl) rfl rfl (Qy.uquo64 rfl rfl (by omega)) ?_
    refine Gm.q 8 [] (by kernel_rfl) rfl rfl (Qy.move rfl) ?_
    refine Gm.q 9 [] (by kernel_rfl) rfl rfl (Qy.move rfl) ?_
    refine Gm.q 10 [] (by kernel_rfl) rfl rfl (Qy.move rfl) ?_
    refine Gm.q 11 [] (by kernel_rfl) rfl rfl (Qy.sub rfl rfl (by omega)) ?_
    refine Gm.q 12 [] (by kernel_rfl) rfl rfl (Qy.at (α := U32) T.sl59 rfl rfl (by assumption) (by omega)) ?_
    refine Gm.q 13 [0] (by kernel_rfl) rfl rfl (Qy.loadG T.one153 rfl (Arr.cell (by assumption) (by omega) 0 rfl rfl)) ?_
    refine Gm.q 14 [] (by kernel_rfl) rfl rfl (Qy.conv64 rfl T.u151 rfl (by omega)) ?_
    refine Gm.q 15 [] (by kernel_rfl) rfl rfl (Qy.urem rfl rfl (by omega)) ?_
    refine Gm.q 16 [] (by kernel_rfl) rfl rfl (Qy.assign rfl) ?_
    refine Gm.q 17 [] (by kernel_rfl) rfl rfl (Qy.assign rfl) ?_
    refine Gm.doneA (by kernel_rfl) ⟨rfl, trivial⟩ (by first | exact Imm.le_refl _ | assumption | (refine Imm.le_trans ?_ (by assumption); first | assumption | (refine Imm.le_trans ?_ (by assumption); assumption))) ?_
    · refine Ar.re 7 rfl (show _ = Value.int .u64 (high / lg lv (m + 1)) by rw [eu2, eu1, ev1, hhigh]) ?_
      refine Ar.re 8 rfl (show _ = Value.int .u64 (high % lg lv (m + 1)) by rw [eu2, eu1, ev1, hhigh]) ?_
      refine Ar.meet ((high / lg lv (m + 1), high % lg lv (m + 1))) ?_ rfl ⟨rfl, rfl, rfl, rfl, rfl, rfl, trivial⟩ ⟨rfl, trivial⟩
      exact ⟨hk1, hk2, by omega, hk3, by omega, hk5⟩
  obtain ⟨hg1, hg2, hg3, hr1, hr2, hgu⟩ := hk
  clear hk1 hk2 hk3 hk4 hk5 hq
  refine Wc.seq ?_
  refine Wc.label ?_
  refine Ar.next ?_
  refine Wc.meet (ι := Int) (fun gg => ([(0, .slice (some ⟨b, p.length, none⟩) u.length cw), (1, .slice v lv.length cv), (5, .int .i64 (lv.length : Int)), (7, .int .u64 gg), (4, Go.Value.int Go.IntKind.u32 0)], [(0, some b, Row 153 (p ++ (u ++ q)) junk)])) (fun gg => 0 ≤ gg ∧ gg < 4294967296 ∧ valB u < (gg + 1) * valB lv ∧ (gg - 1) * valB lv ≤ valB u) ?_ (fun gg => fun (hk : 0 ≤ gg ∧ gg < 4294967296 ∧ valB u < (gg + 1) * valB lv ∧ (gg - 1) * valB lv ≤ valB u) => ?_)
  · refine Wc.block ?_
    refine Wc.loop (ι := Int × Int) (fun (g, r) => ([(7, .int .u64 g), (8, .int .u64 r), (0, Go.Value.slice (Option.some (Go.Addr.mk b (List.length p) Option.none)) (List.length u) cw), (1, Go.Value.slice v (List.length lv) cv), (5, Go.Value.int Go.IntKind.i64 (↑(List.length lv) : Int)), (4, Go.Value.int Go.IntKind.u32 0)], [(0, some b, Row 153 (p ++ (u ++ q)) junk)])) (fun (g, r) => g * lg lv (m + 1) + r = high ∧ 0 ≤ g ∧ g ≤ 18446744073709551615 ∧ 0 ≤ r ∧ r < 4294967296 ∧ valB u < (g + 1) * valB lv) (fun (g, r) => (4294967296 - r).toNat) ((g, r)) (⟨hg1, hg2, hg3, hr1, hr2, hgu⟩) ⟨rfl, rfl, rfl, rfl, rfl, rfl, trivial⟩ ⟨rfl, trivial⟩ (fun ⟨g, r⟩ => fun (hk : g * lg lv (m + 1) + r = high ∧ 0 ≤ g ∧ g ≤ 18446744073709551615 ∧ 0 ≤ r ∧ r < 4294967296 ∧ valB u < (g + 1) * valB lv) => ?_)
    clear hg1 hg2 hg3 hr1 hr2 hgu
    obtain ⟨hg1, hg2, hg3, hr1, hr2, hgu⟩ := hk
    have dec : 4294967296 ≤ g ∨ r * 4294967296 + lg u m < g * lg lv m → 1 ≤ g ∧ (g - 1) * lg lv (m + 1) + (r + lg lv (m + 1)) = high ∧ valB u < (g - 1 + 1) * valB lv := fun hd => by
      have hg0 : 1 ≤ g := by
        rcases hd with hd | hd
        · omega
        · rcases (show g = 0 ∨ 1 ≤ g by omega) with h | h
          · rw [h, Int.zero_mul] at hd; omega
          · exact h
      refine ⟨hg0, by rw [Int.sub_mul, Int.one_mul]; omega, ?_⟩
      rw [show g - 1 + 1 = g by omega]
      rcases hd with hd | hd
      · have := Int.mul_le_mul_of_nonneg_right hd (Int.le_of_lt hVm)
        omega
      · exact kn_dec hu hl du dv hhigh hg1 hg2 hd
    have brk : (g - 1) * lg lv (m + 1) + (r + lg lv (m + 1)) = high → valB u < (g - 1 + 1) * valB lv → 4294967296 ≤ r + lg lv (m + 1) → 1 ≤ g → 0 ≤ g - 1 ∧ g - 1 < 4294967296 ∧ valB u < (g - 1 + 1) * valB lv ∧ (g - 1 - 1) * valB lv ≤ valB u := fun h h2 h3 h4 => by
      have hlt' := kn_break h h3 hp1 hbrk
      have hm0 := bmul_small ⟨(show 0 ≤ g - 1 by omega), hlt'⟩ hV0
      exact ⟨by omega, hlt', h2, kn_end hu hl du dv hhigh h ⟨by omega, hlt'⟩ (by omega) (by omega)⟩
    by_cases hgb : g < 4294967296
    · have hm0 := bmul_small ⟨hg2, hgb⟩ hV0
      have hm : 0 ≤ g * (lv[(((lv.length : Nat) : Int) - 2).toNat]?.getD default).v ∧ g * (lv[(((lv.length : Nat) : Int) - 2).toNat]?.getD default).v ≤ 18446744073709551615 := by rw [ev0]; omega
      by_cases hcond : r * 4294967296 + lg u m < g * lg lv m
      · obtain ⟨hg0, hnx, hnu⟩ := dec (.inr hcond)
        have hcond' : r * 4294967296 + (u[(((lv.length : Nat) : Int) - 2).toNat]?.getD default).v < g * (lv[(((lv.length : Nat) : Int) - 2).toNat]?.getD default).v := by rw [eu0, ev0]; exact hcond
        refine Wc.seq ?_
        refine Wc.seq ?_
        refine Wc.draw [0] [] T.mixed rfl ?_
        refine Gm.q 0 [] (by kernel_rfl) rfl rfl (Qy.move rfl) ?_
        refine Gm.q 1 [] (by kernel_rfl) rfl rfl (Qy.shr32 rfl rfl (by omega)) ?_
        refine Gm.q 2 [] (by kernel_rfl) rfl rfl (Qy.gtr rfl rfl) ?_
        refine Gm.q 3 [] (by kernel_rfl) rfl rfl (Qy.move rfl) ?_
        refine Gm.no 45 rfl (by first | assumption | omega) ?_
        refine Gm.qYes 4 [] (by kernel_rfl) rfl rfl rfl rfl (Qy.move rfl) ?_
        refine Gm.qYes 5 [] (by kernel_rfl) rfl rfl rfl rfl (Qy.move rfl) ?_
        refine Gm.qYes 6 [] (by kernel_rfl) rfl rfl rfl rfl (Qy.move rfl) ?_
        refine Gm.qYes 7 [] (by kernel_rfl) rfl rfl rfl rfl (Qy.sub rfl rfl (by omega)) ?_
        refine Gm.qYes 8 [] (by kernel_rfl) rfl rfl rfl rfl (Qy.at (α := U32) T.sl59 rfl rfl (by assumption) (by omega)) ?_
        refine Gm.qYes 9 [0] (by kernel_rfl) rfl rfl rfl rfl (Qy.loadG T.one153 rfl (Arr.cell (by assumption) (by omega) 0 rfl rfl)) ?_
        refine Gm.qYes 10 [] (by kernel_rfl) rfl rfl rfl rfl (Qy.conv64 rfl T.u151 rfl (by omega)) ?_
        refine Gm.qYes 11 [] (by kernel_rfl) rfl rfl rfl rfl (Qy.umul64 rfl rfl (by first | assumption | omega)) ?_
        refine Gm.qYes 12 [] (by kernel_rfl) rfl rfl rfl rfl (Qy.move rfl) ?_
        refine Gm.qYes 13 [] (by kernel_rfl) rfl rfl rfl rfl (Qy.shl32 rfl rfl (by omega)) ?_
        refine Gm.qYes 14 [] (by kernel_rfl) rfl rfl rfl rfl (Qy.move rfl) ?_
        refine Gm.qYes 15 [] (by kernel_rfl) rfl rfl rfl rfl (Qy.move rfl) ?_
        refine Gm.qYes 16 [] (by kernel_rfl) rfl rfl rfl rfl (Qy.sub rfl rfl (by omega)) ?_
        refine Gm.qYes 17 [] (by kernel_rfl) rfl rfl rfl rfl (Qy.indexAddr T.sl59 rfl rfl (by omega)) ?_
        refine Gm.qYes 18 [0] (by kernel_rfl) rfl rfl rfl rfl (Qy.loadW 0 T.one153 rfl rfl (by omega)) ?_
        refine Gm.qYes 19 [] (by kernel_rfl) rfl rfl rfl rfl (Qy.conv64 rfl T.u151 rfl (by omega)) ?_
        refine Gm.qYes 20 [] (by kernel_rfl) rfl rfl rfl rfl (Qy.orLow rfl rfl (by omega) (by omega)) ?_
        refine Gm.qYes 21 [] (by kernel_rfl) rfl rfl rfl rfl (Qy.gtr rfl rfl) ?_
        refine Gm.q 22 [] (by kernel_rfl) rfl rfl (Qy.pick rfl rfl) ?_
        refine Gm.doneA (by kernel_rfl) ⟨rfl, trivial⟩ (by first | exact Imm.le_refl _ | assumption | (refine Imm.le_trans ?_ (by assumption); first | assumption | (refine Imm.le_trans ?_ (by assumption); assumption))) ?_
        refine Ar.next ?_
        refine Wc.condP rfl (by first | assumption | omega) ?_
        refine Wc.skip ?_
        refine Ar.next ?_
        refine Wc.block ?_
        refine Wc.seq ?_
        refine Wc.region rfl ?_
        refine Wl.q rfl (Qy.move rfl) ?_
        refine Wl.q rfl (Qy.usub64 rfl rfl (by omega)) ?_
        refine Wl.q rfl (Qy.assign rfl) ?_
        refine Wl.done ?_
        refine Ar.next ?_
        refine Wc.seq ?_
        refine Wc.region rfl ?_
        refine Wl.q rfl (Qy.move rfl) ?_
        refine Wl.q rfl (Qy.move rfl) ?_
        refine Wl.q rfl (Qy.move rfl) ?_
        refine Wl.q rfl (Qy.sub rfl rfl (by omega)) ?_
        refine Wl.q rfl (Qy.at (α := U32) T.sl59 rfl rfl (by assumption) (by omega)) ?_
        refine Wl.q rfl (Qy.loadG T.one153 rfl (Arr.cell (by assumption) (by omega) 0 rfl rfl)) ?_
        refine Wl.q rfl (Qy.conv64 rfl T.u151 rfl (by omega)) ?_
        refine Wl.q rfl (Qy.uadd64 rfl rfl (by omega)) ?_
        refine Wl.q rfl (Qy.assign rfl) ?_
        refine Wl.done ?_
        refine Ar.next ?_
        refine Wc.seq ?_
        refine Wc.region rfl ?_
        refine Wl.q rfl (Qy.move rfl) ?_
        refine Wl.q rfl (Qy.shr32 rfl rfl (by omega)) ?_
        refine Wl.q rfl (Qy.gtr rfl rfl) ?_
        refine Wl.done ?_
        refine Ar.next ?_
        refine Wc.cond rfl (fun hc1 => ?_) (fun hc1 => ?_)
        refine Wc.exit ?_
        refine Ar.outExit rfl ?_
        refine Ar.passExit ?_
        refine Ar.here ?_
        rotate_left
        refine Wc.skip ?_
        refine Ar.outNormal ?_
        rotate_left
        · refine Ar.re 7 rfl rfl ?_
          refine Ar.meet (g - 1) ?_ rfl ⟨rfl, rfl, rfl, rfl, rfl, trivial⟩ ⟨rfl, trivial⟩
          exact brk hnx hnu (by rw [← ev1]; omega) hg0
        · refine Ar.re 8 rfl (show _ = Value.int .u64 (r + lg lv (m + 1)) by rw [ev1]) ?_
          refine Ar.again ((g - 1, r + lg lv (m + 1))) ?_ ?_ rfl ⟨rfl, rfl, rfl, rfl, rfl, rfl, trivial⟩ ⟨rfl, trivial⟩
          · exact ⟨hnx, by omega, by omega, by omega, by rw [← ev1]; omega, hnu⟩
          · show (4294967296 - (r + lg lv (m + 1))).toNat < (4294967296 - r).toNat
            omega
      · have hcond' : ¬ r * 4294967296 + (u[(((lv.length : Nat) : Int) - 2).toNat]?.getD default).v < g * (lv[(((lv.length : Nat) : Int) - 2).toNat]?.getD default).v := by rw [eu0, ev0]; exact hcond
        refine Wc.seq ?_
        refine Wc.seq ?_
        refine Wc.draw [0] [] T.mixed rfl ?_
        refine Gm.q 0 [] (by kernel_rfl) rfl rfl (Qy.move rfl) ?_
        refine Gm.q 1 [] (by kernel_rfl) rfl rfl (Qy.shr32 rfl rfl (by omega)) ?_
        refine Gm.q 2 [] (by kernel_rfl) rfl rfl (Qy.gtr rfl rfl) ?_
        refine Gm.q 3 [] (by kernel_rfl) rfl rfl (Qy.move rfl) ?_
        refine Gm.no 45 rfl (by first | assumption | omega) ?_
        refine Gm.qYes 4 [] (by kernel_rfl) rfl rfl rfl rfl (Qy.move rfl) ?_
        refine Gm.qYes 5 [] (by kernel_rfl) rfl rfl rfl rfl (Qy.move rfl) ?_
        refine Gm.qYes 6 [] (by kernel_rfl) rfl rfl rfl rfl (Qy.move rfl) ?_
        refine Gm.qYes 7 [] (by kernel_rfl) rfl rfl rfl rfl (Qy.sub rfl rfl (by omega)) ?_
        refine Gm.qYes 8 [] (by kernel_rfl) rfl rfl rfl rfl (Qy.at (α := U32) T.sl59 rfl rfl (by assumption) (by omega)) ?_
        refine Gm.qYes 9 [0] (by kernel_rfl) rfl rfl rfl rfl (Qy.loadG T.one153 rfl (Arr.cell (by assumption) (by omega) 0 rfl rfl)) ?_
        refine Gm.qYes 10 [] (by kernel_rfl) rfl rfl rfl rfl (Qy.conv64 rfl T.u151 rfl (by omega)) ?_
        refine Gm.qYes 11 [] (by kernel_rfl) rfl rfl rfl rfl (Qy.umul64 rfl rfl (by first | assumption | omega)) ?_
        refine Gm.qYes 12 [] (by kernel_rfl) rfl rfl rfl rfl (Qy.move rfl) ?_
        refine Gm.qYes 13 [] (by kernel_rfl) rfl rfl rfl rfl (Qy.shl32 rfl rfl (by omega)) ?_
        refine Gm.qYes 14 [] (by kernel_rfl) rfl rfl rfl rfl (Qy.move rfl) ?_
        refine Gm.qYes 15 [] (by kernel_rfl) rfl rfl rfl rfl (Qy.move rfl) ?_
        refine Gm.qYes 16 [] (by kernel_rfl) rfl rfl rfl rfl (Qy.sub rfl rfl (by omega)) ?_
        refine Gm.qYes 17 [] (by kernel_rfl) rfl rfl rfl rfl (Qy.indexAddr T.sl59 rfl rfl (by omega)) ?_
        refine Gm.qYes 18 [0] (by kernel_rfl) rfl rfl rfl rfl (Qy.loadW 0 T.one153 rfl rfl (by omega)) ?_
        refine Gm.qYes 19 [] (by kernel_rfl) rfl rfl rfl rfl (Qy.conv64 rfl T.u151 rfl (by omega)) ?_
        refine Gm.qYes 20 [] (by kernel_rfl) rfl rfl rfl rfl (Qy.orLow rfl rfl (by omega) (by omega)) ?_
        refine Gm.qYes 21 [] (by kernel_rfl) rfl rfl rfl rfl (Qy.gtr rfl rfl) ?_
        refine Gm.q 22 [] (by kernel_rfl) rfl rfl (Qy.pick rfl rfl) ?_
        refine Gm.doneA (by kernel_rfl) ⟨rfl, trivial⟩ (by first | exact Imm.le_refl _ | assumption | (refine Imm.le_trans ?_ (by assumption); first | assumption | (refine Imm.le_trans ?_ (by assumption); assumption))) ?_
        refine Ar.next ?_
        refine Wc.condN rfl (by first | assumption | omega) ?_
        refine Wc.exit ?_
        refine Ar.passExit ?_
        refine Ar.passExit ?_
        refine Ar.here ?_
        refine Ar.meet (g) ?_ rfl ⟨rfl, rfl, rfl, rfl, rfl, trivial⟩ ⟨rfl, trivial⟩
        exact ⟨hg2, hgb, hgu, kn_end hu hl du dv hhigh hg1 ⟨hg2, hgb⟩ (by omega) (by omega)⟩
    · obtain ⟨hg0, hnx, hnu⟩ := dec (.inl (by omega))
      refine Wc.seq ?_
      refine Wc.seq ?_
      refine Wc.draw [0] [] T.mixed rfl ?_
      refine Gm.q 0 [] (by kernel_rfl) rfl rfl (Qy.move rfl) ?_
      refine Gm.q 1 [] (by kernel_rfl) rfl rfl (Qy.shr32 rfl rfl (by omega)) ?_
      refine Gm.q 2 [] (by kernel_rfl) rfl rfl (Qy.gtr rfl rfl) ?_
      refine Gm.q 3 [] (by kernel_rfl) rfl rfl (Qy.move rfl) ?_
      refine Gm.yes 45 rfl (by first | assumption | omega) ?_
      refine Gm.qNo 4 (by kernel_rfl) rfl rfl rfl rfl ?_
      refine Gm.qNo 5 (by kernel_rfl) rfl rfl rfl rfl ?_
      refine Gm.qNo 6 (by kernel_rfl) rfl rfl rfl rfl ?_
      refine Gm.qNo 7 (by kernel_rfl) rfl rfl rfl rfl ?_
      refine Gm.qNo 8 (by kernel_rfl) rfl rfl rfl rfl ?_
      refine Gm.qNo 9 (by kernel_rfl) rfl rfl rfl rfl ?_
      refine Gm.qNo 10 (by kernel_rfl) rfl rfl rfl rfl ?_
      refine Gm.qNo 11 (by kernel_rfl) rfl rfl rfl rfl ?_
      refine Gm.qNo 12 (by kernel_rfl) rfl rfl rfl rfl ?_
      refine Gm.qNo 13 (by kernel_rfl) rfl rfl rfl rfl ?_
      refine Gm.qNo 14 (by kernel_rfl) rfl rfl rfl rfl ?_
      refine Gm.qNo 15 (by kernel_rfl) rfl rfl rfl rfl ?_
      refine Gm.qNo 16 (by kernel_rfl) rfl rfl rfl rfl ?_
      refine Gm.qNo 17 (by kernel_rfl) rfl rfl rfl rfl ?_
      refine Gm.qNo 18 (by kernel_rfl) rfl rfl rfl rfl ?_
      refine Gm.qNo 19 (by kernel_rfl) rfl rfl rfl rfl ?_
      refine Gm.qNo 20 (by kernel_rfl) rfl rfl rfl rfl ?_
      refine Gm.qNo 21 (by kernel_rfl) rfl rfl rfl rfl ?_
      refine Gm.q 22 [] (by kernel_rfl) rfl rfl (Qy.pick rfl rfl) ?_
      refine Gm.doneA (by kernel_rfl) ⟨rfl, trivial⟩ (by first | exact Imm.le_refl _ | assumption | (refine Imm.le_trans ?_ (by assumption); first | assumption | (refine Imm.le_trans ?_ (by assumption); assumption))) ?_
      refine Ar.next ?_
      refine Wc.condT rfl ?_
      refine Wc.skip ?_
      refine Ar.next ?_
      refine Wc.block ?_
      refine Wc.seq ?_
      refine Wc.region rfl ?_
      refine Wl.q rfl (Qy.move rfl) ?_
      refine Wl.q rfl (Qy.usub64 rfl rfl (by omega)) ?_
      refine Wl.q rfl (Qy.assign rfl) ?_
      refine Wl.done ?_
      refine Ar.next ?_
      refine Wc.seq ?_
      refine Wc.region rfl ?_
      refine Wl.q rfl (Qy.move rfl) ?_
      refine Wl.q rfl (Qy.move rfl) ?_
      refine Wl.q rfl (Qy.move rfl) ?_
      refine Wl.q rfl (Qy.sub rfl rfl (by omega)) ?_
      refine Wl.q rfl (Qy.at (α := U32) T.sl59 rfl rfl (by assumption) (by omega)) ?_
      refine Wl.q rfl (Qy.loadG T.one153 rfl (Arr.cell (by assumption) (by omega) 0 rfl rfl)) ?_
      refine Wl.q rfl (Qy.conv64 rfl T.u151 rfl (by omega)) ?_
      refine Wl.q rfl (Qy.uadd64 rfl rfl (by omega)) ?_
      refine Wl.q rfl (Qy.assign rfl) ?_
      refine Wl.done ?_
      refine Ar.next ?_
      refine Wc.seq ?_
      refine Wc.region rfl ?_
      refine Wl.q rfl (Qy.move rfl) ?_
      refine Wl.q rfl (Qy.shr32 rfl rfl (by omega)) ?_
      refine Wl.q rfl (Qy.gtr rfl rfl) ?_
      refine Wl.done ?_
      refine Ar.next ?_
      refine Wc.cond rfl (fun hc1 => ?_) (fun hc1 => ?_)
      refine Wc.exit ?_
      refine Ar.outExit rfl ?_
      refine Ar.passExit ?_
      refine Ar.here ?_
      rotate_left
      refine Wc.skip ?_
      refine Ar.outNormal ?_
      rotate_left
      · refine Ar.re 7 rfl rfl ?_
        refine Ar.meet (g - 1) ?_ rfl ⟨rfl, rfl, rfl, rfl, rfl, trivial⟩ ⟨rfl, trivial⟩
        exact brk hnx hnu (by rw [← ev1]; omega) hg0
      · refine Ar.re 8 rfl (show _ = Value.int .u64 (r + lg lv (m + 1)) by rw [ev1]) ?_
        refine Ar.again ((g - 1, r + lg lv (m + 1))) ?_ ?_ rfl ⟨rfl, rfl, rfl, rfl, rfl, rfl, trivial⟩ ⟨rfl, trivial⟩
        · exact ⟨hnx, by omega, by omega, by omega, by rw [← ev1]; omega, hnu⟩
        · show (4294967296 - (r + lg lv (m + 1))).toNat < (4294967296 - r).toNat
          omega
  clear hg1 hg2 hg3 hr1 hr2 hgu
  obtain ⟨hg1, hg2, hg3, hg4⟩ := hk
  refine Wc.seq ?_
  refine Wc.seq ?_
  refine Wc.region rfl ?_
  refine Wl.q rfl (Qy.move rfl) ?_
  refine Wl.q rfl (Qy.move rfl) ?_
  refine Wl.q rfl (Qy.move rfl) ?_
  refine Wl.call 0 rfl T.fn184 rfl (c184 _ b p u q junk cw v cv lv gg hv du dv h1 (by omega) ⟨hg1, hg2⟩) (tags_of ⟨rfl, trivial⟩) (fun r1 G1 Ho1 hle1 hp => ?_)
  obtain ⟨lw1, lo1, rfl, rfl, rfl, hlo1, hln1, hld1, hlv1⟩ := hp
  have hfew := valB_lt hld1
  have hnn := valB_nonneg hld1
  rcases hlo1 with hlo1 | hlo1
  · subst hlo1
    rw [Int.mul_zero, Int.sub_zero] at hlv1
    refine Wl.q rfl (Qy.notD rfl) ?_
    refine Wl.done ?_
    refine Ar.next ?_
    refine Wc.condP rfl (by first | assumption | omega) ?_
    refine Wc.seq ?_
    refine Wc.region rfl ?_
    refine Wl.q rfl (Qy.move rfl) ?_
    refine Wl.q rfl (Qy.conv32 rfl T.u153 rfl (by omega)) ?_
    refine Wl.q rfl (Qy.assign rfl) ?_
    refine Wl.done ?_
    refine Ar.next ?_
    refine Wc.ret ?_
    refine Ar.passRet ?_
    refine Ar.scopeR ?_
    refine Ar.out1 (.inr rfl) (Ho := Hp.only _ [0]) rfl (.tmp rfl) (Hp.sub_only _ _) ?_
    refine ⟨lw1, gg, rfl, rfl, rfl, hg1, hg2, hln1, hld1, hlv1.symm, ?_⟩
    rw [Int.add_mul, Int.one_mul] at hg3
    omega
  · subst hlo1
    rw [Int.mul_one, ← hln1] at hlv1
    have hover : valB u < gg * valB lv := by omega
    have hgp : 1 ≤ gg := by
      rcases (show gg = 0 ∨ 1 ≤ gg by omega) with h | h
      · rw [h, Int.zero_mul] at hover
        have := valB_nonneg du
        omega
      · exact h
    refine Wl.q rfl (Qy.notD rfl) ?_
    refine Wl.done ?_
    refine Ar.next ?_
    refine Wc.condN rfl (by first | assumption | omega) ?_
    refine Wc.skip ?_
    refine Ar.next ?_
    refine Wc.seq ?_
    refine Wc.region rfl ?_
    refine Wl.q rfl (Qy.move rfl) ?_
    refine Wl.q rfl (Qy.usub64 rfl rfl (by omega)) ?_
    refine Wl.q rfl (Qy.assign rfl) ?_
    refine Wl.done ?_
    refine Ar.next ?_
    refine Wc.seq ?_
    refine Wc.region rfl ?_
    refine Wl.q rfl (Qy.assign rfl) ?_
    refine Wl.done ?_
    refine Ar.next ?_
    refine Wc.seq ?_
    refine Wc.seq ?_
    refine Wc.region rfl ?_
    refine Wl.q rfl (Qy.move rfl) ?_
    refine Wl.q rfl (Qy.len T.sl59 rfl) ?_
    refine Wl.q rfl (Qy.move rfl) ?_
    refine Wl.done ?_
    refine Ar.next ?_
    refine Wc.block ?_
    refine Wc.loop (ι := Nat × Int × List U32) (fun (i, c, z) => ([(89, .int .i64 (i : Int)), (9, .int .u64 c), (88, Go.Value.int Go.IntKind.i64 (↑(List.length u) : Int)), (7, Go.Value.int Go.IntKind.u64 (gg - 1)), (0, Go.Value.slice (Option.some (Go.Addr.mk b (List.length p) Option.none)) (List.length u) cw), (1, Go.Value.slice v (List.length lv) cv), (5, Go.Value.int Go.IntKind.i64 (↑(List.length lv) : Int)), (4, Go.Value.int Go.IntKind.u32 0)], [(0, some b, Row 153 (p ++ (z ++ q)) junk)])) (fun (i, c, z) => i ≤ lw1.length ∧ z.length = lw1.length ∧ Lims z ∧ 0 ≤ c ∧ c ≤ 1 ∧ z.drop i = lw1.drop i ∧ valB (lw1.take i) + valB (lv.take i) = valB (z.take i) + pb i * c) (fun (i, c, z) => lw1.length - i) ((0, 0, lw1)) (⟨Nat.zero_le _, rfl, hld1, by decide, by decide, rfl, by rw [List.take_zero, List.take_zero, valB_nil, Int.mul_zero]⟩) ⟨rfl, rfl, rfl, rfl, rfl, rfl, rfl, rfl, trivial⟩ ⟨rfl, trivial⟩ (fun ⟨i, c, z⟩ => fun (hk : i ≤ lw1.length ∧ z.length = lw1.length ∧ Lims z ∧ 0 ≤ c ∧ c ≤ 1 ∧ z.drop i = lw1.drop i ∧ valB (lw1.take i) + valB (lv.take i) = valB (z.take i) + pb i * c) => ?_)
    obtain ⟨hi, hzn, hzd, hc0, hc1, hdrop, hval⟩ := hk
    rcases Nat.lt_or_ge i lw1.length with hia | hia
    · have hx : 0 ≤ (z[((i : Nat) : Int).toNat]?.getD default).v ∧ (z[((i : Nat) : Int).toNat]?.getD default).v < 4294967296 := lg_lt hzd (by omega)
      have ex : (z[((i : Nat) : Int).toNat]?.getD default).v = lg lw1 i := lg_drop hdrop
      rcases Nat.lt_or_ge i lv.length with hib | hib
      · have hy : 0 ≤ (lv[((i : Nat) : Int).toNat]?.getD default).v ∧ (lv[((i : Nat) : Int).toNat]?.getD default).v < 4294967296 := lg_lt dv hib
        refine Wc.seq ?_
        refine Wc.region rfl ?_
        refine Wl.q rfl (Qy.lss rfl rfl) ?_
        refine Wl.done ?_
        refine Ar.next ?_
        refine Wc.seq ?_
        refine Wc.condP rfl (by first | assumption | omega) ?_
        refine Wc.skip ?_
        refine Ar.next ?_
        refine Wc.seq ?_
        refine Wc.block ?_
        refine Wc.seq ?_
        refine Wc.region rfl ?_
        refine Wl.q rfl (Qy.move rfl) ?_
        refine Wl.q rfl (Qy.assign rfl) ?_
        refine Wl.done ?_
        refine Ar.next ?_
        refine Wc.seq ?_
        refine Wc.region rfl ?_
        refine Wl.q rfl (Qy.move rfl) ?_
        refine Wl.q rfl (Qy.move rfl) ?_
        refine Wl.q rfl (Qy.move rfl) ?_
        refine Wl.q rfl (Qy.indexAddr T.sl59 rfl rfl (by omega)) ?_
        refine Wl.q rfl (Qy.loadW 0 T.one153 rfl rfl (by omega)) ?_
        refine Wl.q rfl (Qy.conv64 rfl T.u151 rfl (by omega)) ?_
        refine Wl.q rfl (Qy.uadd64 rfl rfl (by omega)) ?_
        refine Wl.q rfl (Qy.assign rfl) ?_
        refine Wl.done ?_
        refine Ar.next ?_
        refine Wc.seq ?_
        refine Wc.seq ?_
        refine Wc.region rfl ?_
        refine Wl.q rfl (Qy.move rfl) ?_
        refine Wl.q rfl (Qy.move rfl) ?_
        refine Wl.q rfl (Qy.lss rfl rfl) ?_
        refine Wl.done ?_
        refine Ar.next ?_
        refine Wc.condP rfl (by first | assumption | omega) ?_
        refine Wc.region rfl ?_
        refine Wl.q rfl (Qy.move rfl) ?_
        refine Wl.q rfl (Qy.move rfl) ?_
        refine Wl.q rfl (Qy.move rfl) ?_
        refine Wl.q rfl (Qy.at (α := U32) T.sl59 rfl rfl (by assumption) (by omega)) ?_
        refine Wl.q rfl (Qy.loadG T.one153 rfl (Arr.cell (by assumption) (by omega) 0 rfl rfl)) ?_
        refine Wl.q rfl (Qy.conv64 rfl T.u151 rfl (by omega)) ?_
        refine Wl.q rfl (Qy.uadd64 rfl rfl (by omega)) ?_
        refine Wl.q rfl (Qy.assign rfl) ?_
        refine Wl.done ?_
        refine Ar.next ?_
        refine Wc.seq ?_
        refine Wc.region rfl ?_
        refine Wl.q rfl (Qy.move rfl) ?_
        refine Wl.q rfl (Qy.move rfl) ?_
        refine Wl.q rfl (Qy.move rfl) ?_
        refine Wl.q rfl (Qy.trunc32 rfl T.u153 rfl) ?_
        refine Wl.q rfl (Qy.indexAddr T.sl59 rfl rfl (by omega)) ?_
        refine Wl.setW 0 T.size153 rfl rfl rfl (by omega) ?_
        refine Wl.done ?_
        refine Ar.next ?_
        refine Wc.region rfl ?_
        refine Wl.q rfl (Qy.move rfl) ?_
        refine Wl.q rfl (Qy.shr32 rfl rfl (by omega)) ?_
        refine Wl.q rfl (Qy.assign rfl) ?_
        refine Wl.done ?_
        refine Ar.outNormal ?_
        refine Ar.next ?_
        refine Wc.region rfl ?_
        refine Wl.q rfl (Qy.add rfl rfl (by omega)) ?_
        refine Wl.q rfl (Qy.move rfl) ?_
        refine Wl.done ?_
        refine Ar.reH 0 (Row 153 (p ++ (z.set i (⟨(c + (z[((i : Nat) : Int).toNat]?.getD default).v + (lv[((i : Nat) : Int).toNat]?.getD default).v) % 4294967296⟩ : U32) ++ q)) junk) rfl (by rw [Int.toNat_natCast]) ?_
        refine Ar.again ((i + 1, (c + (z[((i : Nat) : Int).toNat]?.getD default).v + (lv[((i : Nat) : Int).toNat]?.getD default).v) / 4294967296, z.set i (⟨(c + (z[((i : Nat) : Int).toNat]?.getD default).v + (lv[((i : Nat) : Int).toNat]?.getD default).v) % 4294967296⟩ : U32))) ?_ ?_ rfl ⟨rfl, rfl, rfl, rfl, rfl, rfl, rfl, rfl, trivial⟩ ⟨rfl, trivial⟩
        · exact ⟨by omega, by rw [List.length_set]; exact hzn, lims_set hzd _ (mod32 _), by omega, by omega, bdrop_next hdrop _, add_next (by omega) hval (by rw [ex]; rfl)⟩
        · show lw1.length - (i + 1) < lw1.length - i
          omega
      · have hz0 := lg_end hib
        refine Wc.seq ?_
        refine Wc.region rfl ?_
        refine Wl.q rfl (Qy.lss rfl rfl) ?_
        refine Wl.done ?_
        refine Ar.next ?_
        refine Wc.seq ?_
        refine Wc.condP rfl (by first | assumption | omega) ?_
        refine Wc.skip ?_
        refine Ar.next ?_
        refine Wc.seq ?_
        refine Wc.block ?_
        refine Wc.seq ?_
        refine Wc.region rfl ?_
        refine Wl.q rfl (Qy.move rfl) ?_
        refine Wl.q rfl (Qy.assign rfl) ?_
        refine Wl.done ?_
        refine Ar.next ?_
        refine Wc.seq ?_
        refine Wc.region rfl ?_
        refine Wl.q rfl (Qy.move rfl) ?_
        refine Wl.q rfl (Qy.move rfl) ?_
        refine Wl.q rfl (Qy.move rfl) ?_
        refine Wl.q rfl (Qy.indexAddr T.sl59 rfl rfl (by omega)) ?_
        refine Wl.q rfl (Qy.loadW 0 T.one153 rfl rfl (by omega)) ?_
        refine Wl.q rfl (Qy.conv64 rfl T.u151 rfl (by omega)) ?_
        refine Wl.q rfl (Qy.uadd64 rfl rfl (by omega)) ?_
        refine Wl.q rfl (Qy.assign rfl) ?_
        refine Wl.done ?_
        refine Ar.next ?_
        refine Wc.seq ?_
        refine Wc.seq ?_
        refine Wc.region rfl ?_
        refine Wl.q rfl (Qy.move rfl) ?_
        refine Wl.q rfl (Qy.move rfl) ?_
        refine Wl.q rfl (Qy.lss rfl rfl) ?_
        refine Wl.done ?_
        refine Ar.next ?_
        refine Wc.condN rfl (by first | assumption | omega) ?_
        refine Wc.skip ?_
        refine Ar.next ?_
        refine Wc.seq ?_
        refine Wc.region rfl ?_
        refine Wl.q rfl (Qy.move rfl) ?_
        refine Wl.q rfl (Qy.move rfl) ?_
        refine Wl.q rfl (Qy.move rfl) ?_
        refine Wl.q rfl (Qy.trunc32 rfl T.u153 rfl) ?_
        refine Wl.q rfl (Qy.indexAddr T.sl59 rfl rfl (by omega)) ?_
        refine Wl.setW 0 T.size153 rfl rfl rfl (by omega) ?_
        refine Wl.done ?_
        refine Ar.next ?_
        refine Wc.region rfl ?_
        refine Wl.q rfl (Qy.move rfl) ?_
        refine Wl.q rfl (Qy.shr32 rfl rfl (by omega)) ?_
        refine Wl.q rfl (Qy.assign rfl) ?_
        refine Wl.done ?_
        refine Ar.outNormal ?_
        refine Ar.next ?_
        refine Wc.region rfl ?_
        refine Wl.q rfl (Qy.add rfl rfl (by omega)) ?_
        refine Wl.q rfl (Qy.move rfl) ?_
        refine Wl.done ?_
        refine Ar.reH 0 (Row 153 (p ++ (z.set i (⟨(c + (z[((i : Nat) : Int).toNat]?.getD default).v) % 4294967296⟩ : U32) ++ q)) junk) rfl (by rw [Int.toNat_natCast]) ?_
        refine Ar.again ((i + 1, (c + (z[((i : Nat) : Int).toNat]?.getD default).v) / 4294967296, z.set i (⟨(c + (z[((i : Nat) : Int).toNat]?.getD default).v) % 4294967296⟩ : U32))) ?_ ?_ rfl ⟨rfl, rfl, rfl, rfl, rfl, rfl, rfl, rfl, trivial⟩ ⟨rfl, trivial⟩
        · exact ⟨by omega, by rw [List.length_set]; exact hzn, lims_set hzd _ (mod32 _), by omega, by omega, bdrop_next hdrop _, add_next (by omega) hval (by rw [ex, hz0, Int.add_zero])⟩
        · show lw1.length - (i + 1) < lw1.length - i
          omega
    · have hii : i = lw1.length := by omega
      subst hii
      have hvl := valB_lt dv
      have hpl := pb_le (show lv.length ≤ lw1.length by omega)
      have hback := back_end (g := gg) (u := u) (n := lw1.length) (by omega) hg4 hover rfl hzn (by omega) (by omega) hzd ⟨hc0, hc1⟩ hval
      refine Wc.seq ?_
      refine Wc.region rfl ?_
      refine Wl.q rfl (Qy.lss rfl rfl) ?_
      refine Wl.done ?_
      refine Ar.next ?_
      refine Wc.seq ?_
      refine Wc.condN rfl (by first | assumption | omega) ?_
      refine Wc.exit ?_
      refine Ar.passExit ?_
      refine Ar.passExit ?_
      refine Ar.here ?_
      refine Ar.next ?_
      refine Wc.seq ?_
      refine Wc.region rfl ?_
      refine Wl.q rfl (Qy.move rfl) ?_
      refine Wl.q rfl (Qy.conv32 rfl T.u153 rfl (by omega)) ?_
      refine Wl.q rfl (Qy.assign rfl) ?_
      refine Wl.done ?_
      refine Ar.next ?_
      refine Wc.ret ?_
      refine Ar.scopeR ?_
      refine Ar.out1 (.inr rfl) (Ho := Hp.only _ [0]) rfl (.tmp rfl) (Hp.sub_only _ _) ?_
      refine ⟨z, gg - 1, rfl, rfl, rfl, by omega, by omega, by omega, hzd, hback, ?_⟩
      rw [Int.sub_mul, Int.one_mul] at hback
      omega
end Go.Proofs.Ytbppmiimeccclaa
