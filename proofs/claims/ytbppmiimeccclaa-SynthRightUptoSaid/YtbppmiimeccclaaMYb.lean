/- Parts of the proof (part 2): what the rows' text needs of the texts that lead to it. -/
import Derived.Test.YtbppmiimeccclaaMYa
set_option linter.unusedVariables false
namespace Go.Sl
open Go
def Lims (l : List U32) : Prop := ∀ d ∈ l, 0 ≤ d.v ∧ d.v < 4294967296
def valB : List U32 → Int
  | [] => 0
  | d :: l => d.v + 4294967296 * valB l
def pb (n : Nat) : Int := ((4294967296 ^ n : Nat) : Int)
theorem pb_zero : pb 0 = 1 := rfl
theorem pb_succ (n : Nat) : pb (n + 1) = 4294967296 * pb n := by unfold pb; rw [Nat.pow_succ, Nat.mul_comm, Int.natCast_mul]; rfl
theorem pb_pos (n : Nat) : 0 < pb n := by unfold pb; exact Int.ofNat_lt.2 (Nat.pow_pos (by decide))
theorem pb_add (m n : Nat) : pb (m + n) = pb m * pb n := by unfold pb; rw [Nat.pow_add, Int.natCast_mul]
theorem pb_le {m n : Nat} (h : m ≤ n) : pb m ≤ pb n := by unfold pb; exact Int.ofNat_le.2 (Nat.pow_le_pow_right (by decide) h)
theorem valB_nil : valB [] = 0 := rfl
theorem valB_cons (d : U32) (l : List U32) : valB (d :: l) = d.v + 4294967296 * valB l := rfl
theorem Lims.nil : Lims [] := fun d h => by simp at h
theorem Lims.tail {d : U32} {l : List U32} (h : Lims (d :: l)) : Lims l := fun x hx => h x (List.mem_cons_of_mem _ hx)
theorem Lims.head {d : U32} {l : List U32} (h : Lims (d :: l)) : 0 ≤ d.v ∧ d.v < 4294967296 := h d List.mem_cons_self
theorem Lims.append {l m : List U32} (h : Lims l) (h' : Lims m) : Lims (l ++ m) := fun x hx => by
  rcases List.mem_append.1 hx with h1 | h1
  · exact h x h1
  · exact h' x h1
theorem Lims.one {d : Int} (h : 0 ≤ d ∧ d < 4294967296) : Lims [⟨d⟩] := fun x hx => by
  have : x = ⟨d⟩ := by simpa using hx
  subst this; exact h
theorem Lims.take {l : List U32} (h : Lims l) (n : Nat) : Lims (l.take n) := fun x hx => h x (List.mem_of_mem_take hx)
theorem Lims.at {l : List U32} (h : Lims l) {m : Int} (hm : 0 ≤ m ∧ m < l.length) : 0 ≤ (l[m.toNat]?.getD default).v ∧ (l[m.toNat]?.getD default).v < 4294967296 := by
  have hl : m.toNat < l.length := by omega
  rw [List.getElem?_eq_getElem hl]; exact h _ (List.getElem_mem hl)
theorem valB_nonneg : ∀ {l : List U32}, Lims l → 0 ≤ valB l
  | [], _ => Int.le_refl 0
  | d :: l, h => by
    have h1 := valB_nonneg h.tail
    have h2 := h.head
    rw [valB_cons]; omega
theorem valB_lt : ∀ {l : List U32}, Lims l → valB l < pb l.length
  | [], _ => by decide
  | d :: l, h => by
    have h1 := valB_lt h.tail
    have h2 := h.head
    rw [valB_cons, List.length_cons, pb_succ]; omega
theorem valB_append : ∀ (l m : List U32), valB (l ++ m) = valB l + pb l.length * valB m
  | [], m => by rw [List.nil_append, valB_nil, List.length_nil, pb_zero]; omega
  | d :: l, m => by
    rw [List.cons_append, valB_cons, valB_cons, valB_append l m, List.length_cons, pb_succ, Int.mul_add, ← Int.mul_assoc]; omega
theorem valB_one (d : U32) : valB [d] = d.v := by rw [valB_cons, valB_nil]; omega
theorem valB_snoc (l : List U32) (d : U32) : valB (l ++ [d]) = valB l + pb l.length * d.v := by rw [valB_append, valB_one]
theorem valB_take_succ {l : List U32} {k : Nat} (h : k < l.length) : valB (l.take (k + 1)) = valB (l.take k) + pb k * (l[((k : Nat) : Int).toNat]?.getD default).v := by
  rw [List.take_add_one, Int.toNat_natCast, List.getElem?_eq_getElem h]
  simp only [Option.toList_some, Option.getD_some]
  rw [valB_snoc, List.length_take, Nat.min_eq_left (Nat.le_of_lt h)]
theorem valB_replicate (n : Nat) : valB (List.replicate n ⟨0⟩) = 0 := by
  induction n with
  | zero => rfl
  | succ n ih => rw [List.replicate_succ, valB_cons, ih]; rfl
theorem Lims.zeros (n : Nat) : Lims (List.replicate n ⟨0⟩) := fun x hx => by
  have := List.eq_of_mem_replicate hx
  subst this; exact ⟨by decide, by decide⟩
/-- noughts at the top count nothing -/
theorem valB_trim {l : List U32} {n : Nat} (h : ∀ j, n ≤ j → j < l.length → (l[j]?.getD default).v = 0) : valB (l.take n) = valB l := by
  rcases Nat.lt_or_ge n l.length with hn | hn
  · have e : l = l.take n ++ l.drop n := (List.take_append_drop n l).symm
    have hz : ∀ (m : List U32), (∀ j, j < m.length → (m[j]?.getD default).v = 0) → valB m = 0 := by
      intro m
      induction m with
      | nil => intro _; rfl
      | cons d m ih =>
        intro h0
        have h1 := h0 0 (by simp)
        simp only [List.getElem?_cons_zero, Option.getD_some] at h1
        rw [valB_cons, h1, ih fun j hj => by have := h0 (j + 1) (by simpa using hj); simpa using this]; rfl
    have h2 : valB (l.drop n) = 0 := hz _ fun j hj => by
      rw [List.getElem?_drop]
      exact h (n + j) (by omega) (by rw [List.length_drop] at hj; omega)
    have h3 : valB l = valB (l.take n ++ l.drop n) := by rw [List.take_append_drop]
    rw [h3, valB_append, h2]; omega
  · rw [take_all hn]
theorem ltop_ge {l : List U32} (hd : Lims l) (ht : Top l) (h0 : l ≠ []) : pb (l.length - 1) ≤ valB l := by
  have hl : 0 < l.length := List.length_pos_iff.2 h0
  have h1 : (l[l.length - 1]?.getD default).v ≠ 0 := by
    rcases ht with h | h
    · exact absurd h h0
    · exact h
  have h2 := valB_take_succ (l := l) (k := l.length - 1) (by omega)
  rw [Nat.sub_add_cancel hl, take_all (Nat.le_refl _), Int.toNat_natCast] at h2
  have h3 := valB_nonneg (hd.take (l.length - 1))
  have h4 : (1 : Int) ≤ (l[l.length - 1]?.getD default).v := by
    have := hd.at (m := ((l.length - 1 : Nat) : Int)) (by omega)
    rw [Int.toNat_natCast] at this
    omega
  have h5 := Int.mul_le_mul_of_nonneg_left h4 (Int.le_of_lt (pb_pos (l.length - 1)))
  omega
theorem ltop_len {l : List U32} (hd : Lims l) (ht : Top l) {m : Nat} (h : valB l < pb m) : l.length ≤ m := by
  by_cases h0 : l = []
  · subst h0; exact Nat.zero_le _
  · have h1 := ltop_ge hd ht h0
    rcases Nat.lt_or_ge m l.length with h2 | h2
    · have h3 := pb_le (show m ≤ l.length - 1 by omega)
      omega
    · exact h2
theorem ltop_pos {l : List U32} (hd : Lims l) (ht : Top l) (h0 : l ≠ []) : 0 < valB l := Int.lt_of_lt_of_le (pb_pos _) (ltop_ge hd ht h0)
/-- sign and digits of a whole number -/
structure IsBig (neg : Bool) (l : List U32) (z : Int) : Prop where
  digs : Lims l
  top : Top l
  sign : l = [] → neg = false
  val : z = if neg = true then -valB l else valB l
theorem IsBig.abs {neg : Bool} {l : List U32} {z : Int} (h : IsBig neg l z) : valB l = z.natAbs := by
  have h1 := valB_nonneg h.digs
  have h2 := h.val
  split at h2 <;> omega
theorem IsBig.neg_iff {neg : Bool} {l : List U32} {z : Int} (h : IsBig neg l z) : neg = decide (z < 0) := by
  have h2 := h.val
  by_cases h0 : l = []
  · have h3 := h.sign h0
    subst h0
    rw [h3] at h2 ⊢
    rw [valB_nil] at h2
    have : ¬ z < 0 := by simp at h2; omega
    simp [this]
  · have h1 := ltop_pos h.digs h.top h0
    cases neg with
    | true =>
      rw [if_pos rfl] at h2
      have : z < 0 := by omega
      simp [this]
    | false =>
      rw [if_neg (by decide)] at h2
      have : ¬ z < 0 := by omega
      simp [this]
theorem IsBig.zero_iff {neg : Bool} {l : List U32} {z : Int} (h : IsBig neg l z) : l.length = 0 ↔ z = 0 := by
  have h2 := h.val
  constructor
  · intro h0
    have h0 := List.eq_nil_of_length_eq_zero h0
    subst h0
    rw [valB_nil] at h2
    split at h2 <;> omega
  · intro hz
    by_cases h0 : l = []
    · rw [h0]; rfl
    · have h1 := ltop_pos h.digs h.top h0
      split at h2 <;> omega
theorem IsBig.len {neg : Bool} {l : List U32} {z : Int} (h : IsBig neg l z) {m : Nat} (hz : (z.natAbs : Int) < pb m) : l.length ≤ m := by
  refine ltop_len h.digs h.top ?_
  rw [h.abs]; exact hz
/-- what a handle stands for -/
def Big (G : Imm) (x : IV) (z : Int) : Prop := ∃ l : List U32, l.length = x.n ∧ x.n ≤ x.c ∧ Arr G x.a l ∧ IsBig x.neg l z
theorem Big.up {G G' : Imm} {x : IV} {z : Int} (h : Big G x z) (hl : G.le G') : Big G' x z := by
  obtain ⟨l, h1, h0, h2, h3⟩ := h
  exact ⟨l, h1, h0, h2.up hl, h3⟩
theorem Big.zero (G : Imm) : Big G ⟨false, none, 0, 0⟩ 0 := ⟨[], rfl, Nat.le_refl _, Arr.nil G, ⟨Lims.nil, Top.nil, fun _ => rfl, rfl⟩⟩
end Go.Sl
set_option linter.unusedVariables false
namespace Go.Sl
open Go
section
variable {P : Program} {e : Env} {H : Hp} {G : Imm} {ty : TypeId} {t t' : TypeId} {x y : Operand} {m n : Int} {k : IntKind}
theorem Qy.shr32 (hx : e.ev x = some (.int .u64 m)) (hy : e.ev y = some (.int k 32)) (h0 : 0 ≤ m) : Qy P (.binOp .shr t x y t') ty e H G (.int .u64 (m / 4294967296)) := by
  have h := Qy.shr (P := P) (H := H) (G := G) (ty := ty) (t := t) (t' := t') hx hy (by decide)
  have e1 : m.fdiv (2 ^ (Min.min (32 : Int).toNat IntKind.u64.bits)) = m / 4294967296 := by
    rw [show Min.min (32 : Int).toNat IntKind.u64.bits = 32 by decide]
    exact Int.fdiv_eq_ediv_of_nonneg _ (by decide)
  rw [e1] at h; exact h
theorem Qy.trunc32 {s : TypeId} (hs : (P.underlying s).isSome = true) (ht : P.underlying t = some (.int .u32)) (hx : e.ev x = some (.int .u64 m)) : Qy P (.convert s t x) ty e H G (.int .u32 (m % 4294967296)) := by
  have h := Qy.conv (P := P) (H := H) (G := G) (ty := ty) hs ht hx
  rw [IntKind.wrap_u32] at h
  exact h
end
end Go.Sl
set_option linter.unusedVariables false
namespace Go.Sl
open Go
theorem bcarry (P s : Int) : P * (s % 4294967296) + 4294967296 * P * (s / 4294967296) = P * s := by
  have h := Int.emod_add_mul_ediv s 4294967296
  have e : 4294967296 * P * (s / 4294967296) = P * (4294967296 * (s / 4294967296)) := by rw [Int.mul_comm 4294967296 P, Int.mul_assoc]
  rw [e, ← Int.mul_add, h]
/-- a limb, nought behind the end -/
def lg (l : List U32) (i : Nat) : Int := (l[((i : Nat) : Int).toNat]?.getD default).v
theorem lg_lt {l : List U32} (h : Lims l) {i : Nat} (hi : i < l.length) : 0 ≤ lg l i ∧ lg l i < 4294967296 := h.at (by omega)
theorem lg_end {l : List U32} {i : Nat} (hi : l.length ≤ i) : lg l i = 0 := by
  unfold lg; rw [Int.toNat_natCast, List.getElem?_eq_none hi]; rfl
theorem lg_set_ne {l : List U32} {i j : Nat} (h : i ≠ j) (d : U32) : lg (l.set i d) j = lg l j := by
  unfold lg
  rw [Int.toNat_natCast, List.getElem?_set_ne h]
theorem bval_step (l : List U32) (i : Nat) : valB (l.take (i + 1)) = valB (l.take i) + pb i * lg l i := by
  rcases Nat.lt_or_ge i l.length with h | h
  · exact valB_take_succ h
  · rw [take_all h, take_all (by omega), lg_end h, Int.mul_zero, Int.add_zero]
theorem valB_set : ∀ (l : List U32) (k : Nat) (d : U32), k < l.length → valB (l.set k d) = valB l + pb k * (d.v - lg l k)
  | [], k, d, h => by simp at h
  | x :: l, 0, d, _ => by
    rw [List.set_cons_zero, valB_cons, valB_cons, pb_zero]
    show _ = _ + 1 * (d.v - x.v)
    omega
  | x :: l, k + 1, d, h => by
    have ih := valB_set l k d (by simpa using h)
    have e : lg (x :: l) (k + 1) = lg l k := by unfold lg; rw [Int.toNat_natCast, Int.toNat_natCast, List.getElem?_cons_succ]
    rw [List.set_cons_succ, valB_cons, valB_cons, ih, pb_succ, e, Int.mul_add, ← Int.mul_assoc]
    omega
theorem lims_set {l : List U32} (h : Lims l) (k : Nat) {s : Int} (hs : 0 ≤ s ∧ s < 4294967296) : Lims (l.set k ⟨s⟩) := fun d hd => by
  rcases List.mem_or_eq_of_mem_set hd with h1 | h1
  · exact h d h1
  · subst h1; exact hs
theorem mod32 (s : Int) : 0 ≤ s % 4294967296 ∧ s % 4294967296 < 4294967296 := ⟨Int.emod_nonneg _ (by decide), Int.emod_lt_of_pos _ (by decide)⟩
/-- so many limbs are left, if the noughts at the top are struck -/
def Trim (l : List U32) (n : Nat) : Prop := n ≤ l.length ∧ (∀ j, n ≤ j → j < l.length → (l[j]?.getD default).v = 0) ∧ (n = 0 ∨ (l[n - 1]?.getD default).v ≠ 0)
theorem Trim.val {l : List U32} {n : Nat} (h : Trim l n) : valB (l.take n) = valB l := valB_trim h.2.1
theorem Trim.top {l : List U32} {n : Nat} (h : Trim l n) : Top (l.take n) := by
  obtain ⟨h1, h2, h3⟩ := h
  rcases h3 with h3 | h3
  · subst h3; exact .inl rfl
  · by_cases h0 : n = 0
    · subst h0; exact .inl rfl
    · refine .inr ?_
      rw [List.length_take, Nat.min_eq_left h1, List.getElem?_take, if_pos (by omega)]
      exact h3
theorem Trim.len {l : List U32} {n : Nat} (h : Trim l n) : (l.take n).length = n := by rw [List.length_take, Nat.min_eq_left h.1]
theorem Trim.pos {l : List U32} {n : Nat} (h : Trim l n) (hd : Lims l) : 0 < n ↔ 0 < valB l := by
  rw [← h.val]
  constructor
  · intro h0
    exact ltop_pos (hd.take n) h.top (fun e => by have := h.len; rw [e] at this; simp at this; omega)
  · intro h0
    rcases Nat.eq_zero_or_pos n with h1 | h1
    · rw [h1, List.take_zero, valB_nil] at h0; omega
    · exact h1
theorem barr_sub {α : Type} [Cells α] {G : Imm} {a : Option Addr} {c sz : Nat} {l : List α} (h : Arr G a l) (n : Nat) : Arr G (subA a c 0 sz) (l.take n) := by
  refine ⟨flat_length _, ?_⟩
  rcases h.2 with h0 | ⟨b, o, rfl, hr⟩
  · left; rw [List.length_take]; omega
  · refine .inr ⟨b, o, ?_, fun i v hi => hr i v ?_⟩
    · unfold subA
      split
      · rfl
      · simp [Addr.add]
    · have e : flat l = flat (l.take n) ++ flat (l.drop n) := by rw [← flat_append, List.take_append_drop]
      rw [e, List.getElem?_append_left (List.getElem?_eq_some_iff.1 hi).1]; exact hi
/-- the product's next limb -/
theorem bmul_next {r lb : List U32} {i j : Nat} {c s x A : Int} (hk : i + j < r.length) (hv : valB r + pb (i + j) * c = A + pb i * (x * valB (lb.take j))) (hs : s = c + (x * lg lb j + lg r (i + j))) :
    valB (r.set (i + j) ⟨s % 4294967296⟩) + pb (i + (j + 1)) * (s / 4294967296) = A + pb i * (x * valB (lb.take (j + 1))) := by
  rw [valB_set r (i + j) ⟨s % 4294967296⟩ hk, bval_step, ← Nat.add_assoc, pb_succ]
  have h1 := bcarry (pb (i + j)) s
  have h2 : pb (i + j) * s = pb (i + j) * c + (pb (i + j) * (x * lg lb j) + pb (i + j) * lg r (i + j)) := by rw [hs, Int.mul_add, Int.mul_add]
  have h3 : pb i * (x * (valB (lb.take j) + pb j * lg lb j)) = pb i * (x * valB (lb.take j)) + pb (i + j) * (x * lg lb j) := by
    rw [Int.mul_add, Int.mul_add, pb_add]
    congr 1
    rw [Int.mul_assoc, ← Int.mul_assoc x, Int.mul_comm x (pb j), Int.mul_assoc]
  have h4 : pb (i + j) * (s % 4294967296 - lg r (i + j)) = pb (i + j) * (s % 4294967296) - pb (i + j) * lg r (i + j) := Int.mul_sub _ _ _
  show valB r + pb (i + j) * (s % 4294967296 - lg r (i + j)) + 4294967296 * pb (i + j) * (s / 4294967296) = _
  rw [h3, h4]
  omega
/-- the last carry is laid where nought stands -/
theorem bmul_end {la lb r : List U32} {i : Nat} {c : Int} (hk : i + lb.length < r.length) (hz : lg r (i + lb.length) = 0) (hv : valB r + pb (i + lb.length) * c = valB (la.take i) * valB lb + pb i * (lg la i * valB (lb.take lb.length))) :
    valB (r.set (i + lb.length) ⟨c⟩) = valB (la.take (i + 1)) * valB lb := by
  rw [valB_set r _ _ hk, hz, take_all (Nat.le_refl _)] at *
  show valB r + pb (i + lb.length) * (c - 0) = _
  rw [Int.sub_zero, hv, bval_step, Int.add_mul, Int.mul_assoc]
theorem bmul_small {x y : Int} (hx : 0 ≤ x ∧ x < 4294967296) (hy : 0 ≤ y ∧ y < 4294967296) : 0 ≤ x * y ∧ x * y ≤ 18446744065119617025 := by
  refine ⟨Int.mul_nonneg hx.1 hy.1, ?_⟩
  have h1 : x * y ≤ 4294967295 * y := Int.mul_le_mul_of_nonneg_right (by omega) hy.1
  omega
end Go.Sl
set_option linter.unusedVariables false
namespace Go.Sl
open Go
section
variable {P : Program} {ops : Array Oper} {rest : List Oper} {B : Bs} {e : Env} {D : List Deferred} {H : Hp} {G : Imm} {K : Act → World → Prop}
  {ty : TypeId} {pos : String} {after : Array Edge} {d : Nat}
theorem Qy.cutHM {T : TypeId} {x hi mx : Operand} {a : Option Addr} {n c E sz : Nat} {k k' : IntKind} {m m' : Int} (hT : isSlice P T E sz) (hx : e.ev x = some (.slice a n c)) (hh : e.ev hi = some (.int k m)) (hh' : e.ev mx = some (.int k' m')) (h0 : 0 ≤ m) (h1 : m ≤ m') (h2 : m' ≤ c) :
    Qy P (.slice T x none (some hi) (some mx)) ty e H G (.slice (subA a m'.toNat 0 sz) m.toNat m'.toNat) := fun ac w _ _ _ _ hk => by
  have hr := run_sizeOf (P := P) w hT.2
  have hu : P.underlying T = some (.slice (P.elem T)) := by simp [Program.elem, hT.1]
  have he : P.elem T = E := by simp [Program.elem, hT.1]
  have := run_slice_hm (P := P) (w := w) T a n c hu k k' m m' h0 h1 h2
  simp only [execOp, hk.eval hx, Option.map_some, Option.map_none, hk.eval hh, hk.eval hh', Sem.run_bind, run_sliceAt_slice (P := P) (w := w) T _ _ _ _ hu, this, he, hr, Result.andThen_ok, Sem.run_pure, sliced, subA, Nat.sub_zero]
end
end Go.Sl
set_option linter.unusedVariables false
namespace Go.Sl
open Go
section
variable {P : Program} {ops : Array Oper} {rest : List Oper} {B : Bs} {e : Env} {D : List Deferred} {H : Hp} {G : Imm} {K : Act → World → Prop}
  {ty : TypeId} {pos : String} {after : Array Edge} {d : Nat} {α : Type} [Cells α]
theorem run_copyRow {w : World} (hw : HoldH H G w) {T T2 E : Nat} (hT : isSlice P T E (Cells.sz α)) {t b : Nat} {ad : Option Addr} {c c2 : Nat} {xs ys : List α} {junk : List Value}
    (ht : H.get t = some (some b, Row E xs junk)) (hsrc : Src H G ad ys) (hle : ys.length ≤ xs.length) :
    ∃ w', (Builtin.copy_ #[T, T2] ty #[.slice (some ⟨b, 0, none⟩) xs.length c, .slice ad ys.length c2]).run P w = .ok (.int .i64 (ys.length : Int)) w' ∧ Upd (· = b) w w' ∧ w'.heap[b]? = some (Row E (ys ++ xs.drop ys.length) junk) := by
  have hb := hw.own t b _ ht
  have hmin : Nat.min ys.length xs.length = ys.length := Nat.min_eq_left hle
  cases hq : P.info? E with
  | none => have := hT.2; simp [hq] at this
  | some i =>
    have hi : i.size = Cells.sz α := by have := hT.2; simpa [hq] using this
    rcases hsrc w hw with ⟨rfl, rfl⟩ | ⟨src, rfl, hsr⟩
    · refine ⟨w, ?_, Upd.refl _ _, by simpa using hb⟩
      have hm0 : Nat.min (0 : Nat) xs.length = 0 := Nat.zero_min _
      simp [Builtin.copy_, run_underlying hT.1, Builtin.lenOf, Builtin.firstCells, sizeOf, typeInfo, hq, storeCells, hm0, goInt]
    · have hl := run_loadCells_list (P := P) w src (flat ys) hsr
      have hfy : (flat ys).length = ys.length * Cells.sz α := flat_length ys
      have hfx : (flat xs).length = xs.length * Cells.sz α := flat_length xs
      have hmul := Nat.mul_le_mul_right (Cells.sz α) hle
      have hfit : 0 + 0 + (flat ys).length ≤ ((flat xs ++ junk).toArray).size := by
        rw [List.size_toArray, List.length_append]; omega
      have hst := run_storeCells_at P b 0 E (flat ys) 0 (flat xs ++ junk).toArray w hb hfit (fun v hv => List.all_eq_true.1 (flat_all ys) v hv)
      refine ⟨_, ?_, setRow_upd w b (((flat xs ++ junk).toArray.toList.take (0 + 0) ++ flat ys ++ (flat xs ++ junk).toArray.toList.drop (0 + 0 + (flat ys).length)).toArray), ?_⟩
      · rw [hfy] at hl
        simp [Builtin.copy_, run_underlying hT.1, Builtin.lenOf, Builtin.firstCells, sizeOf, typeInfo, hq, hi, hmin, hl, hst, goInt]
      · rw [setRow_heap w b _ _ E _ hb]
        have hsplit : flat xs = flat (xs.take ys.length) ++ flat (xs.drop ys.length) := by rw [← flat_append, List.take_append_drop]
        have htl : (flat (xs.take ys.length)).length = (flat ys).length := by rw [flat_length, flat_length, List.length_take, Nat.min_eq_left hle]
        unfold Row
        rw [flat_append]
        simp only [Nat.add_zero, Nat.zero_add, List.take_zero, List.nil_append]
        rw [hsplit, List.append_assoc, ← htl, List.drop_left, List.append_assoc]
theorem Wl.copyRow {x y : Operand} {T T2 E b : Nat} {ad : Option Addr} {c c2 : Nat} {xs ys : List α} {junk : List Value} (t : Nat) (hn : Nat.ble (d + 1) B.n = true) (hT : isSlice P T E (Cells.sz α))
    (hx : e.ev x = some (.slice (some ⟨b, 0, none⟩) xs.length c)) (hy : e.ev y = some (.slice ad ys.length c2)) (ht : H.get t = some (some b, Row E xs junk)) (hsrc : Src H G ad ys) (hle : ys.length ≤ xs.length)
    (h : Wl P ops rest B ⟨(d, .int .i64 (ys.length : Int)) :: e, D, (t, some b, Row E (ys ++ xs.drop ys.length) junk) :: H, G⟩ K) :
    Wl P ops (⟨some d, .call { callee := .builtin .copy, args := #[x, y], argTypes := #[T, T2] }, ty, pos, after, none⟩ :: rest) B ⟨e, D, H, G⟩ K := by
  refine Wl.writes (v := .int .i64 (ys.length : Int)) (x := .value (.int .i64 (ys.length : Int))) ht (.inr ⟨rfl, d, rfl, hn⟩) (fun a w hh => ?_) h
  obtain ⟨w', hrun, hu, hb⟩ := run_copyRow (c := c) (c2 := c2) (T2 := T2) (ty := ty) hh.mem hT ht hsrc hle
  refine ⟨w', ?_, hu, hb⟩
  simp only [execOp, resolve, invoke, builtin, Sem.run_bind, Sem.run_pure, Result.andThen_ok, List.map_toArray, List.map_cons, List.map_nil, hh.eval hx, hh.eval hy, hrun]
end
end Go.Sl
set_option maxRecDepth 100000
set_option linter.unusedVariables false
namespace Go.Proofs.Ytbppmiimeccclaa
open Go Go.Sl
set_option maxHeartbeats 4000000
/-- what a comparison answers -/
def cmpZ (x y : Int) : Int := if x < y then -1 else if y < x then 1 else 0
theorem cmpZ_lt {x y : Int} (h : x < y) : cmpZ x y = -1 := if_pos h
theorem cmpZ_gt {x y : Int} (h : y < x) : cmpZ x y = 1 := by unfold cmpZ; rw [if_neg (by omega), if_pos h]
theorem cmpZ_eq {x y : Int} (h : x = y) : cmpZ x y = 0 := by unfold cmpZ; rw [if_neg (by omega), if_neg (by omega)]
theorem cmpZ_congr {x y u v : Int} (h1 : x < y ↔ u < v) (h2 : y < x ↔ v < u) : cmpZ x y = cmpZ u v := by unfold cmpZ; simp only [h1, h2]
theorem trim_val {l m : List U32} (he : m = l.take m.length) (ht : Trim l m.length) : valB m = valB l := by rw [he]; exact ht.val
theorem trim_top {l m : List U32} (he : m = l.take m.length) (ht : Trim l m.length) : Top m := by rw [he]; exact ht.top
theorem trim_lims {l m : List U32} (he : m = l.take m.length) (hd : Lims l) : Lims m := by rw [he]; exact hd.take _
attribute [local irreducible] valB pb cmpZ
/-- the noughts at the top are struck -/
theorem c142 (G : Imm) (a : Option Addr) (c : Nat) (l : List U32) (hl : Arr G a l) (hb : l.length ≤ 1099511627776) (hc : l.length ≤ c) :
    Does Try.prog 142 [.slice a l.length c] G [] (fun v G' Ho => ∃ (b : Option Addr) (m : List U32), v = .slice b m.length m.length ∧ Arr G b m ∧ m = l.take m.length ∧ Trim l m.length ∧ m.length ≤ l.length ∧ G' = G ∧ Ho = []) := by
  refine Does.enter Try.func142 rfl Try.ntmps142 rfl (fun w => ?_)
  refine Wc.seq ?_
  refine Wc.region rfl ?_
  refine Wl.q rfl (Qy.assign rfl) ?_
  refine Wl.done ?_
  refine Ar.next ?_
  refine Wc.seq ?_
  refine Wc.region rfl ?_
  refine Wl.q rfl (Qy.move rfl) ?_
  refine Wl.q rfl (Qy.len T.sl59 rfl) ?_
  refine Wl.q rfl (Qy.assign rfl) ?_
  refine Wl.done ?_
  refine Ar.next ?_
  refine Wc.seq ?_
  refine Wc.block ?_
  refine Wc.loop (ι := Nat) (fun n => ([(3, .int .i64 (n : Int)), (2, Go.Value.slice Option.none 0 0), (0, Go.Value.slice a (List.length l) c)], [])) (fun n => n ≤ l.length ∧ (∀ j, n ≤ j → j < l.length → (l[j]?.getD default).v = 0)) (fun n => n) (l.length) (⟨Nat.le_refl _, fun j h1 h2 => absurd h2 (by omega)⟩) ⟨rfl, rfl, rfl, trivial⟩ trivial (fun n => fun (hk : n ≤ l.length ∧ (∀ j, n ≤ j → j < l.length → (l[j]?.getD default).v = 0)) => ?_)
  obtain ⟨hn, hz⟩ := hk
  have done : (n = 0 ∨ (l[n - 1]?.getD default).v ≠ 0) → ∃ (b : Option Addr) (m : List U32), Value.slice (subA a n 0 1) n n = .slice b m.length m.length ∧ Arr G b m ∧ m = l.take m.length ∧ Trim l m.length ∧ m.length ≤ l.length ∧ G = G ∧ ([] : Hp) = [] := fun ht => by
    have e : (l.take n).length = n := by rw [List.length_take, Nat.min_eq_left hn]
    refine ⟨subA a n 0 1, l.take n, by rw [e], barr_sub hl n, by rw [e], ?_, by rw [e]; exact hn, rfl, rfl⟩
    rw [e]; exact ⟨hn, hz, ht⟩
  refine Wc.seq ?_
  refine Wc.seq ?_
  refine Wc.region rfl ?_
  refine Wl.q rfl (Qy.move rfl) ?_
  refine Wl.q rfl (Qy.gtr rfl rfl) ?_
  refine Wl.q rfl (Qy.move rfl) ?_
  apply Wl.joinAnd 7 8 15 rfl
  intro hg1
  refine Wl.want rfl rfl ?_
  refine Wl.q rfl (Qy.move rfl) ?_
  refine Wl.want rfl rfl ?_
  refine Wl.q rfl (Qy.move rfl) ?_
  refine Wl.want rfl rfl ?_
  refine Wl.q rfl (Qy.sub rfl rfl (by omega)) ?_
  refine Wl.want rfl rfl ?_
  refine Wl.q rfl (Qy.at (α := U32) T.sl59 rfl rfl (by assumption) (by omega)) ?_
  refine Wl.want rfl rfl ?_
  refine Wl.q rfl (Qy.loadG T.one153 rfl (Arr.cell (by assumption) (by omega) 0 rfl rfl)) ?_
  refine Wl.want rfl rfl ?_
  refine Wl.q rfl (Qy.eql rfl rfl) ?_
  refine Wl.q rfl (Qy.pick rfl rfl) ?_
  exact Wl.back 7 0 rfl rfl rfl rfl rfl
  intro hg1
  refine Wl.pass rfl rfl rfl ?_
  refine Wl.pass rfl rfl rfl ?_
  refine Wl.pass rfl rfl rfl ?_
  refine Wl.pass rfl rfl rfl ?_
  refine Wl.pass rfl rfl rfl ?_
  refine Wl.pass rfl rfl rfl ?_
  refine Wl.q rfl (Qy.pick rfl rfl) ?_
  exact Wl.back 7 0 rfl rfl rfl rfl rfl
  refine Wl.done ?_
  refine Ar.next ?_
  refine Wc.cond rfl (fun hc1 => ?_) (fun hc1 => ?_)
  refine Wc.skip ?_
  refine Ar.next ?_
  refine Wc.block ?_
  refine Wc.region rfl ?_
  refine Wl.q rfl (Qy.move rfl) ?_
  refine Wl.q rfl (Qy.sub rfl rfl (by omega)) ?_
  refine Wl.q rfl (Qy.assign rfl) ?_
  refine Wl.done ?_
  refine Ar.outNormal ?_
  rotate_left
  refine Wc.exit ?_
  refine Ar.passExit ?_
  refine Ar.passExit ?_
  refine Ar.here ?_
  refine Ar.next ?_
  refine Wc.seq ?_
  refine Wc.region rfl ?_
  refine Wl.q rfl (Qy.move rfl) ?_
  refine Wl.q rfl (Qy.move rfl) ?_
  refine Wl.q rfl (Qy.move rfl) ?_
  refine Wl.q rfl (Qy.cutHM T.sl59 rfl rfl rfl (by omega) (by omega) (by omega)) ?_
  refine Wl.q rfl (Qy.assign rfl) ?_
  refine Wl.done ?_
  refine Ar.next ?_
  refine Wc.ret ?_
  refine Ar.out1 (.inr rfl) (Ho := Hp.only _ []) rfl (.tmp rfl) (Hp.sub_only _ _) ?_
  rotate_left
  · refine Ar.re 3 rfl (show _ = Value.int .i64 ((n - 1 : Nat) : Int) by congr 1; omega) ?_
    refine Ar.again (n - 1) ?_ ?_ rfl ⟨rfl, rfl, rfl, trivial⟩ trivial
    · refine ⟨by omega, fun j h1 h2 => ?_⟩
      rcases Nat.lt_or_ge j n with h3 | h3
      · have e : j = (((n : Nat) : Int) - 1).toNat := by omega
        rw [e]; exact hc1.2
      · exact hz j h3 h2
    · omega
  · refine done ?_
    rcases Nat.eq_zero_or_pos n with h | h
    · exact .inl h
    · refine .inr fun h2 => hc1 ⟨by omega, ?_⟩
      have e : (((n : Nat) : Int) - 1).toNat = n - 1 := by omega
      rw [e]; exact h2
/-- a number of its own, without noughts at the top -/
theorem c139 (G : Imm) (a : Option Addr) (c : Nat) (l : List U32) (hl : Arr G a l) (hb : l.length ≤ 1073741824) (hc : l.length ≤ c) :
    Does Try.prog 139 [.slice a l.length c] G [] (fun v G' Ho => ∃ (b : Option Addr) (m : List U32), v = .slice b m.length m.length ∧ Arr G' b m ∧ m = l.take m.length ∧ Trim l m.length ∧ m.length ≤ l.length ∧ Ho = []) := by
  refine Does.enter Try.func139 rfl Try.ntmps139 rfl (fun w => ?_)
  refine Wc.seq ?_
  refine Wc.region rfl ?_
  refine Wl.q rfl (Qy.assign rfl) ?_
  refine Wl.done ?_
  refine Ar.next ?_
  refine Wc.seq ?_
  refine Wc.region rfl ?_
  refine Wl.q rfl (Qy.move rfl) ?_
  refine Wl.call 0 rfl T.fn142 rfl (c142 _ _ _ _ (by assumption) (by omega) (by first | assumption | omega)) (tags_of trivial) (fun v1 G1 Ho1 hle1 hp => ?_)
  obtain ⟨ta1, tm1, rfl, hta1, hte1, htr1, htl1, rfl, rfl⟩ := hp
  refine Wl.q rfl (Qy.assign rfl) ?_
  refine Wl.done ?_
  refine Ar.next ?_
  refine Wc.seq ?_
  refine Wc.region rfl ?_
  refine Wl.q rfl (Qy.move rfl) ?_
  refine Wl.q rfl (Qy.len T.sl59 rfl) ?_
  refine Wl.make (α := U32) 0 rfl T.sl59 T.el153 rfl rfl (by omega) (by omega) (fun b1 => ?_)
  refine Wl.q rfl (Qy.assign rfl) ?_
  refine Wl.done ?_
  refine Ar.next ?_
  refine Wc.seq ?_
  refine Wc.region rfl ?_
  refine Wl.q rfl (Qy.move rfl) ?_
  refine Wl.q rfl (Qy.move rfl) ?_
  refine Wl.copyRow (α := U32) 0 rfl T.sl59 rfl rfl rfl (Src.arr (by assumption)) (by first | omega | (simp only [List.length_append, List.length_cons, List.length_nil, List.length_replicate]; omega)) ?_
  refine Wl.done ?_
  refine Ar.next ?_
  refine Wc.seq ?_
  refine Wc.region rfl ?_
  refine Wl.q rfl (Qy.move rfl) ?_
  refine Wl.q rfl (Qy.assign rfl) ?_
  refine Wl.done ?_
  refine Ar.next ?_
  refine Wc.ret ?_
  have e1 : (List.replicate ((tm1.length : Nat) : Int).toNat (default : U32)).length = tm1.length := by rw [List.length_replicate, Int.toNat_natCast]
  refine Ar.reH 0 (Row 153 tm1 []) rfl (by rw [List.drop_eq_nil_of_le (by rw [e1]; exact Nat.le_refl _), List.append_nil]) ?_
  refine Ar.re 2 rfl (show _ = Value.slice (some ⟨b1, 0, none⟩) tm1.length tm1.length by rw [e1]) ?_
  refine Ar.freezeRow 0 rfl (OwnA.made (xs := tm1) (by simp only [maxLen]; omega)) (fun G9 hle9 hA => ?_)
  refine Ar.out1 (.inr rfl) (Ho := []) rfl (.tmp rfl) trivial ?_
  exact ⟨_, tm1, rfl, hA, hte1, htr1, htl1, rfl⟩
end Go.Proofs.Ytbppmiimeccclaa
set_option maxRecDepth 100000
set_option linter.unusedVariables false
namespace Go.Proofs.Ytbppmiimeccclaa
open Go Go.Sl
set_option maxHeartbeats 4000000
/-- a list of limbs, none a nought at the top, that stays as it is -/
def Nat32 (G : Imm) (v : Value) (z : Int) (n : Nat) : Prop := ∃ (b : Option Addr) (m : List U32), v = .slice b m.length m.length ∧ Arr G b m ∧ Lims m ∧ Top m ∧ valB m = z ∧ m.length ≤ n
theorem Nat32.of {G : Imm} {b : Option Addr} {l m : List U32} {z : Int} {n : Nat} (h : Arr G b m) (he : m = l.take m.length) (ht : Trim l m.length) (hd : Lims l) (hz : valB l = z) (hn : m.length ≤ n) : Nat32 G (.slice b m.length m.length) z n :=
  ⟨b, m, rfl, h, trim_lims he hd, trim_top he ht, (trim_val he ht).trans hz, hn⟩
attribute [local irreducible] valB pb cmpZ
end Go.Proofs.Ytbppmiimeccclaa
set_option maxRecDepth 100000
set_option linter.unusedVariables false
namespace Go.Proofs.Ytbppmiimeccclaa
open Go Go.Sl
set_option maxHeartbeats 4000000
theorem lg_zeros (n k : Nat) : lg (List.replicate n (default : U32)) k = 0 := by
  unfold lg
  rw [Int.toNat_natCast, List.getElem?_replicate]
  split <;> rfl
attribute [local irreducible] valB pb cmpZ
theorem c136 (G : Imm) (a b : Option Addr) (ca cb : Nat) (la lb : List U32) (ha : Arr G a la) (hb : Arr G b lb) (da : Lims la) (db : Lims lb) (h1 : la.length ≤ 536870912) (h2 : lb.length ≤ 536870912) :
    Does Try.prog 136 [.slice a la.length ca, .slice b lb.length cb] G [] (fun v G' Ho => Nat32 G' v (valB la * valB lb) (la.length + lb.length) ∧ Ho = []) := by
  refine Does.enter Try.func136 rfl Try.ntmps136 rfl (fun w => ?_)
  refine Wc.seq ?_
  refine Wc.region rfl ?_
  refine Wl.q rfl (Qy.assign rfl) ?_
  refine Wl.done ?_
  refine Ar.next ?_
  refine Wc.seq ?_
  refine Wc.region rfl ?_
  refine Wl.q rfl (Qy.move rfl) ?_
  refine Wl.q rfl (Qy.len T.sl59 rfl) ?_
  refine Wl.q rfl (Qy.move rfl) ?_
  refine Wl.q rfl (Qy.len T.sl59 rfl) ?_
  refine Wl.q rfl (Qy.add rfl rfl (by omega)) ?_
  refine Wl.make (α := U32) 0 rfl T.sl59 T.el153 rfl rfl (by omega) (by omega) (fun b1 => ?_)
  refine Wl.q rfl (Qy.assign rfl) ?_
  refine Wl.done ?_
  refine Ar.next ?_
  refine Wc.seq ?_
  refine Wc.seq ?_
  refine Wc.region rfl ?_
  refine Wl.q rfl (Qy.move rfl) ?_
  refine Wl.q rfl (Qy.len T.sl59 rfl) ?_
  refine Wl.q rfl (Qy.move rfl) ?_
  refine Wl.done ?_
  refine Ar.next ?_
  refine Wc.block ?_
  obtain ⟨N, hN⟩ : ∃ N, N = la.length + lb.length := ⟨_, rfl⟩
  have hM : ((la.length : Int) + (lb.length : Int)).toNat = N := by omega
  rw [hM]
  have hown : ∀ r : List U32, r.length = N → OwnA (some ⟨b1, 0, none⟩) N r [] := fun r hr => .inr ⟨b1, rfl, by rw [hr]; rfl, by omega, by simp only [maxLen]; omega⟩
  refine Wc.re 5 rfl (show _ = Value.slice (some ⟨b1, 0, none⟩) (List.replicate N (default : U32)).length N by rw [List.length_replicate]) ?_
  refine Wc.loop (ι := Nat × List U32) (fun (i, r) => ([(19, .int .i64 (i : Int)), (5, .slice (some ⟨b1, 0, none⟩) r.length N), (18, Go.Value.int Go.IntKind.i64 (↑(List.length la) : Int)), (17, Go.Value.slice a (List.length la) ca), (4, Go.Value.slice Option.none 0 0), (1, Go.Value.slice b (List.length lb) cb)], [(0, some b1, Row 153 r [])])) (fun (i, r) => i ≤ la.length ∧ r.length = N ∧ Lims r ∧ valB r = valB (la.take i) * valB lb ∧ ∀ k, i + lb.length ≤ k → lg r k = 0) (fun (i, r) => la.length - i) ((0, List.replicate N (default : U32))) (⟨Nat.zero_le _, List.length_replicate, Lims.zeros N, by rw [List.take_zero, valB_nil, Int.zero_mul]; exact valB_replicate N, fun k _ => lg_zeros N k⟩) ⟨rfl, rfl, rfl, rfl, rfl, rfl, trivial⟩ ⟨rfl, trivial⟩ (fun ⟨i, r⟩ => fun (hk : i ≤ la.length ∧ r.length = N ∧ Lims r ∧ valB r = valB (la.take i) * valB lb ∧ ∀ k, i + lb.length ≤ k → lg r k = 0) => ?_)
  obtain ⟨hi, hrN, hdr, hv, hz⟩ := hk
  rcases Nat.lt_or_ge i la.length with hia | hia
  · have hxi : 0 ≤ (la[((i : Nat) : Int).toNat]?.getD default).v ∧ (la[((i : Nat) : Int).toNat]?.getD default).v < 4294967296 := lg_lt da hia
    refine Wc.seq ?_
    refine Wc.region rfl ?_
    refine Wl.q rfl (Qy.lss rfl rfl) ?_
    refine Wl.done ?_
    refine Ar.next ?_
    refine Wc.seq ?_
    refine Wc.condP rfl (by first | assumption | omega) ?_
    refine Wc.skip ?_
    refine Ar.next ?_
    refine Wc.seq ?_
    refine Wc.block ?_
    refine Wc.seq ?_
    refine Wc.region rfl ?_
    refine Wl.q rfl (Qy.move rfl) ?_
    refine Wl.q rfl (Qy.at (α := U32) T.sl59 rfl rfl (by assumption) (by omega)) ?_
    refine Wl.q rfl (Qy.loadG T.one153 rfl (Arr.cell (by assumption) (by omega) 0 rfl rfl)) ?_
    refine Wl.q rfl (Qy.assign rfl) ?_
    refine Wl.q rfl (Qy.assign rfl) ?_
    refine Wl.done ?_
    refine Ar.next ?_
    refine Wc.seq ?_
    refine Wc.region rfl ?_
    refine Wl.q rfl (Qy.assign rfl) ?_
    refine Wl.done ?_
    refine Ar.next ?_
    refine Wc.seq ?_
    refine Wc.seq ?_
    refine Wc.region rfl ?_
    refine Wl.q rfl (Qy.move rfl) ?_
    refine Wl.q rfl (Qy.len T.sl59 rfl) ?_
    refine Wl.q rfl (Qy.move rfl) ?_
    refine Wl.done ?_
    refine Ar.next ?_
    refine Wc.block ?_
    refine Wc.loop (ι := Nat × Int × List U32) (fun (j, c, s) => ([(26, .int .i64 (j : Int)), (8, .int .u64 c), (5, .slice (some ⟨b1, 0, none⟩) s.length N), (17, .slice a la.length ca), (18, .int .i64 (la.length : Int)), (25, Go.Value.int Go.IntKind.i64 (↑(List.length lb) : Int)), (24, Go.Value.slice b (List.length lb) cb), (7, Go.Value.int Go.IntKind.u32 (Go.Sl.U32.v (Option.getD la[Int.toNat (↑i : Int)]? Inhabited.default))), (6, Go.Value.int Go.IntKind.i64 (↑i : Int)), (19, Go.Value.int Go.IntKind.i64 (↑i : Int)), (4, Go.Value.slice Option.none 0 0), (1, Go.Value.slice b (List.length lb) cb)], [(0, some b1, Row 153 s [])])) (fun (j, c, s) => 0 ≤ c ∧ c ≤ 4294967295 ∧ s.length = N ∧ Lims s ∧ valB s + pb (i + j) * c = valB (la.take i) * valB lb + pb i * (lg la i * valB (lb.take j)) ∧ j ≤ lb.length ∧ ∀ k, i + lb.length ≤ k → lg s k = 0) (fun (j, c, s) => lb.length - j) ((0, 0, r)) (⟨by decide, by decide, hrN, hdr, by rw [Int.mul_zero, List.take_zero, valB_nil, Int.mul_zero, Int.mul_zero, Int.add_zero, Int.add_zero]; exact hv, Nat.zero_le _, hz⟩) ⟨rfl, rfl, rfl, rfl, rfl, rfl, rfl, rfl, rfl, rfl, rfl, rfl, trivial⟩ ⟨rfl, trivial⟩ (fun ⟨j, c, s⟩ => fun (hk : 0 ≤ c ∧ c ≤ 4294967295 ∧ s.length = N ∧ Lims s ∧ valB s + pb (i + j) * c = valB (la.take i) * valB lb + pb i * (lg la i * valB (lb.take j)) ∧ j ≤ lb.length ∧ ∀ k, i + lb.length ≤ k → lg s k = 0) => ?_)
    obtain ⟨hc0, hc1, hsN, hds, hvs, hjl, hzs⟩ := hk
    have hos := hown s hsN
    have ekk : ((i : Int) + (j : Int)).toNat = i + j := by omega
    rcases Nat.lt_or_ge j lb.length with hjb | hjb
    · have hyj : 0 ≤ (lb[((j : Nat) : Int).toNat]?.getD default).v ∧ (lb[((j : Nat) : Int).toNat]?.getD default).v < 4294967296 := lg_lt db hjb
      have hxy := bmul_small hxi hyj
      have hxy2 : 0 ≤ (la[((i : Nat) : Int).toNat]?.getD default).v * (lb[((j : Nat) : Int).toNat]?.getD default).v ∧ (la[((i : Nat) : Int).toNat]?.getD default).v * (lb[((j : Nat) : Int).toNat]?.getD default).v ≤ 18446744073709551615 := by omega
      have hsk : 0 ≤ (s[((i : Int) + (j : Int)).toNat]?.getD default).v ∧ (s[((i : Int) + (j : Int)).toNat]?.getD default).v < 4294967296 := hds.at (by omega)
      refine Wc.seq ?_
      refine Wc.region rfl ?_
      refine Wl.q rfl (Qy.lss rfl rfl) ?_
      refine Wl.done ?_
      refine Ar.next ?_
      refine Wc.seq ?_
      refine Wc.condP rfl (by first | assumption | omega) ?_
      refine Wc.skip ?_
      refine Ar.next ?_
      refine Wc.seq ?_
      refine Wc.block ?_
      refine Wc.seq ?_
      refine Wc.region rfl ?_
      refine Wl.q rfl (Qy.move rfl) ?_
      refine Wl.q rfl (Qy.at (α := U32) T.sl59 rfl rfl (by assumption) (by omega)) ?_
      refine Wl.q rfl (Qy.loadG T.one153 rfl (Arr.cell (by assumption) (by omega) 0 rfl rfl)) ?_
      refine Wl.q rfl (Qy.assign rfl) ?_
      refine Wl.q rfl (Qy.assign rfl) ?_
      refine Wl.done ?_
      refine Ar.next ?_
      refine Wc.seq ?_
      refine Wc.region rfl ?_
      refine Wl.q rfl (Qy.move rfl) ?_
      refine Wl.q rfl (Qy.move rfl) ?_
      refine Wl.q rfl (Qy.conv64 rfl T.u151 rfl (by omega)) ?_
      refine Wl.q rfl (Qy.move rfl) ?_
      refine Wl.q rfl (Qy.conv64 rfl T.u151 rfl (by omega)) ?_
      refine Wl.q rfl (Qy.umul64 rfl rfl (by first | assumption | omega)) ?_
      refine Wl.q rfl (Qy.move rfl) ?_
      refine Wl.q rfl (Qy.move rfl) ?_
      refine Wl.q rfl (Qy.move rfl) ?_
      refine Wl.q rfl (Qy.add rfl rfl (by omega)) ?_
      refine Wl.q rfl (Qy.indexAddrO (α := U32) T.sl59 rfl rfl (by assumption) (by omega)) ?_
      refine Wl.q rfl (Qy.loadO 0 0 T.one153 rfl rfl (by assumption) (by omega) rfl rfl) ?_
      refine Wl.q rfl (Qy.conv64 rfl T.u151 rfl (by omega)) ?_
      refine Wl.q rfl (Qy.uadd64 rfl rfl (by omega)) ?_
      refine Wl.q rfl (Qy.uadd64 rfl rfl (by omega)) ?_
      refine Wl.q rfl (Qy.assign rfl) ?_
      refine Wl.done ?_
      refine Ar.next ?_
      refine Wc.seq ?_
      refine Wc.region rfl ?_
      refine Wl.q rfl (Qy.move rfl) ?_
      refine Wl.q rfl (Qy.move rfl) ?_
      refine Wl.q rfl (Qy.move rfl) ?_
      refine Wl.q rfl (Qy.add rfl rfl (by omega)) ?_
      refine Wl.q rfl (Qy.move rfl) ?_
      refine Wl.q rfl (Qy.trunc32 rfl T.u153 rfl) ?_
      refine Wl.q rfl (Qy.indexAddrO (α := U32) T.sl59 rfl rfl (by assumption) (by omega)) ?_
      refine Wl.setO (z := _) 0 T.size153 rfl rfl rfl (by assumption) (by omega) rfl (fun ho1 => ?_)
      refine Wl.done ?_
      refine Ar.next ?_
      refine Wc.region rfl ?_
      refine Wl.q rfl (Qy.move rfl) ?_
      refine Wl.q rfl (Qy.shr32 rfl rfl (by omega)) ?_
      refine Wl.q rfl (Qy.assign rfl) ?_
      refine Wl.done ?_
      refine Ar.outNormal ?_
      refine Ar.next ?_
      refine Wc.region rfl ?_
      refine Wl.q rfl (Qy.add rfl rfl (by omega)) ?_
      refine Wl.q rfl (Qy.move rfl) ?_
      refine Wl.done ?_
      rw [ekk] at ⊢ hsk
      refine Ar.re 5 rfl (show _ = Value.slice (some ⟨b1, 0, none⟩) (s.set (i + j) (⟨(c + ((la[((i : Nat) : Int).toNat]?.getD default).v * (lb[((j : Nat) : Int).toNat]?.getD default).v + (s[i + j]?.getD default).v)) % 4294967296⟩ : U32)).length N by rw [List.length_set]) ?_
      refine Ar.again ((j + 1, (c + ((la[((i : Nat) : Int).toNat]?.getD default).v * (lb[((j : Nat) : Int).toNat]?.getD default).v + (s[i + j]?.getD default).v)) / 4294967296, s.set (i + j) (⟨(c + ((la[((i : Nat) : Int).toNat]?.getD default).v * (lb[((j : Nat) : Int).toNat]?.getD default).v + (s[i + j]?.getD default).v)) % 4294967296⟩ : U32))) ?_ ?_ rfl ⟨rfl, rfl, rfl, rfl, rfl, rfl, rfl, rfl, rfl, rfl, rfl, rfl, trivial⟩ ⟨rfl, trivial⟩
      · exact ⟨by omega, by omega, by rw [List.length_set]; exact hsN, lims_set hds _ (mod32 _), bmul_next (by omega) hvs (by simp only [lg, Int.toNat_natCast]), by omega, fun k hk => by rw [lg_set_ne (by omega)]; exact hzs k hk⟩
      · show lb.length - (j + 1) < lb.length - j
        omega
    · have hjj : j = lb.length := by omega
      subst hjj
      refine Wc.seq ?_
      refine Wc.region rfl ?_
      refine Wl.q rfl (Qy.lss rfl rfl) ?_
      refine Wl.done ?_
      refine Ar.next ?_
      refine Wc.seq ?_
      refine Wc.condN rfl (by first | assumption | omega) ?_
      refine Wc.exit ?_
      refine Ar.passExit ?_
      refine Ar.passExit ?_
      refine Ar.here ?_
      refine Ar.next ?_
      refine Wc.region rfl ?_
      refine Wl.q rfl (Qy.move rfl) ?_
      refine Wl.q rfl (Qy.move rfl) ?_
      refine Wl.q rfl (Qy.move rfl) ?_
      refine Wl.q rfl (Qy.len T.sl59 rfl) ?_
      refine Wl.q rfl (Qy.add rfl rfl (by omega)) ?_
      refine Wl.q rfl (Qy.move rfl) ?_
      refine Wl.q rfl (Qy.conv32 rfl T.u153 rfl (by omega)) ?_
      refine Wl.q rfl (Qy.indexAddrO (α := U32) T.sl59 rfl rfl (by assumption) (by omega)) ?_
      refine Wl.setO (z := _) 0 T.size153 rfl rfl rfl (by assumption) (by omega) rfl (fun ho1 => ?_)
      refine Wl.done ?_
      refine Ar.outNormal ?_
      refine Ar.next ?_
      refine Wc.region rfl ?_
      refine Wl.q rfl (Qy.add rfl rfl (by omega)) ?_
      refine Wl.q rfl (Qy.move rfl) ?_
      refine Wl.done ?_
      rw [ekk]
      refine Ar.re 5 rfl (show _ = Value.slice (some ⟨b1, 0, none⟩) (s.set (i + lb.length) (⟨c⟩ : U32)).length N by rw [List.length_set]) ?_
      refine Ar.again ((i + 1, s.set (i + lb.length) (⟨c⟩ : U32))) ?_ ?_ rfl ⟨rfl, rfl, rfl, rfl, rfl, rfl, trivial⟩ ⟨rfl, trivial⟩
      · exact ⟨by omega, by rw [List.length_set]; exact hsN, lims_set hds _ (by omega), bmul_end (by omega) (hzs _ (Nat.le_refl _)) hvs, fun k hk => by rw [lg_set_ne (by omega)]; exact hzs k (by omega)⟩
      · show la.length - (i + 1) < la.length - i
        omega
  · have hor := hown r hrN
    rw [take_all hia] at hv
    refine Wc.seq ?_
    refine Wc.region rfl ?_
    refine Wl.q rfl (Qy.lss rfl rfl) ?_
    refine Wl.done ?_
    refine Ar.next ?_
    refine Wc.seq ?_
    refine Wc.condN rfl (by first | assumption | omega) ?_
    refine Wc.exit ?_
    refine Ar.passExit ?_
    refine Ar.passExit ?_
    refine Ar.here ?_
    refine Ar.next ?_
    refine Wc.seq ?_
    refine Wc.region rfl ?_
    refine Wl.q rfl (Qy.move rfl) ?_
    refine Wl.freezeRow 0 rfl hor (fun G9 hle9 hA => ?_)
    refine Wl.call 1 rfl T.fn142 rfl (c142 _ _ _ _ (by assumption) (by omega) (by first | assumption | omega)) (tags_of trivial) (fun v1 G1 Ho1 hle1 hp => ?_)
    obtain ⟨ta1, tm1, rfl, hta1, hte1, htr1, htl1, rfl, rfl⟩ := hp
    refine Wl.q rfl (Qy.assign rfl) ?_
    refine Wl.done ?_
    refine Ar.next ?_
    refine Wc.ret ?_
    refine Ar.out1 (.inr rfl) (Ho := Hp.only _ []) rfl (.tmp rfl) (Hp.sub_only _ _) ?_
    exact ⟨Nat32.of hta1 hte1 htr1 hdr hv (by omega), rfl⟩
end Go.Proofs.Ytbppmiimeccclaa
set_option maxRecDepth 100000
set_option linter.unusedVariables false
namespace Go.Proofs.Ytbppmiimeccclaa
open Go Go.Sl
set_option maxHeartbeats 4000000
theorem IsBig.make {neg : Bool} {m : List U32} (hd : Lims m) (ht : Top m) : IsBig (neg && decide (0 < m.length)) m (if neg = true then -valB m else valB m) := by
  refine ⟨hd, ht, fun e => by rw [e]; simp, ?_⟩
  by_cases h : 0 < m.length
  · simp [h]
  · have e : m = [] := List.eq_nil_of_length_eq_zero (by omega)
    rw [e]; simp [valB_nil]
theorem Big.make {G : Imm} {b : Option Addr} {c : Nat} {m : List U32} (neg : Bool) (hA : Arr G b m) (hd : Lims m) (ht : Top m) (hc : m.length ≤ c) {z : Int} (hz : z = if neg = true then -valB m else valB m) : Big G ⟨neg && decide (0 < m.length), b, m.length, c⟩ z :=
  ⟨m, rfl, hc, hA, hz ▸ IsBig.make hd ht⟩
theorem Big.len {G : Imm} {x : IV} {z : Int} (h : Big G x z) {m : Nat} (hz : (z.natAbs : Int) < pb m) : x.n ≤ m := by
  obtain ⟨l, h1, _, _, h4⟩ := h
  rw [← h1]; exact h4.len hz
theorem Big.zero_iff {G : Imm} {x : IV} {z : Int} (h : Big G x z) : x.n = 0 ↔ z = 0 := by
  obtain ⟨l, h1, _, _, h4⟩ := h
  rw [← h1]; exact h4.zero_iff
theorem Big.out {G : Imm} {x : IV} {z z' : Int} (h : Big G x z) (e : z = z') : Big G x z' := e ▸ h
/-- the sign -/
def sgZ (z : Int) : Int := if z = 0 then 0 else if z < 0 then -1 else 1
theorem sgZ_lt {z : Int} (h : z < 0) : sgZ z = -1 := by unfold sgZ; rw [if_neg (by omega), if_pos h]
theorem sgZ_gt {z : Int} (h : 0 < z) : sgZ z = 1 := by unfold sgZ; rw [if_neg (by omega), if_neg (by omega)]
theorem sgZ_eq {z : Int} (h : z = 0) : sgZ z = 0 := by unfold sgZ; rw [if_pos h]
attribute [local irreducible] valB pb cmpZ lstWp
theorem c133 (G : Imm) (neg : Bool) (a : Option Addr) (n c : Nat) (hn : n ≤ 1099511627776) :
    Does Try.prog 133 [.bool neg, .slice a n c] G [] (fun v G' Ho => v = .agg #[.bool (neg && decide (0 < n)), .slice a n c] ∧ G' = G ∧ Ho = []) := by
  refine Does.enter Try.func133 rfl Try.ntmps133 rfl (fun w => ?_)
  have e : ((0 : Int) < (n : Int)) = (0 < n) := by rw [eq_iff_iff]; omega
  cases neg
  · refine Wc.seq ?_
    refine Wc.region rfl ?_
    refine Wl.alloc 0 rfl T.zero61 (fun b1 => ?_)
    refine Wl.done ?_
    refine Ar.next ?_
    refine Wc.seq ?_
    refine Wc.region rfl ?_
    refine Wl.q rfl (Qy.move rfl) ?_
    refine Wl.q rfl (Qy.move rfl) ?_
    refine Wl.pass rfl rfl rfl ?_
    refine Wl.pass rfl rfl rfl ?_
    refine Wl.pass rfl rfl rfl ?_
    refine Wl.q rfl (Qy.pick rfl rfl) ?_
    refine Wl.q rfl (Qy.move rfl) ?_
    refine Wl.q rfl (Qy.build (cs := [_, _]) T.st61 rfl rfl rfl) ?_
    refine Wl.storeAll 0 T.size61 rfl rfl rfl rfl rfl rfl ?_
    refine Wl.done ?_
    refine Ar.next ?_
    refine Wc.ret ?_
    refine Ar.out1 (.inr rfl) (Ho := Hp.only _ []) rfl (.agg 0 rfl rfl T.agg61) (Hp.sub_only _ _) ?_
    exact ⟨by simp only [Bool.false_and], rfl, rfl⟩
  · refine Wc.seq ?_
    refine Wc.region rfl ?_
    refine Wl.alloc 0 rfl T.zero61 (fun b1 => ?_)
    refine Wl.done ?_
    refine Ar.next ?_
    refine Wc.seq ?_
    refine Wc.region rfl ?_
    refine Wl.q rfl (Qy.move rfl) ?_
    refine Wl.q rfl (Qy.move rfl) ?_
    refine Wl.want rfl rfl ?_
    refine Wl.q rfl (Qy.move rfl) ?_
    refine Wl.want rfl rfl ?_
    refine Wl.q rfl (Qy.len T.sl59 rfl) ?_
    refine Wl.want rfl rfl ?_
    refine Wl.q rfl (Qy.gtr rfl rfl) ?_
    refine Wl.q rfl (Qy.pick rfl rfl) ?_
    refine Wl.q rfl (Qy.move rfl) ?_
    refine Wl.q rfl (Qy.build (cs := [_, _]) T.st61 rfl rfl rfl) ?_
    refine Wl.storeAll 0 T.size61 rfl rfl rfl rfl rfl rfl ?_
    refine Wl.done ?_
    refine Ar.next ?_
    refine Wc.ret ?_
    refine Ar.out1 (.inr rfl) (Ho := Hp.only _ []) rfl (.agg 0 rfl rfl T.agg61) (Hp.sub_only _ _) ?_
    exact ⟨by simp only [e, Bool.true_and], rfl, rfl⟩
theorem c99 (G : Imm) (neg : Bool) (a : Option Addr) (c : Nat) (l : List U32) (ha : Arr G a l) (hd : Lims l) (hb : l.length ≤ 1073741824) (hc : l.length ≤ c) :
    Does Try.prog 99 [.bool neg, .slice a l.length c] G [] (fun v G' Ho => ∃ r : IV, v = .agg (Cells.enc r).toArray ∧ Big G' r (if neg = true then -valB l else valB l) ∧ Ho = []) := by
  refine Does.enter Try.func99 rfl Try.ntmps99 rfl (fun w => ?_)
  refine Wc.seq ?_
  refine Wc.region rfl ?_
  refine Wl.alloc 0 rfl T.zero61 (fun b1 => ?_)
  refine Wl.done ?_
  refine Ar.next ?_
  refine Wc.seq ?_
  refine Wc.region rfl ?_
  refine Wl.q rfl (Qy.move rfl) ?_
  refine Wl.q rfl (Qy.move rfl) ?_
  refine Wl.call 1 rfl T.fn139 rfl (c139 _ _ _ _ (by assumption) (by first | omega | (simp only [List.length_cons, List.length_nil]; omega)) (by first | omega | (simp only [List.length_cons, List.length_nil]; omega))) (tags_of trivial) (fun v1 G1 Ho1 hle1 hp => ?_)
  obtain ⟨na1, nm1, rfl, hna1, hne1, hnt1, hnl1, rfl⟩ := hp
  replace ha := ha.up hle1
  refine Wl.call0 rfl T.fn133 rfl (c133 _ _ _ _ _ (by omega)) ?_
  refine Wl.storeAll 0 T.size61 rfl rfl rfl rfl rfl rfl ?_
  refine Wl.done ?_
  refine Ar.next ?_
  refine Wc.ret ?_
  refine Ar.out1 (.inr rfl) (Ho := Hp.only _ []) rfl (.agg 0 rfl rfl T.agg61) (Hp.sub_only _ _) ?_
  refine ⟨⟨neg && decide (0 < nm1.length), na1, nm1.length, nm1.length⟩, rfl, Big.make neg hna1 (trim_lims hne1 hd) (trim_top hne1 hnt1) (Nat.le_refl _) (by rw [trim_val hne1 hnt1]), rfl⟩
theorem c95 (G : Imm) (x y : IV) (zx zy : Int) (hx : Big G x zx) (hy : Big G y zy) (h1 : x.n ≤ 536870912) (h2 : y.n ≤ 536870912) :
    Does Try.prog 95 [.agg (Cells.enc x).toArray, .agg (Cells.enc y).toArray] G [] (fun v G' Ho => ∃ r : IV, v = .agg (Cells.enc r).toArray ∧ Big G' r (zx * zy) ∧ Ho = []) := by
  obtain ⟨n1, a, k1, ca⟩ := x
  obtain ⟨n2, b, k2, cb⟩ := y
  obtain ⟨la, hl, hlc, hA, hI⟩ := hx
  obtain ⟨lb, hl', hlc', hA', hI'⟩ := hy
  simp only at hl hlc hA hI hl' hlc' hA' hI' h1 h2
  subst hl hl'
  have da := hI.digs
  have db := hI'.digs
  have ta := hI.top
  have tb := hI'.top
  show Does Try.prog 95 [.agg #[.bool n1, .slice a la.length ca], .agg #[.bool n2, .slice b lb.length cb]] G [] _
  refine Does.enter Try.func95 rfl Try.ntmps95 rfl (fun w => ?_)
  refine Wc.seq ?_
  refine Wc.region rfl ?_
  refine Wl.box 0 rfl rfl rfl (fun b1 => ?_)
  refine Wl.box 1 rfl rfl rfl (fun b2 => ?_)
  refine Wl.alloc 2 rfl T.zero61 (fun b3 => ?_)
  refine Wl.done ?_
  refine Ar.next ?_
  refine Wc.seq ?_
  refine Wc.draw [0, 1, 2] [(2, 11)] T.mixed rfl ?_
  refine Gm.q 0 [] (by kernel_rfl) rfl rfl (Qy.fieldAddr T.fa61_0 rfl) ?_
  refine Gm.q 1 [0] (by kernel_rfl) rfl rfl (Qy.load 0 T.one4 rfl rfl rfl) ?_
  refine Gm.q 2 [] (by kernel_rfl) rfl rfl (Qy.fieldAddr T.fa61_0 rfl) ?_
  refine Gm.q 3 [1] (by kernel_rfl) rfl rfl (Qy.load 1 T.one4 rfl rfl rfl) ?_
  refine Gm.q 4 [] (by kernel_rfl) rfl rfl (Qy.neqB T.u4 rfl rfl) ?_
  refine Gm.q 5 [] (by kernel_rfl) rfl rfl (Qy.fieldAddr T.fa61_1 rfl) ?_
  refine Gm.q 6 [0] (by kernel_rfl) rfl rfl (Qy.load 0 T.one59 rfl rfl rfl) ?_
  refine Gm.q 7 [] (by kernel_rfl) rfl rfl (Qy.fieldAddr T.fa61_1 rfl) ?_
  refine Gm.q 8 [1] (by kernel_rfl) rfl rfl (Qy.load 1 T.one59 rfl rfl rfl) ?_
  refine Gm.one 9 ⟨rfl, rfl, rfl, trivial⟩ (by first | exact Imm.le_refl _ | assumption | (refine Imm.le_trans ?_ (by assumption); first | assumption | (refine Imm.le_trans ?_ (by assumption); assumption))) (by kernel_rfl) rfl ?_
  refine Wl.call 3 rfl T.fn136 rfl (c136 _ _ _ _ _ _ _ (by assumption) (by assumption) (by assumption) (by assumption) (by omega) (by omega)) (tags_of trivial) (fun v1 G1 Ho1 hle1 hp => ?_)
  obtain ⟨⟨ra1, rm1, rfl, hra1, hrl1, hrt1, hrv1, hrn1⟩, rfl⟩ := hp
  replace hA := hA.up hle1
  replace hA' := hA'.up hle1
  refine Wl.on0 ?_
  refine Gm.one 10 ⟨rfl, rfl, rfl, trivial⟩ (by first | exact Imm.le_refl _ | assumption | (refine Imm.le_trans ?_ (by assumption); first | assumption | (refine Imm.le_trans ?_ (by assumption); assumption))) (by kernel_rfl) rfl ?_
  refine Wl.call0 rfl T.fn133 rfl (c133 _ _ _ _ _ (by omega)) ?_
  refine Wl.on0 ?_
  refine Gm.one 11 ⟨rfl, rfl, rfl, trivial⟩ (by first | exact Imm.le_refl _ | assumption | (refine Imm.le_trans ?_ (by assumption); first | assumption | (refine Imm.le_trans ?_ (by assumption); assumption))) (by kernel_rfl) rfl ?_
  refine Wl.storeAll 2 T.size61 rfl rfl rfl rfl rfl rfl ?_
  refine Wl.on0 ?_
  refine Gm.doneA (by kernel_rfl) ⟨rfl, rfl, trivial⟩ (by first | exact Imm.le_refl _ | assumption | (refine Imm.le_trans ?_ (by assumption); first | assumption | (refine Imm.le_trans ?_ (by assumption); assumption))) ?_
  refine Ar.next ?_
  refine Wc.ret ?_
  refine Ar.out1 (.inr rfl) (Ho := Hp.only _ []) rfl (.agg 2 rfl rfl T.agg61) (Hp.sub_only _ _) ?_
  refine ⟨⟨decide (n1 ≠ n2) && decide (0 < rm1.length), ra1, rm1.length, rm1.length⟩, rfl, Big.make (decide (n1 ≠ n2)) hra1 hrl1 hrt1 (Nat.le_refl _) ?_, rfl⟩
  rw [hrv1, hI.val, hI'.val]
  cases n1 <;> cases n2 <;> simp [Int.neg_mul, Int.mul_neg]
end Go.Proofs.Ytbppmiimeccclaa
set_option maxRecDepth 100000
set_option linter.unusedVariables false
namespace Go.Proofs.Ytbppmiimeccclaa
open Go Go.Sl
set_option maxHeartbeats 4000000
theorem wrap_neg {n : Int} (h : -9223372036854775808 ≤ n ∧ n < 0) : IntKind.u64.wrap (0 - IntKind.u64.wrap n) = -n := by
  rw [IntKind.wrap_u64, IntKind.wrap_u64]; omega
theorem two_val (u : Int) : valB [(⟨u % 4294967296⟩ : U32), ⟨u / 4294967296⟩] = u := by
  rw [valB_cons, valB_cons, valB_nil]
  show u % 4294967296 + 4294967296 * (u / 4294967296 + 4294967296 * 0) = u
  omega
theorem two_lims {u : Int} (h : 0 ≤ u ∧ u < 18446744073709551616) : Lims [(⟨u % 4294967296⟩ : U32), ⟨u / 4294967296⟩] := by
  intro d hd
  simp only [List.mem_cons, List.mem_nil_iff, or_false] at hd
  rcases hd with rfl | rfl
  · exact mod32 u
  · show 0 ≤ u / 4294967296 ∧ u / 4294967296 < 4294967296
    omega
theorem Big.lt {G : Imm} {x : IV} {z : Int} (h : Big G x z) : (z.natAbs : Int) < pb x.n := by
  obtain ⟨l, h1, _, _, h4⟩ := h
  rw [← h4.abs, ← h1]; exact valB_lt h4.digs
attribute [local irreducible] valB pb cmpZ lstWp
theorem c51 (G : Imm) (n : Int) (hn : -9223372036854775808 ≤ n ∧ n ≤ 9223372036854775807) :
    Does Try.prog 51 [.int .i64 n] G [] (fun v G' Ho => ∃ r : IV, v = .agg (Cells.enc r).toArray ∧ Big G' r n ∧ Ho = []) := by
  refine Does.enter Try.func51 rfl Try.ntmps51 rfl (fun w => ?_)
  refine Wc.seq ?_
  refine Wc.region rfl ?_
  refine Wl.alloc 0 rfl T.zero61 (fun b1 => ?_)
  refine Wl.done ?_
  refine Ar.next ?_
  refine Wc.seq ?_
  refine Wc.region rfl ?_
  refine Wl.q rfl (Qy.move rfl) ?_
  refine Wl.q rfl (Qy.conv rfl T.u151 rfl) ?_
  refine Wl.q rfl (Qy.assign rfl) ?_
  refine Wl.done ?_
  refine Ar.next ?_
  refine Wc.meet (ι := Int) (fun u => ([(0, .int .i64 n), (2, .pointer (some ⟨b1, 0, none⟩)), (3, .int .u64 u)], [(0, some b1, .cells #[.bool false, .slice none 0 0] 61)])) (fun u => 0 ≤ u ∧ u < 18446744073709551616 ∧ n = if decide (n < 0) = true then -u else u) ?_ (fun u => fun (hk : 0 ≤ u ∧ u < 18446744073709551616 ∧ n = if decide (n < 0) = true then -u else u) => ?_)
  · by_cases hneg : n < 0
    · refine Wc.seq ?_
      refine Wc.region rfl ?_
      refine Wl.q rfl (Qy.move rfl) ?_
      refine Wl.q rfl (Qy.lss rfl rfl) ?_
      refine Wl.done ?_
      refine Ar.next ?_
      refine Wc.condP rfl (by first | assumption | omega) ?_
      refine Wc.region rfl ?_
      refine Wl.q rfl (Qy.move rfl) ?_
      refine Wl.q rfl (Qy.negW rfl) ?_
      refine Wl.q rfl (Qy.assign rfl) ?_
      refine Wl.done ?_
      refine Ar.re 3 rfl (show _ = Value.int .u64 (-n) by rw [wrap_neg ⟨hn.1, hneg⟩]) ?_
      refine Ar.meet (-n) ?_ rfl ⟨rfl, rfl, rfl, trivial⟩ ⟨rfl, trivial⟩
      exact ⟨by omega, by omega, by rw [if_pos (by simpa using hneg)]; omega⟩
    · refine Wc.seq ?_
      refine Wc.region rfl ?_
      refine Wl.q rfl (Qy.move rfl) ?_
      refine Wl.q rfl (Qy.lss rfl rfl) ?_
      refine Wl.done ?_
      refine Ar.next ?_
      refine Wc.condN rfl (by first | assumption | omega) ?_
      refine Wc.skip ?_
      refine Ar.re 3 rfl (show _ = Value.int .u64 n by rw [IntWalk.u64_in _ (by omega)]) ?_
      refine Ar.meet (n) ?_ rfl ⟨rfl, rfl, rfl, trivial⟩ ⟨rfl, trivial⟩
      exact ⟨by omega, by omega, by rw [if_neg (by simpa using hneg)]⟩
  obtain ⟨hu0, hu1, hun⟩ := hk
  refine Wc.seq ?_
  refine Wc.region rfl ?_
  refine Wl.q rfl (Qy.move rfl) ?_
  refine Wl.q rfl (Qy.lss rfl rfl) ?_
  refine Wl.q rfl (Qy.move rfl) ?_
  refine Wl.q rfl (Qy.trunc32 rfl T.u153 rfl) ?_
  refine Wl.q rfl (Qy.move rfl) ?_
  refine Wl.q rfl (Qy.shr32 rfl rfl (by omega)) ?_
  refine Wl.q rfl (Qy.conv32 rfl T.u153 rfl (by omega)) ?_
  refine Wl.lit (α := U32) 1 [⟨u % 4294967296⟩, ⟨u / 4294967296⟩] rfl T.sl59 T.el153 rfl rfl rfl rfl rfl (fun b2 => ?_)
  have hd := two_lims ⟨hu0, hu1⟩
  refine Wl.freezeRow 1 rfl (OwnA.made (xs := [(⟨u % 4294967296⟩ : U32), ⟨u / 4294967296⟩]) (by simp [maxLen])) (fun G9 hle9 hA9 => ?_)
  refine Wl.call 2 rfl T.fn99 rfl (c99 _ _ _ _ _ (by assumption) (by assumption) (by first | omega | (simp only [List.length_cons, List.length_nil]; omega)) (by first | omega | (simp only [List.length_cons, List.length_nil]; omega))) (tags_of trivial) (fun v1 G1 Ho1 hle1 hp => ?_)
  obtain ⟨r1, rfl, hr1, rfl⟩ := hp
  replace hA9 := hA9.up hle1
  refine Wl.storeAll 0 T.size61 rfl rfl rfl rfl rfl rfl ?_
  refine Wl.done ?_
  refine Ar.next ?_
  refine Wc.ret ?_
  refine Ar.out1 (.inr rfl) (Ho := Hp.only _ []) rfl (.agg 0 rfl rfl T.agg61) (Hp.sub_only _ _) ?_
  exact ⟨_, rfl, Big.out hr1 (by rw [two_val]; exact hun.symm), rfl⟩
end Go.Proofs.Ytbppmiimeccclaa
set_option linter.unusedVariables false
namespace Go.Proofs.Ytbppmiimeccclaa
open Go Go.Sl
def p2 (n : Nat) : Int := ((2 ^ n : Nat) : Int)
/-- what an instruction multiplies or divides by -/
def cst (i : Sl.Instr) : Int := if i.op = 5 ∨ i.op = 6 then i.c else p2 i.c.toNat
end Go.Proofs.Ytbppmiimeccclaa
set_option maxRecDepth 100000
set_option linter.unusedVariables false
namespace Go.Proofs.Ytbppmiimeccclaa
open Go Go.Sl
set_option maxHeartbeats 4000000
/-- handles that stand for numbers -/
def Bigs (G : Imm) (l : List IV) (zs : List Int) : Prop := l.length = zs.length ∧ ∀ i : Nat, i < l.length → Big G (l[i]?.getD default) (zs[i]?.getD 0)
theorem Bigs.up {G G' : Imm} {l : List IV} {zs : List Int} (h : Bigs G l zs) (hl : G.le G') : Bigs G' l zs := ⟨h.1, fun i hi => (h.2 i hi).up hl⟩
theorem Bigs.at {G : Imm} {l : List IV} {zs : List Int} (h : Bigs G l zs) {k : Int} (hk : 0 ≤ k ∧ k < l.length) : Big G (l[k.toNat]?.getD default) (zs[k.toNat]?.getD 0) := h.2 _ (by omega)
theorem Bigs.nil (G : Imm) : Bigs G [] [] := ⟨rfl, fun i hi => by simp at hi⟩
theorem Bigs.set {G : Imm} {l : List IV} {zs : List Int} (h : Bigs G l zs) (k : Nat) {x : IV} {z : Int} (hx : Big G x z) : Bigs G (l.set k x) (zs.set k z) := by
  refine ⟨by rw [List.length_set, List.length_set]; exact h.1, fun i hi => ?_⟩
  rw [List.length_set] at hi
  rw [List.getElem?_set, List.getElem?_set]
  have h1 := h.1
  by_cases hk : k = i
  · subst hk
    rw [if_pos rfl, if_pos rfl, if_pos hi, if_pos (by omega)]; exact hx
  · rw [if_neg hk, if_neg hk]; exact h.2 i hi
theorem Bigs.snoc {G : Imm} {l : List IV} {zs : List Int} (h : Bigs G l zs) {x : IV} {z : Int} (hx : Big G x z) : Bigs G (l ++ [x]) (zs ++ [z]) := by
  refine ⟨by rw [List.length_append, List.length_append, h.1]; rfl, fun i hi => ?_⟩
  rw [List.length_append, List.length_singleton] at hi
  have h1 := h.1
  rcases Nat.lt_or_ge i l.length with h2 | h2
  · rw [List.getElem?_append_left h2, List.getElem?_append_left (by omega)]; exact h.2 i h2
  · have e : i = l.length := by omega
    subst e
    rw [List.getElem?_append_right (Nat.le_refl _), Nat.sub_self, h1, List.getElem?_append_right (Nat.le_refl _), Nat.sub_self]; exact hx
theorem Bigs.zeros (G : Imm) (n : Nat) : Bigs G (List.replicate n (default : IV)) (List.replicate n 0) := by
  refine ⟨by rw [List.length_replicate, List.length_replicate], fun i hi => ?_⟩
  rw [List.length_replicate] at hi
  rw [List.getElem?_replicate, List.getElem?_replicate, if_pos hi, if_pos hi]
  exact Big.zero G
/-- none too large -/
def Below (m : Nat) (zs : List Int) : Prop := ∀ z ∈ zs, (z.natAbs : Int) < pb m
theorem Below.at {m : Nat} {zs : List Int} (h : Below m zs) (k : Nat) : ((zs[k]?.getD 0).natAbs : Int) < pb m := by
  rcases Nat.lt_or_ge k zs.length with h1 | h1
  · rw [List.getElem?_eq_getElem h1]; exact h _ (List.getElem_mem h1)
  · rw [List.getElem?_eq_none h1]; exact pb_pos m
attribute [local irreducible] valB pb cmpZ lstWp p2
end Go.Proofs.Ytbppmiimeccclaa
set_option maxRecDepth 100000
set_option linter.unusedVariables false
namespace Go.Proofs.Ytbppmiimeccclaa
open Go Go.Sl
def near (a b : Int) : Prop := -16 ≤ a ∧ a ≤ 16 ∧ -16 ≤ b ∧ b ≤ 16
instance (a b : Int) : Decidable (near a b) := inferInstanceAs (Decidable (_ ∧ _))
theorem c113 (G : Imm) (n : Int) : Does Try.prog 113 [.int .i64 n] G [] (fun v G' Ho => v = .bool (decide (-16 ≤ n ∧ n ≤ 16)) ∧ G' = G ∧ Ho = []) := by
  refine Does.enter Try.func113 rfl Try.ntmps113 rfl (fun w => ?_)
  refine Wc.seq ?_
  refine Wc.region rfl ?_
  refine Wl.q rfl (Qy.assign rfl) ?_
  refine Wl.done ?_
  refine Ar.next ?_
  refine Wc.seq ?_
  refine Wc.region rfl ?_
  refine Wl.q rfl (Qy.move rfl) ?_
  refine Wl.q rfl (Qy.geq rfl rfl) ?_
  refine Wl.q rfl (Qy.move rfl) ?_
  apply Wl.joinAnd 3 5 8 rfl
  intro hg1
  refine Wl.want rfl rfl ?_
  refine Wl.q rfl (Qy.move rfl) ?_
  refine Wl.want rfl rfl ?_
  refine Wl.q rfl (Qy.leq rfl rfl) ?_
  refine Wl.q rfl (Qy.pick rfl rfl) ?_
  exact Wl.back 3 0 rfl rfl rfl rfl rfl
  intro hg1
  refine Wl.pass rfl rfl rfl ?_
  refine Wl.pass rfl rfl rfl ?_
  refine Wl.q rfl (Qy.pick rfl rfl) ?_
  exact Wl.back 3 0 rfl rfl rfl rfl rfl
  refine Wl.q rfl (Qy.assign rfl) ?_
  refine Wl.done ?_
  refine Ar.next ?_
  refine Wc.ret ?_
  refine Ar.out1 (.inr rfl) (Ho := Hp.only _ []) rfl (.tmp rfl) (Hp.sub_only _ _) ?_
  exact ⟨rfl, rfl, rfl⟩
theorem c174 (G : Imm) (n : Int) (h : -9223372036854775807 ≤ n) : Does Try.prog 174 [.int .i64 n] G [] (fun v G' Ho => v = .int .i64 (n.natAbs : Int) ∧ G' = G ∧ Ho = []) := by
  refine Does.enter Try.func174 rfl Try.ntmps174 rfl (fun w => ?_)
  refine Wc.seq ?_
  refine Wc.region rfl ?_
  refine Wl.q rfl (Qy.assign rfl) ?_
  refine Wl.done ?_
  refine Ar.next ?_
  refine Wc.seq ?_
  refine Wc.seq ?_
  refine Wc.region rfl ?_
  refine Wl.q rfl (Qy.move rfl) ?_
  refine Wl.q rfl (Qy.lss rfl rfl) ?_
  refine Wl.done ?_
  refine Ar.next ?_
  refine Wc.cond rfl (fun hc1 => ?_) (fun hc1 => ?_)
  refine Wc.seq ?_
  refine Wc.region rfl ?_
  refine Wl.q rfl (Qy.move rfl) ?_
  refine Wl.q rfl (Qy.neg rfl (by omega)) ?_
  refine Wl.q rfl (Qy.assign rfl) ?_
  refine Wl.done ?_
  refine Ar.next ?_
  refine Wc.ret ?_
  refine Ar.passRet ?_
  refine Ar.out1 (.inr rfl) (Ho := Hp.only _ []) rfl (.tmp rfl) (Hp.sub_only _ _) ?_
  rotate_left
  refine Wc.skip ?_
  refine Ar.next ?_
  refine Wc.seq ?_
  refine Wc.region rfl ?_
  refine Wl.q rfl (Qy.move rfl) ?_
  refine Wl.q rfl (Qy.assign rfl) ?_
  refine Wl.done ?_
  refine Ar.next ?_
  refine Wc.ret ?_
  refine Ar.out1 (.inr rfl) (Ho := Hp.only _ []) rfl (.tmp rfl) (Hp.sub_only _ _) ?_
  rotate_left
  · exact ⟨by congr 1; omega, rfl, rfl⟩
  · exact ⟨by congr 1; omega, rfl, rfl⟩
theorem c143 (G : Imm) (a b : Int) (h1 : -4611686018427387904 ≤ a ∧ a ≤ 4611686018427387904) (h2 : -4611686018427387904 ≤ b ∧ b ≤ 4611686018427387904) : Does Try.prog 143 [.int .i64 a, .int .i64 b] G [] (fun v G' Ho => v = .int .i64 (Int.gcd a b : Int) ∧ G' = G ∧ Ho = []) := by
  refine Does.enter Try.func143 rfl Try.ntmps143 rfl (fun w => ?_)
  refine Wc.seq ?_
  refine Wc.region rfl ?_
  refine Wl.q rfl (Qy.assign rfl) ?_
  refine Wl.done ?_
  refine Ar.next ?_
  refine Wc.seq ?_
  refine Wc.block ?_
  refine Wc.loop (ι := Int × Int) (fun (x, y) => ([(0, .int .i64 x), (1, .int .i64 y), (4, Go.Value.int Go.IntKind.i64 0)], [])) (fun (x, y) => Int.gcd x y = Int.gcd a b ∧ (-4611686018427387904 ≤ x ∧ x ≤ 4611686018427387904) ∧ (-4611686018427387904 ≤ y ∧ y ≤ 4611686018427387904)) (fun (x, y) => y.natAbs) ((a, b)) (⟨rfl, h1, h2⟩) ⟨rfl, rfl, rfl, trivial⟩ trivial (fun ⟨x, y⟩ => fun (hk : Int.gcd x y = Int.gcd a b ∧ (-4611686018427387904 ≤ x ∧ x ≤ 4611686018427387904) ∧ (-4611686018427387904 ≤ y ∧ y ≤ 4611686018427387904)) => ?_)
  obtain ⟨hg, hx, hy⟩ := hk
  refine Wc.seq ?_
  refine Wc.seq ?_
  refine Wc.region rfl ?_
  refine Wl.q rfl (Qy.move rfl) ?_
  refine Wl.q rfl (Qy.neq rfl rfl) ?_
  refine Wl.done ?_
  refine Ar.next ?_
  refine Wc.cond rfl (fun hc1 => ?_) (fun hc1 => ?_)
  refine Wc.skip ?_
  refine Ar.next ?_
  refine Wc.block ?_
  refine Wc.draw [] [] T.mixed rfl ?_
  refine Gm.q 0 [] (by kernel_rfl) rfl rfl (Qy.move rfl) ?_
  refine Gm.q 1 [] (by kernel_rfl) rfl rfl (Qy.move rfl) ?_
  refine Gm.q 2 [] (by kernel_rfl) rfl rfl (Qy.move rfl) ?_
  refine Gm.q 3 [] (by kernel_rfl) rfl rfl (Qy.rem rfl rfl (by omega)) ?_
  refine Gm.q 4 [] (by kernel_rfl) rfl rfl (Qy.assign rfl) ?_
  refine Gm.q 5 [] (by kernel_rfl) rfl rfl (Qy.assign rfl) ?_
  refine Gm.doneA (by kernel_rfl) trivial (by first | exact Imm.le_refl _ | assumption | (refine Imm.le_trans ?_ (by assumption); first | assumption | (refine Imm.le_trans ?_ (by assumption); assumption))) ?_
  refine Ar.outNormal ?_
  rotate_left
  refine Wc.exit ?_
  refine Ar.passExit ?_
  refine Ar.passExit ?_
  refine Ar.here ?_
  refine Ar.next ?_
  refine Wc.seq ?_
  refine Wc.region rfl ?_
  refine Wl.q rfl (Qy.move rfl) ?_
  refine Wl.call0 rfl T.fn174 rfl (c174 _ _ (by omega)) ?_
  refine Wl.q rfl (Qy.assign rfl) ?_
  refine Wl.done ?_
  refine Ar.next ?_
  refine Wc.ret ?_
  refine Ar.out1 (.inr rfl) (Ho := Hp.only _ []) rfl (.tmp rfl) (Hp.sub_only _ _) ?_
  rotate_left
  · have e := Int.natAbs_tmod x y
    have hyp : 0 < y.natAbs := by omega
    have e2 := Nat.mod_lt x.natAbs hyp
    have e3 := Nat.mod_le x.natAbs y.natAbs
    refine Ar.again ((y, x.tmod y)) ?_ ?_ rfl ⟨rfl, rfl, rfl, trivial⟩ trivial
    · refine ⟨?_, hy, by omega⟩
      rw [← hg]
      show Nat.gcd y.natAbs (x.tmod y).natAbs = Nat.gcd x.natAbs y.natAbs
      rw [e, Nat.gcd_comm, ← Nat.gcd_rec, Nat.gcd_comm]
    · show (x.tmod y).natAbs < y.natAbs
      omega
  · refine ⟨?_, rfl, rfl⟩
    rw [← hg]
    have e : y = 0 := by omega
    subst e
    rw [Int.gcd_zero_right]
theorem c71 (G : Imm) (a b : Int) : Does Try.prog 71 [.agg #[.int .i64 a, .int .i64 b]] G [] (fun v G' Ho => v = .bool (decide (near a b)) ∧ G' = G ∧ Ho = []) := by
  refine Does.enter Try.func71 rfl Try.ntmps71 rfl (fun w => ?_)
  refine Wc.seq ?_
  refine Wc.region rfl ?_
  refine Wl.box 0 rfl rfl rfl (fun b1 => ?_)
  refine Wl.q rfl (Qy.assign rfl) ?_
  refine Wl.done ?_
  refine Ar.next ?_
  refine Wc.seq ?_
  refine Wc.region rfl ?_
  refine Wl.q rfl (Qy.fieldAddr T.fa75_0 rfl) ?_
  refine Wl.q rfl (Qy.load 0 T.one3 rfl rfl rfl) ?_
  refine Wl.call0 rfl T.fn113 rfl (by apply c113 <;> first | assumption | omega | rfl) ?_
  refine Wl.q rfl (Qy.move rfl) ?_
  apply Wl.joinAnd 4 6 10 rfl
  intro hg1
  refine Wl.want rfl rfl ?_
  refine Wl.q rfl (Qy.fieldAddr T.fa75_1 rfl) ?_
  refine Wl.want rfl rfl ?_
  refine Wl.q rfl (Qy.load 0 T.one3 rfl rfl rfl) ?_
  refine Wl.want rfl rfl ?_
  refine Wl.call0 rfl T.fn113 rfl (by apply c113 <;> first | assumption | omega | rfl) ?_
  refine Wl.q rfl (Qy.pick rfl rfl) ?_
  exact Wl.back 4 0 rfl rfl rfl rfl rfl
  intro hg1
  refine Wl.pass rfl rfl rfl ?_
  refine Wl.pass rfl rfl rfl ?_
  refine Wl.pass rfl rfl rfl ?_
  refine Wl.q rfl (Qy.pick rfl rfl) ?_
  exact Wl.back 4 0 rfl rfl rfl rfl rfl
  refine Wl.q rfl (Qy.assign rfl) ?_
  refine Wl.done ?_
  refine Ar.next ?_
  refine Wc.ret ?_
  refine Ar.out1 (.inr rfl) (Ho := Hp.only _ []) rfl (.tmp rfl) (Hp.sub_only _ _) ?_
  exact ⟨by congr 1; exact decide_eq_decide.mpr (by unfold near; omega), rfl, rfl⟩
theorem c72 (G : Imm) (a b : Int) : Does Try.prog 72 [.agg #[.int .i64 a, .int .i64 b]] G [] (fun v G' Ho => v = .bool (decide (a = 0 ∧ b = 0)) ∧ G' = G ∧ Ho = []) := by
  refine Does.enter Try.func72 rfl Try.ntmps72 rfl (fun w => ?_)
  refine Wc.seq ?_
  refine Wc.region rfl ?_
  refine Wl.box 0 rfl rfl rfl (fun b1 => ?_)
  refine Wl.q rfl (Qy.assign rfl) ?_
  refine Wl.done ?_
  refine Ar.next ?_
  refine Wc.seq ?_
  refine Wc.region rfl ?_
  refine Wl.q rfl (Qy.loadAll 0 T.agg75 rfl rfl rfl) ?_
  refine Wl.q rfl (Qy.build (cs := [_, _]) T.st75 rfl rfl rfl) ?_
  refine Wl.q rfl (Qy.eqlI [_, _] [_, _] T.ai75 rfl rfl rfl rfl) ?_
  refine Wl.q rfl (Qy.assign rfl) ?_
  refine Wl.done ?_
  refine Ar.next ?_
  refine Wc.ret ?_
  refine Ar.out1 (.inr rfl) (Ho := Hp.only _ []) rfl (.tmp rfl) (Hp.sub_only _ _) ?_
  exact ⟨by congr 1; exact decide_eq_decide.mpr (by simp), rfl, rfl⟩
theorem c63 (G : Imm) (a b : Int) : Does Try.prog 63 [.agg #[.int .i64 a, .int .i64 b]] G [] (fun v G' Ho => v = .bool (decide (near a b)) ∧ G' = G ∧ Ho = []) := by
  refine Does.enter Try.func63 rfl Try.ntmps63 rfl (fun w => ?_)
  refine Wc.seq ?_
  refine Wc.region rfl ?_
  refine Wl.box 0 rfl rfl rfl (fun b1 => ?_)
  refine Wl.q rfl (Qy.assign rfl) ?_
  refine Wl.done ?_
  refine Ar.next ?_
  refine Wc.seq ?_
  refine Wc.region rfl ?_
  refine Wl.q rfl (Qy.fieldAddr T.fa75_0 rfl) ?_
  refine Wl.q rfl (Qy.load 0 T.one3 rfl rfl rfl) ?_
  refine Wl.q rfl (Qy.geq rfl rfl) ?_
  refine Wl.q rfl (Qy.move rfl) ?_
  apply Wl.joinAnd 4 6 10 rfl
  intro hg1
  refine Wl.want rfl rfl ?_
  refine Wl.q rfl (Qy.fieldAddr T.fa75_0 rfl) ?_
  refine Wl.want rfl rfl ?_
  refine Wl.q rfl (Qy.load 0 T.one3 rfl rfl rfl) ?_
  refine Wl.want rfl rfl ?_
  refine Wl.q rfl (Qy.leq rfl rfl) ?_
  refine Wl.q rfl (Qy.pick rfl rfl) ?_
  exact Wl.back 4 0 rfl rfl rfl rfl rfl
  intro hg1
  refine Wl.pass rfl rfl rfl ?_
  refine Wl.pass rfl rfl rfl ?_
  refine Wl.pass rfl rfl rfl ?_
  refine Wl.q rfl (Qy.pick rfl rfl) ?_
  exact Wl.back 4 0 rfl rfl rfl rfl rfl
  refine Wl.q rfl (Qy.move rfl) ?_
  apply Wl.joinAnd 4 11 15 rfl
  intro hg1
  refine Wl.want rfl rfl ?_
  refine Wl.q rfl (Qy.fieldAddr T.fa75_1 rfl) ?_
  refine Wl.want rfl rfl ?_
  refine Wl.q rfl (Qy.load 0 T.one3 rfl rfl rfl) ?_
  refine Wl.want rfl rfl ?_
  refine Wl.q rfl (Qy.geq rfl rfl) ?_
  refine Wl.q rfl (Qy.pick rfl rfl) ?_
  exact Wl.back 4 0 rfl rfl rfl rfl rfl
  intro hg1
  refine Wl.pass rfl rfl rfl ?_
  refine Wl.pass rfl rfl rfl ?_
  refine Wl.pass rfl rfl rfl ?_
  refine Wl.q rfl (Qy.pick rfl rfl) ?_
  exact Wl.back 4 0 rfl rfl rfl rfl rfl
  refine Wl.q rfl (Qy.move rfl) ?_
  apply Wl.joinAnd 4 16 20 rfl
  intro hg1
  refine Wl.want rfl rfl ?_
  refine Wl.q rfl (Qy.fieldAddr T.fa75_1 rfl) ?_
  refine Wl.want rfl rfl ?_
  refine Wl.q rfl (Qy.load 0 T.one3 rfl rfl rfl) ?_
  refine Wl.want rfl rfl ?_
  refine Wl.q rfl (Qy.leq rfl rfl) ?_
  refine Wl.q rfl (Qy.pick rfl rfl) ?_
  exact Wl.back 4 0 rfl rfl rfl rfl rfl
  intro hg1
  refine Wl.pass rfl rfl rfl ?_
  refine Wl.pass rfl rfl rfl ?_
  refine Wl.pass rfl rfl rfl ?_
  refine Wl.q rfl (Qy.pick rfl rfl) ?_
  exact Wl.back 4 0 rfl rfl rfl rfl rfl
  refine Wl.q rfl (Qy.assign rfl) ?_
  refine Wl.done ?_
  refine Ar.next ?_
  refine Wc.ret ?_
  refine Ar.out1 (.inr rfl) (Ho := Hp.only _ []) rfl (.tmp rfl) (Hp.sub_only _ _) ?_
  exact ⟨by congr 1; exact decide_eq_decide.mpr (by unfold near; omega), rfl, rfl⟩
theorem c64 (G : Imm) (a b : Int) : Does Try.prog 64 [.agg #[.int .i64 a, .int .i64 b]] G [] (fun v G' Ho => v = .bool (decide (a = 0 ∧ b = 0)) ∧ G' = G ∧ Ho = []) := by
  refine Does.enter Try.func64 rfl Try.ntmps64 rfl (fun w => ?_)
  refine Wc.seq ?_
  refine Wc.region rfl ?_
  refine Wl.box 0 rfl rfl rfl (fun b1 => ?_)
  refine Wl.q rfl (Qy.assign rfl) ?_
  refine Wl.done ?_
  refine Ar.next ?_
  refine Wc.seq ?_
  refine Wc.region rfl ?_
  refine Wl.q rfl (Qy.fieldAddr T.fa75_0 rfl) ?_
  refine Wl.q rfl (Qy.load 0 T.one3 rfl rfl rfl) ?_
  refine Wl.q rfl (Qy.eql rfl rfl) ?_
  refine Wl.q rfl (Qy.move rfl) ?_
  apply Wl.joinAnd 4 6 10 rfl
  intro hg1
  refine Wl.want rfl rfl ?_
  refine Wl.q rfl (Qy.fieldAddr T.fa75_1 rfl) ?_
  refine Wl.want rfl rfl ?_
  refine Wl.q rfl (Qy.load 0 T.one3 rfl rfl rfl) ?_
  refine Wl.want rfl rfl ?_
  refine Wl.q rfl (Qy.eql rfl rfl) ?_
  refine Wl.q rfl (Qy.pick rfl rfl) ?_
  exact Wl.back 4 0 rfl rfl rfl rfl rfl
  intro hg1
  refine Wl.pass rfl rfl rfl ?_
  refine Wl.pass rfl rfl rfl ?_
  refine Wl.pass rfl rfl rfl ?_
  refine Wl.q rfl (Qy.pick rfl rfl) ?_
  exact Wl.back 4 0 rfl rfl rfl rfl rfl
  refine Wl.q rfl (Qy.assign rfl) ?_
  refine Wl.done ?_
  refine Ar.next ?_
  refine Wc.ret ?_
  refine Ar.out1 (.inr rfl) (Ho := Hp.only _ []) rfl (.tmp rfl) (Hp.sub_only _ _) ?_
  exact ⟨rfl, rfl, rfl⟩
def normG (a b : Int) : Int := if b < 0 ∨ (b = 0 ∧ a < 0) then -(Int.gcd a b : Int) else (Int.gcd a b : Int)
def nrm (a b : Int) : Int × Int := if a = 0 ∧ b = 0 then (a, b) else (a.tdiv (normG a b), b.tdiv (normG a b))
theorem tdiv_rng (a g : Int) : -(a.natAbs : Int) ≤ a.tdiv g ∧ a.tdiv g ≤ a.natAbs := by
  have h : (a.tdiv g).natAbs = a.natAbs / g.natAbs := Int.natAbs_tdiv a g
  have h2 := Nat.div_le_self a.natAbs g.natAbs
  omega
theorem c110 (G : Imm) (a b : Int) (h1 : -4611686018427387904 ≤ a ∧ a ≤ 4611686018427387904) (h2 : -4611686018427387904 ≤ b ∧ b ≤ 4611686018427387904) : Does Try.prog 110 [.agg #[.int .i64 a, .int .i64 b]] G [] (fun v G' Ho => v = .agg #[.int .i64 (nrm a b).1, .int .i64 (nrm a b).2] ∧ G' = G ∧ Ho = []) := by
  refine Does.enter Try.func110 rfl Try.ntmps110 rfl (fun w => ?_)
  have hga := Int.gcd_dvd_left a b
  have hgb := Int.gcd_dvd_right a b
  have hgm : (Int.gcd a b : Int) ≤ 4611686018427387904 := by
    by_cases h : a = 0
    · subst h; rw [Int.gcd_zero_left]; omega
    · have := Int.le_of_dvd (show 0 < (a.natAbs : Int) by omega) (Int.dvd_natAbs.mpr hga); omega
  have q1 := tdiv_rng a (Int.gcd a b : Int)
  have q2 := tdiv_rng b (Int.gcd a b : Int)
  have q3 := tdiv_rng a (-(Int.gcd a b : Int))
  have q4 := tdiv_rng b (-(Int.gcd a b : Int))
  refine Wc.seq ?_
  refine Wc.region rfl ?_
  refine Wl.box 0 rfl rfl rfl (fun b1 => ?_)
  refine Wl.alloc 1 rfl T.zero75 (fun b2 => ?_)
  refine Wl.done ?_
  refine Ar.next ?_
  refine Wc.seq ?_
  refine Wc.region rfl ?_
  refine Wl.q rfl (Qy.fieldAddr T.fa75_0 rfl) ?_
  refine Wl.q rfl (Qy.load 0 T.one3 rfl rfl rfl) ?_
  refine Wl.q rfl (Qy.fieldAddr T.fa75_1 rfl) ?_
  refine Wl.q rfl (Qy.load 0 T.one3 rfl rfl rfl) ?_
  refine Wl.call0 rfl T.fn143 rfl (c143 _ _ _ (by omega) (by omega)) ?_
  refine Wl.q rfl (Qy.assign rfl) ?_
  refine Wl.done ?_
  refine Ar.next ?_
  refine Wc.seq ?_
  refine Wc.block ?_
  refine Wc.seq ?_
  refine Wc.region rfl ?_
  refine Wl.q rfl (Qy.move rfl) ?_
  refine Wl.q rfl (Qy.eql rfl rfl) ?_
  refine Wl.q rfl (Qy.assign rfl) ?_
  refine Wl.done ?_
  refine Ar.next ?_
  refine Wc.cond rfl (fun hc1 => ?_) (fun hc1 => ?_)
  refine Wc.seq ?_
  refine Wc.region rfl ?_
  refine Wl.q rfl (Qy.loadAll 0 T.agg75 rfl rfl rfl) ?_
  refine Wl.storeAll 1 T.size75 rfl rfl rfl rfl rfl rfl ?_
  refine Wl.done ?_
  refine Ar.next ?_
  refine Wc.ret ?_
  refine Ar.outRet ?_
  refine Ar.passRet ?_
  refine Ar.out1 (.inr rfl) (Ho := Hp.only _ []) rfl (.agg 1 rfl rfl T.agg75) (Hp.sub_only _ _) ?_
  rotate_left
  refine Wc.seq ?_
  refine Wc.seq ?_
  refine Wc.region rfl ?_
  refine Wl.q rfl (Qy.fieldAddr T.fa75_1 rfl) ?_
  refine Wl.q rfl (Qy.load 0 T.one3 rfl rfl rfl) ?_
  refine Wl.q rfl (Qy.lss rfl rfl) ?_
  refine Wl.q rfl (Qy.assign rfl) ?_
  refine Wl.done ?_
  refine Ar.next ?_
  refine Wc.cond rfl (fun hc2 => ?_) (fun hc2 => ?_)
  refine Wc.skip ?_
  refine Ar.next ?_
  refine Wc.condP rfl (by first | assumption | omega) ?_
  refine Wc.region rfl ?_
  refine Wl.q rfl (Qy.move rfl) ?_
  refine Wl.q rfl (Qy.neg rfl (by omega)) ?_
  refine Wl.q rfl (Qy.assign rfl) ?_
  refine Wl.done ?_
  refine Ar.outNormal ?_
  refine Ar.next ?_
  refine Wc.seq ?_
  refine Wc.draw [0, 1] [(1, 9)] T.mixed rfl ?_
  refine Gm.q 0 [] (by kernel_rfl) rfl rfl (Qy.fieldAddr T.fa75_0 rfl) ?_
  refine Gm.q 1 [0] (by kernel_rfl) rfl rfl (Qy.load 0 T.one3 rfl rfl rfl) ?_
  refine Gm.q 2 [] (by kernel_rfl) rfl rfl (Qy.move rfl) ?_
  refine Gm.q 3 [] (by kernel_rfl) rfl rfl (Qy.quo rfl rfl (by omega) (by omega)) ?_
  refine Gm.q 4 [] (by kernel_rfl) rfl rfl (Qy.fieldAddr T.fa75_1 rfl) ?_
  refine Gm.q 5 [0] (by kernel_rfl) rfl rfl (Qy.load 0 T.one3 rfl rfl rfl) ?_
  refine Gm.q 6 [] (by kernel_rfl) rfl rfl (Qy.move rfl) ?_
  refine Gm.q 7 [] (by kernel_rfl) rfl rfl (Qy.quo rfl rfl (by omega) (by omega)) ?_
  refine Gm.q 8 [] (by kernel_rfl) rfl rfl (Qy.build (cs := [_, _]) T.st75 rfl rfl rfl) ?_
  refine Gm.one 9 ⟨rfl, rfl, trivial⟩ (by first | exact Imm.le_refl _ | assumption | (refine Imm.le_trans ?_ (by assumption); first | assumption | (refine Imm.le_trans ?_ (by assumption); assumption))) (by kernel_rfl) rfl ?_
  refine Wl.storeAll 1 T.size75 rfl rfl rfl rfl rfl rfl ?_
  refine Wl.on0 ?_
  refine Gm.doneA (by kernel_rfl) ⟨rfl, trivial⟩ (by first | exact Imm.le_refl _ | assumption | (refine Imm.le_trans ?_ (by assumption); first | assumption | (refine Imm.le_trans ?_ (by assumption); assumption))) ?_
  refine Ar.next ?_
  refine Wc.ret ?_
  refine Ar.out1 (.inr rfl) (Ho := Hp.only _ []) rfl (.agg 1 rfl rfl T.agg75) (Hp.sub_only _ _) ?_
  rotate_left
  refine Wc.region rfl ?_
  refine Wl.q rfl (Qy.fieldAddr T.fa75_1 rfl) ?_
  refine Wl.q rfl (Qy.load 0 T.one3 rfl rfl rfl) ?_
  refine Wl.q rfl (Qy.eql rfl rfl) ?_
  refine Wl.q rfl (Qy.move rfl) ?_
  apply Wl.joinAnd 4 20 24 rfl
  intro hg1
  refine Wl.want rfl rfl ?_
  refine Wl.q rfl (Qy.fieldAddr T.fa75_0 rfl) ?_
  refine Wl.want rfl rfl ?_
  refine Wl.q rfl (Qy.load 0 T.one3 rfl rfl rfl) ?_
  refine Wl.want rfl rfl ?_
  refine Wl.q rfl (Qy.lss rfl rfl) ?_
  refine Wl.q rfl (Qy.pick rfl rfl) ?_
  exact Wl.back 4 0 rfl rfl rfl rfl rfl
  intro hg1
  refine Wl.pass rfl rfl rfl ?_
  refine Wl.pass rfl rfl rfl ?_
  refine Wl.pass rfl rfl rfl ?_
  refine Wl.q rfl (Qy.pick rfl rfl) ?_
  exact Wl.back 4 0 rfl rfl rfl rfl rfl
  refine Wl.q rfl (Qy.assign rfl) ?_
  refine Wl.done ?_
  refine Ar.next ?_
  refine Wc.cond rfl (fun hc3 => ?_) (fun hc3 => ?_)
  refine Wc.region rfl ?_
  refine Wl.q rfl (Qy.move rfl) ?_
  refine Wl.q rfl (Qy.neg rfl (by omega)) ?_
  refine Wl.q rfl (Qy.assign rfl) ?_
  refine Wl.done ?_
  refine Ar.outNormal ?_
  refine Ar.next ?_
  refine Wc.seq ?_
  refine Wc.draw [0, 1] [(1, 9)] T.mixed rfl ?_
  refine Gm.q 0 [] (by kernel_rfl) rfl rfl (Qy.fieldAddr T.fa75_0 rfl) ?_
  refine Gm.q 1 [0] (by kernel_rfl) rfl rfl (Qy.load 0 T.one3 rfl rfl rfl) ?_
  refine Gm.q 2 [] (by kernel_rfl) rfl rfl (Qy.move rfl) ?_
  refine Gm.q 3 [] (by kernel_rfl) rfl rfl (Qy.quo rfl rfl (by omega) (by omega)) ?_
  refine Gm.q 4 [] (by kernel_rfl) rfl rfl (Qy.fieldAddr T.fa75_1 rfl) ?_
  refine Gm.q 5 [0] (by kernel_rfl) rfl rfl (Qy.load 0 T.one3 rfl rfl rfl) ?_
  refine Gm.q 6 [] (by kernel_rfl) rfl rfl (Qy.move rfl) ?_
  refine Gm.q 7 [] (by kernel_rfl) rfl rfl (Qy.quo rfl rfl (by omega) (by omega)) ?_
  refine Gm.q 8 [] (by kernel_rfl) rfl rfl (Qy.build (cs := [_, _]) T.st75 rfl rfl rfl) ?_
  refine Gm.one 9 ⟨rfl, rfl, trivial⟩ (by first | exact Imm.le_refl _ | assumption | (refine Imm.le_trans ?_ (by assumption); first | assumption | (refine Imm.le_trans ?_ (by assumption); assumption))) (by kernel_rfl) rfl ?_
  refine Wl.storeAll 1 T.size75 rfl rfl rfl rfl rfl rfl ?_
  refine Wl.on0 ?_
  refine Gm.doneA (by kernel_rfl) ⟨rfl, trivial⟩ (by first | exact Imm.le_refl _ | assumption | (refine Imm.le_trans ?_ (by assumption); first | assumption | (refine Imm.le_trans ?_ (by assumption); assumption))) ?_
  refine Ar.next ?_
  refine Wc.ret ?_
  refine Ar.out1 (.inr rfl) (Ho := Hp.only _ []) rfl (.agg 1 rfl rfl T.agg75) (Hp.sub_only _ _) ?_
  rotate_left
  refine Wc.skip ?_
  refine Ar.outNormal ?_
  refine Ar.next ?_
  refine Wc.seq ?_
  refine Wc.draw [0, 1] [(1, 9)] T.mixed rfl ?_
  refine Gm.q 0 [] (by kernel_rfl) rfl rfl (Qy.fieldAddr T.fa75_0 rfl) ?_
  refine Gm.q 1 [0] (by kernel_rfl) rfl rfl (Qy.load 0 T.one3 rfl rfl rfl) ?_
  refine Gm.q 2 [] (by kernel_rfl) rfl rfl (Qy.move rfl) ?_
  refine Gm.q 3 [] (by kernel_rfl) rfl rfl (Qy.quo rfl rfl (by omega) (by omega)) ?_
  refine Gm.q 4 [] (by kernel_rfl) rfl rfl (Qy.fieldAddr T.fa75_1 rfl) ?_
  refine Gm.q 5 [0] (by kernel_rfl) rfl rfl (Qy.load 0 T.one3 rfl rfl rfl) ?_
  refine Gm.q 6 [] (by kernel_rfl) rfl rfl (Qy.move rfl) ?_
  refine Gm.q 7 [] (by kernel_rfl) rfl rfl (Qy.quoP rfl rfl (by omega)) ?_
  refine Gm.q 8 [] (by kernel_rfl) rfl rfl (Qy.build (cs := [_, _]) T.st75 rfl rfl rfl) ?_
  refine Gm.one 9 ⟨rfl, rfl, trivial⟩ (by first | exact Imm.le_refl _ | assumption | (refine Imm.le_trans ?_ (by assumption); first | assumption | (refine Imm.le_trans ?_ (by assumption); assumption))) (by kernel_rfl) rfl ?_
  refine Wl.storeAll 1 T.size75 rfl rfl rfl rfl rfl rfl ?_
  refine Wl.on0 ?_
  refine Gm.doneA (by kernel_rfl) ⟨rfl, trivial⟩ (by first | exact Imm.le_refl _ | assumption | (refine Imm.le_trans ?_ (by assumption); first | assumption | (refine Imm.le_trans ?_ (by assumption); assumption))) ?_
  refine Ar.next ?_
  refine Wc.ret ?_
  refine Ar.out1 (.inr rfl) (Ho := Hp.only _ []) rfl (.agg 1 rfl rfl T.agg75) (Hp.sub_only _ _) ?_
  rotate_left
  · obtain ⟨ea, eb⟩ := Int.gcd_eq_zero_iff.mp (show Int.gcd a b = 0 by omega)
    exact ⟨by unfold nrm; rw [if_pos ⟨ea, eb⟩], rfl, rfl⟩
  · have hn : ¬(a = 0 ∧ b = 0) := by omega
    exact ⟨by unfold nrm normG; rw [if_neg hn, if_pos (by omega)], rfl, rfl⟩
  · have hn : ¬(a = 0 ∧ b = 0) := by omega
    exact ⟨by unfold nrm normG; rw [if_neg hn, if_pos (by omega)], rfl, rfl⟩
  · have hn : ¬(a = 0 ∧ b = 0) := fun h => hc1 (by rw [h.1, h.2]; rfl)
    exact ⟨by unfold nrm normG; rw [if_neg hn, if_neg (by omega), Int.tdiv_eq_ediv_of_nonneg (a := b) (by omega)], rfl, rfl⟩
def same (a b c d : Int) : Prop := nrm a b = nrm c d
instance (a b c d : Int) : Decidable (same a b c d) := inferInstanceAs (Decidable (_ = _))
theorem c114 (G : Imm) (a b c d : Int) : Does Try.prog 114 [.agg #[.int .i64 a, .int .i64 b], .agg #[.int .i64 c, .int .i64 d]] G [] (fun v G' Ho => v = .tuple #[.bool (decide (near a b ∧ near c d ∧ same a b c d)), .int .i64 (if near a b ∧ near c d then 0 else 2)] ∧ G' = G ∧ Ho = []) := by
  refine Does.enter Try.func114 rfl Try.ntmps114 rfl (fun w => ?_)
  refine Wc.seq ?_
  refine Wc.region rfl ?_
  refine Wl.box 0 rfl rfl rfl (fun b1 => ?_)
  refine Wl.box 1 rfl rfl rfl (fun b2 => ?_)
  refine Wl.q rfl (Qy.assign rfl) ?_
  refine Wl.q rfl (Qy.assign rfl) ?_
  refine Wl.done ?_
  refine Ar.next ?_
  refine Wc.seq ?_
  refine Wc.seq ?_
  refine Wc.region rfl ?_
  refine Wl.q rfl (Qy.loadAll 0 T.agg75 rfl rfl rfl) ?_
  refine Wl.call0 rfl T.fn71 rfl (by apply c71 <;> first | assumption | omega | rfl) ?_
  refine Wl.q rfl (Qy.notD rfl) ?_
  refine Wl.q rfl (Qy.move rfl) ?_
  apply Wl.joinOr 4 9 13 rfl
  intro hg1
  refine Wl.want rfl rfl ?_
  refine Wl.q rfl (Qy.loadAll 1 T.agg75 rfl rfl rfl) ?_
  refine Wl.want rfl rfl ?_
  refine Wl.call0 rfl T.fn71 rfl (by apply c71 <;> first | assumption | omega | rfl) ?_
  refine Wl.want rfl rfl ?_
  refine Wl.q rfl (Qy.notD rfl) ?_
  refine Wl.q rfl (Qy.pick rfl rfl) ?_
  exact Wl.back 4 0 rfl rfl rfl rfl rfl
  intro hg1
  refine Wl.pass rfl rfl rfl ?_
  refine Wl.pass rfl rfl rfl ?_
  refine Wl.pass rfl rfl rfl ?_
  refine Wl.q rfl (Qy.pick rfl rfl) ?_
  exact Wl.back 4 0 rfl rfl rfl rfl rfl
  refine Wl.done ?_
  refine Ar.next ?_
  refine Wc.cond rfl (fun hc1 => ?_) (fun hc1 => ?_)
  refine Wc.seq ?_
  refine Wc.region rfl ?_
  refine Wl.q rfl (Qy.assign rfl) ?_
  refine Wl.q rfl (Qy.assign rfl) ?_
  refine Wl.done ?_
  refine Ar.next ?_
  refine Wc.ret ?_
  refine Ar.passRet ?_
  refine Ar.out2 (.inr rfl) (Ho := Hp.only _ []) rfl (.tmp rfl) (.tmp rfl) (Hp.sub_only _ _) ?_
  rotate_left
  refine Wc.skip ?_
  refine Ar.next ?_
  refine Wc.seq ?_
  refine Wc.draw [0, 1] [] T.mixed rfl ?_
  refine Gm.q 0 [0] (by kernel_rfl) rfl rfl (Qy.loadAll 0 T.agg75 rfl rfl rfl) ?_
  refine Gm.q 2 [1] (by kernel_rfl) rfl rfl (Qy.loadAll 1 T.agg75 rfl rfl rfl) ?_
  refine Gm.one 1 ⟨rfl, rfl, trivial⟩ (by first | exact Imm.le_refl _ | assumption | (refine Imm.le_trans ?_ (by assumption); first | assumption | (refine Imm.le_trans ?_ (by assumption); assumption))) (by kernel_rfl) rfl ?_
  refine Wl.call0 rfl T.fn110 rfl (c110 _ _ _ (by unfold near at *; omega) (by unfold near at *; omega)) ?_
  refine Wl.on0 ?_
  refine Gm.one 3 ⟨rfl, rfl, trivial⟩ (by first | exact Imm.le_refl _ | assumption | (refine Imm.le_trans ?_ (by assumption); first | assumption | (refine Imm.le_trans ?_ (by assumption); assumption))) (by kernel_rfl) rfl ?_
  refine Wl.call0 rfl T.fn110 rfl (c110 _ _ _ (by unfold near at *; omega) (by unfold near at *; omega)) ?_
  refine Wl.on0 ?_
  refine Gm.q 4 [] (by kernel_rfl) rfl rfl (Qy.eqlI [_, _] [_, _] T.ai75 rfl rfl rfl rfl) ?_
  refine Gm.q 5 [] (by kernel_rfl) rfl rfl (Qy.assign rfl) ?_
  refine Gm.q 6 [] (by kernel_rfl) rfl rfl (Qy.assign rfl) ?_
  refine Gm.doneA (by kernel_rfl) ⟨rfl, rfl, trivial⟩ (by first | exact Imm.le_refl _ | assumption | (refine Imm.le_trans ?_ (by assumption); first | assumption | (refine Imm.le_trans ?_ (by assumption); assumption))) ?_
  refine Ar.next ?_
  refine Wc.ret ?_
  refine Ar.out2 (.inr rfl) (Ho := Hp.only _ []) rfl (.tmp rfl) (.tmp rfl) (Hp.sub_only _ _) ?_
  rotate_left
  · exact ⟨by rw [if_neg (by unfold near at *; omega), decide_eq_false (fun h => absurd (And.intro h.1 h.2.1) (by unfold near at *; omega))], rfl, rfl⟩
  · refine ⟨?_, rfl, rfl⟩
    rw [if_pos (by unfold near at *; omega)]
    congr 4
    exact decide_eq_decide.mpr (by unfold same near at *; rw [Prod.ext_iff]; simp; omega)
theorem mul_rng {a b c d : Int} (h : near a b) (k : near c d) : -256 ≤ a * d ∧ a * d ≤ 256 := by
  unfold near at *
  have h1 : (a * d).natAbs ≤ 16 * 16 := by rw [Int.natAbs_mul]; exact Nat.mul_le_mul (by omega) (by omega)
  omega
theorem c68 (G : Imm) (a b c d : Int) : Does Try.prog 68 [.agg #[.int .i64 a, .int .i64 b], .agg #[.int .i64 c, .int .i64 d]] G [] (fun v G' Ho => v = .tuple #[.int .i64 (if near a b ∧ near c d then a * d - c * b else 0), .int .i64 (if near a b ∧ near c d then 0 else 2)] ∧ G' = G ∧ Ho = []) := by
  refine Does.enter Try.func68 rfl Try.ntmps68 rfl (fun w => ?_)
  refine Wc.seq ?_
  refine Wc.region rfl ?_
  refine Wl.box 0 rfl rfl rfl (fun b1 => ?_)
  refine Wl.box 1 rfl rfl rfl (fun b2 => ?_)
  refine Wl.q rfl (Qy.assign rfl) ?_
  refine Wl.q rfl (Qy.assign rfl) ?_
  refine Wl.done ?_
  refine Ar.next ?_
  refine Wc.seq ?_
  refine Wc.seq ?_
  refine Wc.region rfl ?_
  refine Wl.q rfl (Qy.loadAll 0 T.agg75 rfl rfl rfl) ?_
  refine Wl.call0 rfl T.fn71 rfl (by apply c71 <;> first | assumption | omega | rfl) ?_
  refine Wl.q rfl (Qy.notD rfl) ?_
  refine Wl.q rfl (Qy.move rfl) ?_
  apply Wl.joinOr 4 9 13 rfl
  intro hg1
  refine Wl.want rfl rfl ?_
  refine Wl.q rfl (Qy.loadAll 1 T.agg75 rfl rfl rfl) ?_
  refine Wl.want rfl rfl ?_
  refine Wl.call0 rfl T.fn71 rfl (by apply c71 <;> first | assumption | omega | rfl) ?_
  refine Wl.want rfl rfl ?_
  refine Wl.q rfl (Qy.notD rfl) ?_
  refine Wl.q rfl (Qy.pick rfl rfl) ?_
  exact Wl.back 4 0 rfl rfl rfl rfl rfl
  intro hg1
  refine Wl.pass rfl rfl rfl ?_
  refine Wl.pass rfl rfl rfl ?_
  refine Wl.pass rfl rfl rfl ?_
  refine Wl.q rfl (Qy.pick rfl rfl) ?_
  exact Wl.back 4 0 rfl rfl rfl rfl rfl
  refine Wl.done ?_
  refine Ar.next ?_
  refine Wc.cond rfl (fun hc1 => ?_) (fun hc1 => ?_)
  refine Wc.seq ?_
  refine Wc.region rfl ?_
  refine Wl.q rfl (Qy.assign rfl) ?_
  refine Wl.q rfl (Qy.assign rfl) ?_
  refine Wl.done ?_
  refine Ar.next ?_
  refine Wc.ret ?_
  refine Ar.passRet ?_
  refine Ar.out2 (.inr rfl) (Ho := Hp.only _ []) rfl (.tmp rfl) (.tmp rfl) (Hp.sub_only _ _) ?_
  rotate_left
  refine Wc.skip ?_
  refine Ar.next ?_
  refine Wc.seq ?_
  refine Wc.region rfl ?_
  refine Wl.q rfl (Qy.fieldAddr T.fa75_0 rfl) ?_
  refine Wl.q rfl (Qy.load 0 T.one3 rfl rfl rfl) ?_
  refine Wl.q rfl (Qy.fieldAddr T.fa75_1 rfl) ?_
  refine Wl.q rfl (Qy.load 1 T.one3 rfl rfl rfl) ?_
  refine Wl.q rfl (Qy.mulW rfl rfl) ?_
  refine Wl.q rfl (Qy.fieldAddr T.fa75_0 rfl) ?_
  refine Wl.q rfl (Qy.load 1 T.one3 rfl rfl rfl) ?_
  refine Wl.q rfl (Qy.fieldAddr T.fa75_1 rfl) ?_
  refine Wl.q rfl (Qy.load 0 T.one3 rfl rfl rfl) ?_
  refine Wl.q rfl (Qy.mulW rfl rfl) ?_
  refine Wl.q rfl (Qy.subW rfl rfl) ?_
  refine Wl.q rfl (Qy.assign rfl) ?_
  refine Wl.q rfl (Qy.assign rfl) ?_
  refine Wl.done ?_
  refine Ar.next ?_
  refine Wc.ret ?_
  refine Ar.out2 (.inr rfl) (Ho := Hp.only _ []) rfl (.tmp rfl) (.tmp rfl) (Hp.sub_only _ _) ?_
  rotate_left
  · exact ⟨by rw [if_neg (by unfold near at *; omega), if_neg (by unfold near at *; omega)], rfl, rfl⟩
  · have hn : near a b ∧ near c d := by unfold near at *; omega
    have m1 := mul_rng hn.1 hn.2
    have m2 := mul_rng hn.2 hn.1
    exact ⟨by rw [if_pos hn, if_pos hn, IntWalk.i64_in (a * d) (by omega), IntWalk.i64_in (c * b) (by omega), IntWalk.i64_in _ (by omega)], rfl, rfl⟩
theorem c67 (G : Imm) (a b : Int) : Does Try.prog 67 [.agg #[.int .i64 a, .int .i64 b]] G [] (fun v G' Ho => v = .tuple #[.agg (if near a b then #[.int .i64 (nrm a b).1, .int .i64 (nrm a b).2] else #[.int .i64 0, .int .i64 0]), .int .i64 (if near a b then 0 else 2)] ∧ G' = G ∧ Ho = []) := by
  refine Does.enter Try.func67 rfl Try.ntmps67 rfl (fun w => ?_)
  refine Wc.seq ?_
  refine Wc.region rfl ?_
  refine Wl.box 0 rfl rfl rfl (fun b1 => ?_)
  refine Wl.alloc 1 rfl T.zero75 (fun b2 => ?_)
  refine Wl.q rfl (Qy.assign rfl) ?_
  refine Wl.done ?_
  refine Ar.next ?_
  refine Wc.seq ?_
  refine Wc.seq ?_
  refine Wc.region rfl ?_
  refine Wl.q rfl (Qy.loadAll 0 T.agg75 rfl rfl rfl) ?_
  refine Wl.call0 rfl T.fn71 rfl (by apply c71 <;> first | assumption | omega | rfl) ?_
  refine Wl.q rfl (Qy.notD rfl) ?_
  refine Wl.done ?_
  refine Ar.next ?_
  refine Wc.cond rfl (fun hc1 => ?_) (fun hc1 => ?_)
  refine Wc.seq ?_
  refine Wc.region rfl ?_
  refine Wl.q rfl (Qy.build (cs := [_, _]) T.st75 rfl rfl rfl) ?_
  refine Wl.storeAll 1 T.size75 rfl rfl rfl rfl rfl rfl ?_
  refine Wl.q rfl (Qy.assign rfl) ?_
  refine Wl.done ?_
  refine Ar.next ?_
  refine Wc.ret ?_
  refine Ar.passRet ?_
  refine Ar.out2 (.inr rfl) (Ho := Hp.only _ []) rfl (.agg 1 rfl rfl T.agg75) (.tmp rfl) (Hp.sub_only _ _) ?_
  rotate_left
  refine Wc.skip ?_
  refine Ar.next ?_
  refine Wc.seq ?_
  refine Wc.region rfl ?_
  refine Wl.q rfl (Qy.loadAll 0 T.agg75 rfl rfl rfl) ?_
  refine Wl.call0 rfl T.fn110 rfl (c110 _ _ _ (by unfold near at *; omega) (by unfold near at *; omega)) ?_
  refine Wl.storeAll 1 T.size75 rfl rfl rfl rfl rfl rfl ?_
  refine Wl.q rfl (Qy.assign rfl) ?_
  refine Wl.done ?_
  refine Ar.next ?_
  refine Wc.ret ?_
  refine Ar.out2 (.inr rfl) (Ho := Hp.only _ []) rfl (.agg 1 rfl rfl T.agg75) (.tmp rfl) (Hp.sub_only _ _) ?_
  rotate_left
  · exact ⟨by rw [if_neg (by unfold near at *; omega), if_neg (by unfold near at *; omega)], rfl, rfl⟩
  · exact ⟨by rw [if_pos (by unfold near at *; omega), if_pos (by unfold near at *; omega)], rfl, rfl⟩
end Go.Proofs.Ytbppmiimeccclaa
set_option maxRecDepth 100000
set_option linter.unusedVariables false
namespace Go.Proofs.Ytbppmiimeccclaa
open Go Go.Sl
def alikeP (p q : R2) : Prop := near p.a p.b ∧ near q.a q.b ∧ same p.a p.b q.a q.b
def Twin (l : List R2) : Prop := ∃ j, j < l.length ∧ ∃ i, i < j ∧ alikeP (l[i]?.getD default) (l[j]?.getD default)
theorem c73 (G : Imm) (a : Option Addr) (c : Nat) (l : List R2) (ha : Arr G a l) (h1 : l.length ≤ 1048576) (hc : l.length ≤ c) : Does Try.prog 73 [.slice a l.length c] G [] (fun v G' Ho => ∃ (i j : Int) (b : Bool), v = .tuple #[.int .i64 i, .int .i64 j, .bool b] ∧ (b = true ↔ Twin l) ∧ G' = G ∧ Ho = []) := by
  refine Does.enter Try.func73 rfl Try.ntmps73 rfl (fun w => ?_)
  refine Wc.seq ?_
  refine Wc.region rfl ?_
  refine Wl.q rfl (Qy.assign rfl) ?_
  refine Wl.q rfl (Qy.assign rfl) ?_
  refine Wl.q rfl (Qy.assign rfl) ?_
  refine Wl.done ?_
  refine Ar.next ?_
  refine Wc.seq ?_
  refine Wc.seq ?_
  refine Wc.region rfl ?_
  refine Wl.q rfl (Qy.move rfl) ?_
  refine Wl.q rfl (Qy.len T.sl47 rfl) ?_
  refine Wl.q rfl (Qy.move rfl) ?_
  refine Wl.done ?_
  refine Ar.next ?_
  refine Wc.block ?_
  refine Wc.loop (ι := Nat) (fun j => ([(13, .int .i64 (j : Int)), (12, Go.Value.int Go.IntKind.i64 (↑(List.length l) : Int)), (11, Go.Value.slice a (List.length l) c), (0, Go.Value.slice a (List.length l) c)], [])) (fun j => j ≤ l.length ∧ (∀ j', j' < j → ∀ i, i < j' → ¬ alikeP (l[i]?.getD default) (l[j']?.getD default))) (fun j => l.length - j) (0) (⟨Nat.zero_le _, fun j' h => absurd h (by omega)⟩) ⟨rfl, rfl, rfl, rfl, trivial⟩ trivial (fun j => fun (hk : j ≤ l.length ∧ (∀ j', j' < j → ∀ i, i < j' → ¬ alikeP (l[i]?.getD default) (l[j']?.getD default))) => ?_)
  obtain ⟨hj, hno⟩ := hk
  refine Wc.seq ?_
  refine Wc.region rfl ?_
  refine Wl.q rfl (Qy.lss rfl rfl) ?_
  refine Wl.done ?_
  refine Ar.next ?_
  refine Wc.seq ?_
  refine Wc.cond rfl (fun hc1 => ?_) (fun hc1 => ?_)
  refine Wc.skip ?_
  refine Ar.next ?_
  refine Wc.seq ?_
  refine Wc.block ?_
  refine Wc.seq ?_
  refine Wc.region rfl ?_
  refine Wl.q rfl (Qy.move rfl) ?_
  refine Wl.q rfl (Qy.at (α := R2) T.sl47 rfl rfl (by assumption) (by omega)) ?_
  refine Wl.q rfl (Qy.loadsG T.agg75 rfl (Arr.elem (by assumption) (by omega)) rfl) ?_
  refine Wl.alloc 0 rfl T.zero75 (fun b1 => ?_)
  refine Wl.q rfl (Qy.assign rfl) ?_
  refine Wl.storeAll 0 T.size75 rfl rfl rfl rfl rfl rfl ?_
  refine Wl.done ?_
  refine Ar.next ?_
  refine Wc.seq ?_
  refine Wc.region rfl ?_
  refine Wl.q rfl (Qy.move rfl) ?_
  refine Wl.q rfl (Qy.move rfl) ?_
  refine Wl.q rfl (Qy.cutH T.sl47 rfl rfl (by omega)) ?_
  refine Wl.q rfl (Qy.len T.sl47 rfl) ?_
  refine Wl.q rfl (Qy.move rfl) ?_
  refine Wl.done ?_
  refine Ar.next ?_
  refine Wc.block ?_
  rotate_left
  refine Wc.exit ?_
  refine Ar.passExit ?_
  refine Ar.passExit ?_
  refine Ar.here ?_
  refine Ar.next ?_
  refine Wc.seq ?_
  refine Wc.region rfl ?_
  refine Wl.q rfl (Qy.assign rfl) ?_
  refine Wl.q rfl (Qy.assign rfl) ?_
  refine Wl.q rfl (Qy.assign rfl) ?_
  refine Wl.done ?_
  refine Ar.next ?_
  refine Wc.ret ?_
  refine Ar.out3 (.inr rfl) (Ho := Hp.only _ []) rfl (.tmp rfl) (.tmp rfl) (.tmp rfl) (Hp.sub_only _ _) ?_
  rotate_left
  · have haj : Arr G (subA a c 0 2) (l.take j) := barr_sub ha j
    have ej : (l.take j).length = j := by rw [List.length_take]; omega
    refine Wc.re 20 rfl (show _ = Value.slice (subA a c 0 2) (l.take j).length c by rw [ej]; rfl) ?_
    refine Wc.loop (ι := Nat) (fun i => ([(22, .int .i64 (i : Int)), (0, .slice a l.length c), (11, .slice a l.length c), (12, .int .i64 (l.length : Int)), (20, Go.Value.slice (Go.Sl.subA a c 0 2) (List.length (List.take j l)) c), (21, Go.Value.int Go.IntKind.i64 (↑(Int.toNat (↑j : Int)) : Int)), (5, Go.Value.int Go.IntKind.i64 (↑j : Int)), (6, Go.Value.pointer (Option.some (Go.Addr.mk b1 0 Option.none))), (13, Go.Value.int Go.IntKind.i64 (↑j : Int))], [(0, Option.some b1, Go.Obj.cells (List.toArray (Go.Sl.Cells.enc (Option.getD l[Int.toNat (↑j : Int)]? Inhabited.default))) 75)])) (fun i => i ≤ j ∧ (∀ i', i' < i → ¬ alikeP (l[i']?.getD default) (l[j]?.getD default))) (fun i => j - i) (0) (⟨Nat.zero_le _, fun i' h => absurd h (by omega)⟩) ⟨rfl, rfl, rfl, rfl, rfl, rfl, rfl, rfl, rfl, trivial⟩ ⟨rfl, trivial⟩ (fun i => fun (hk : i ≤ j ∧ (∀ i', i' < i → ¬ alikeP (l[i']?.getD default) (l[j]?.getD default))) => ?_)
    obtain ⟨hi, hni⟩ := hk
    have eti : i < j → (l.take j)[((i : Nat) : Int).toNat]?.getD default = l[i]?.getD default := fun h => by rw [List.getElem?_take, if_pos (by omega)]; rfl
    have etj : l[((j : Nat) : Int).toNat]?.getD default = l[j]?.getD default := rfl
    refine Wc.seq ?_
    refine Wc.region rfl ?_
    refine Wl.q rfl (Qy.lss rfl rfl) ?_
    refine Wl.done ?_
    refine Ar.next ?_
    refine Wc.seq ?_
    refine Wc.cond rfl (fun hc2 => ?_) (fun hc2 => ?_)
    refine Wc.skip ?_
    refine Ar.next ?_
    refine Wc.seq ?_
    refine Wc.block ?_
    refine Wc.seq ?_
    refine Wc.region rfl ?_
    refine Wl.q rfl (Qy.move rfl) ?_
    refine Wl.q rfl (Qy.at (α := R2) T.sl47 rfl rfl (by assumption) (by omega)) ?_
    refine Wl.q rfl (Qy.loadsG T.agg75 rfl (Arr.elem (by assumption) (by omega)) rfl) ?_
    refine Wl.alloc 1 rfl T.zero75 (fun b2 => ?_)
    refine Wl.q rfl (Qy.assign rfl) ?_
    refine Wl.storeAll 1 T.size75 rfl rfl rfl rfl rfl rfl ?_
    refine Wl.done ?_
    refine Ar.next ?_
    refine Wc.seq ?_
    refine Wc.region rfl ?_
    refine Wl.q rfl (Qy.loadAll 1 T.agg75 rfl rfl rfl) ?_
    refine Wl.q rfl (Qy.loadAll 0 T.agg75 rfl rfl rfl) ?_
    refine Wl.call0 rfl T.fn114 rfl (by apply c114 <;> first | assumption | omega | rfl) ?_
    refine Wl.q rfl (Qy.move rfl) ?_
    refine Wl.q rfl (Qy.extract rfl rfl) ?_
    refine Wl.q rfl (Qy.extract rfl rfl) ?_
    refine Wl.q rfl (Qy.assign rfl) ?_
    refine Wl.q rfl (Qy.assign rfl) ?_
    refine Wl.done ?_
    refine Ar.next ?_
    refine Wc.seq ?_
    refine Wc.region rfl ?_
    refine Wl.q rfl (Qy.move rfl) ?_
    refine Wl.done ?_
    refine Ar.next ?_
    refine Wc.cond rfl (fun hc3 => ?_) (fun hc3 => ?_)
    refine Wc.seq ?_
    refine Wc.region rfl ?_
    refine Wl.q rfl (Qy.move rfl) ?_
    refine Wl.q rfl (Qy.move rfl) ?_
    refine Wl.q rfl (Qy.assign rfl) ?_
    refine Wl.q rfl (Qy.assign rfl) ?_
    refine Wl.q rfl (Qy.assign rfl) ?_
    refine Wl.done ?_
    refine Ar.next ?_
    refine Wc.ret ?_
    refine Ar.outRet ?_
    refine Ar.passRet ?_
    refine Ar.passRet ?_
    refine Ar.outRet ?_
    refine Ar.outRet ?_
    refine Ar.passRet ?_
    refine Ar.passRet ?_
    refine Ar.outRet ?_
    refine Ar.passRet ?_
    refine Ar.out3 (.inr rfl) (Ho := Hp.only _ []) rfl (.tmp rfl) (.tmp rfl) (.tmp rfl) (Hp.sub_only _ _) ?_
    rotate_left
    refine Wc.skip ?_
    refine Ar.outNormal ?_
    refine Ar.next ?_
    refine Wc.region rfl ?_
    refine Wl.q rfl (Qy.add rfl rfl (by omega)) ?_
    refine Wl.q rfl (Qy.move rfl) ?_
    refine Wl.done ?_
    rotate_left
    refine Wc.exit ?_
    refine Ar.passExit ?_
    refine Ar.passExit ?_
    refine Ar.here ?_
    refine Ar.outNormal ?_
    refine Ar.next ?_
    refine Wc.region rfl ?_
    refine Wl.q rfl (Qy.add rfl rfl (by omega)) ?_
    refine Wl.q rfl (Qy.move rfl) ?_
    refine Wl.done ?_
    rotate_left
    · rw [eti (by omega)] at hc3
      exact ⟨_, _, true, rfl, ⟨fun _ => ⟨j, by omega, i, by omega, hc3⟩, fun _ => rfl⟩, rfl, rfl⟩
    · refine Ar.re 22 rfl (show _ = Value.int .i64 ((i + 1 : Nat) : Int) from rfl) ?_
      refine Ar.again (i + 1) ?_ ?_ rfl ⟨rfl, rfl, rfl, rfl, rfl, rfl, rfl, rfl, rfl, trivial⟩ ⟨rfl, trivial⟩
      · refine ⟨by omega, fun i' h2 => ?_⟩
        rcases Nat.lt_or_ge i' i with h | h
        · exact hni i' h
        · have e : i' = i := by omega
          subst e; intro hq; rw [eti (by omega)] at hc3; exact hc3 hq
      · omega
    · refine Ar.re 13 rfl (show _ = Value.int .i64 ((j + 1 : Nat) : Int) from rfl) ?_
      refine Ar.again (j + 1) ?_ ?_ rfl ⟨rfl, rfl, rfl, rfl, trivial⟩ trivial
      · refine ⟨by omega, fun j' h1 i h2 => ?_⟩
        rcases Nat.lt_or_ge j' j with h | h
        · exact hno j' h i h2
        · have e : j' = j := by omega
          subst e; exact hni i (by omega)
      · omega
  · refine ⟨0, 0, false, rfl, ⟨fun h => absurd h (by decide), fun ⟨j', h1, i', h2, h3⟩ => absurd h3 (hno j' (by omega) i' h2)⟩, rfl, rfl⟩
def okP (p : R2) : Prop := near p.a p.b ∧ ¬ (p.a = 0 ∧ p.b = 0)
def RightL (l : List R2) : Prop := 1 ≤ l.length ∧ l.length ≤ 15 ∧ (∀ i, i < l.length → okP (l[i]?.getD default)) ∧ ¬ Twin l
theorem c28 (G : Imm) (a : Option Addr) (c : Nat) (l : List R2) (ha : Arr G a l) (h1 : l.length ≤ 1048576) (hc : l.length ≤ c) : Does Try.prog 28 [.slice a l.length c] G [] (fun v G' Ho => ∃ b : Bool, v = .bool b ∧ (b = true ↔ RightL l) ∧ G' = G ∧ Ho = []) := by
  refine Does.enter Try.func28 rfl Try.ntmps28 rfl (fun w => ?_)
  refine Wc.seq ?_
  refine Wc.region rfl ?_
  refine Wl.q rfl (Qy.assign rfl) ?_
  refine Wl.done ?_
  refine Ar.next ?_
  refine Wc.seq ?_
  refine Wc.seq ?_
  refine Wc.region rfl ?_
  refine Wl.q rfl (Qy.move rfl) ?_
  refine Wl.q rfl (Qy.len T.sl47 rfl) ?_
  refine Wl.q rfl (Qy.lss rfl rfl) ?_
  refine Wl.q rfl (Qy.move rfl) ?_
  apply Wl.joinOr 4 11 15 rfl
  intro hg1
  refine Wl.want rfl rfl ?_
  refine Wl.q rfl (Qy.move rfl) ?_
  refine Wl.want rfl rfl ?_
  refine Wl.q rfl (Qy.len T.sl47 rfl) ?_
  refine Wl.want rfl rfl ?_
  refine Wl.q rfl (Qy.gtr rfl rfl) ?_
  refine Wl.q rfl (Qy.pick rfl rfl) ?_
  exact Wl.back 4 0 rfl rfl rfl rfl rfl
  intro hg1
  refine Wl.pass rfl rfl rfl ?_
  refine Wl.pass rfl rfl rfl ?_
  refine Wl.pass rfl rfl rfl ?_
  refine Wl.q rfl (Qy.pick rfl rfl) ?_
  exact Wl.back 4 0 rfl rfl rfl rfl rfl
  refine Wl.done ?_
  refine Ar.next ?_
  refine Wc.cond rfl (fun hc1 => ?_) (fun hc1 => ?_)
  refine Wc.seq ?_
  refine Wc.region rfl ?_
  refine Wl.q rfl (Qy.assign rfl) ?_
  refine Wl.done ?_
  refine Ar.next ?_
  refine Wc.ret ?_
  refine Ar.passRet ?_
  refine Ar.out1 (.inr rfl) (Ho := Hp.only _ []) rfl (.tmp rfl) (Hp.sub_only _ _) ?_
  rotate_left
  refine Wc.skip ?_
  refine Ar.next ?_
  refine Wc.seq ?_
  refine Wc.seq ?_
  refine Wc.region rfl ?_
  refine Wl.q rfl (Qy.move rfl) ?_
  refine Wl.q rfl (Qy.len T.sl47 rfl) ?_
  refine Wl.q rfl (Qy.move rfl) ?_
  refine Wl.done ?_
  refine Ar.next ?_
  refine Wc.block ?_
  rotate_left
  · exact ⟨false, rfl, ⟨fun h => absurd h (by decide), fun h => absurd h.1 (by have := h.2.1; omega)⟩, rfl, rfl⟩
  refine Wc.loop (ι := Nat) (fun j => ([(18, .int .i64 (j : Int)), (0, .slice a l.length c), (17, Go.Value.int Go.IntKind.i64 (↑(List.length l) : Int)), (16, Go.Value.slice a (List.length l) c)], [])) (fun j => j ≤ l.length ∧ (∀ i, i < j → okP (l[i]?.getD default))) (fun j => l.length - j) (0) (⟨Nat.zero_le _, fun j' h => absurd h (by omega)⟩) ⟨rfl, rfl, rfl, rfl, trivial⟩ trivial (fun j => fun (hk : j ≤ l.length ∧ (∀ i, i < j → okP (l[i]?.getD default))) => ?_)
  obtain ⟨hj, hno⟩ := hk
  refine Wc.seq ?_
  refine Wc.region rfl ?_
  refine Wl.q rfl (Qy.lss rfl rfl) ?_
  refine Wl.done ?_
  refine Ar.next ?_
  refine Wc.seq ?_
  refine Wc.cond rfl (fun hc2 => ?_) (fun hc2 => ?_)
  refine Wc.skip ?_
  refine Ar.next ?_
  refine Wc.seq ?_
  refine Wc.block ?_
  refine Wc.seq ?_
  refine Wc.region rfl ?_
  refine Wl.q rfl (Qy.at (α := R2) T.sl47 rfl rfl (by assumption) (by omega)) ?_
  refine Wl.q rfl (Qy.loadsG T.agg75 rfl (Arr.elem (by assumption) (by omega)) rfl) ?_
  refine Wl.alloc 0 rfl T.zero75 (fun b1 => ?_)
  refine Wl.storeAll 0 T.size75 rfl rfl rfl rfl rfl rfl ?_
  refine Wl.done ?_
  refine Ar.next ?_
  refine Wc.seq ?_
  refine Wc.region rfl ?_
  refine Wl.q rfl (Qy.loadAll 0 T.agg75 rfl rfl rfl) ?_
  refine Wl.call0 rfl T.fn71 rfl (by apply c71 <;> first | assumption | omega | rfl) ?_
  refine Wl.q rfl (Qy.notD rfl) ?_
  refine Wl.q rfl (Qy.move rfl) ?_
  apply Wl.joinOr 3 25 28 rfl
  intro hg1
  refine Wl.want rfl rfl ?_
  refine Wl.q rfl (Qy.loadAll 0 T.agg75 rfl rfl rfl) ?_
  refine Wl.want rfl rfl ?_
  refine Wl.call0 rfl T.fn72 rfl (by apply c72 <;> first | assumption | omega | rfl) ?_
  refine Wl.q rfl (Qy.pick rfl rfl) ?_
  exact Wl.back 3 0 rfl rfl rfl rfl rfl
  intro hg1
  refine Wl.pass rfl rfl rfl ?_
  refine Wl.pass rfl rfl rfl ?_
  refine Wl.q rfl (Qy.pick rfl rfl) ?_
  exact Wl.back 3 0 rfl rfl rfl rfl rfl
  refine Wl.done ?_
  refine Ar.next ?_
  refine Wc.cond rfl (fun hc3 => ?_) (fun hc3 => ?_)
  refine Wc.seq ?_
  refine Wc.region rfl ?_
  refine Wl.q rfl (Qy.assign rfl) ?_
  refine Wl.done ?_
  refine Ar.next ?_
  refine Wc.ret ?_
  refine Ar.outRet ?_
  refine Ar.passRet ?_
  refine Ar.passRet ?_
  refine Ar.outRet ?_
  refine Ar.passRet ?_
  refine Ar.out1 (.inr rfl) (Ho := Hp.only _ []) rfl (.tmp rfl) (Hp.sub_only _ _) ?_
  rotate_left
  refine Wc.skip ?_
  refine Ar.outNormal ?_
  refine Ar.next ?_
  refine Wc.region rfl ?_
  refine Wl.q rfl (Qy.add rfl rfl (by omega)) ?_
  refine Wl.q rfl (Qy.move rfl) ?_
  refine Wl.done ?_
  rotate_left
  refine Wc.exit ?_
  refine Ar.passExit ?_
  refine Ar.passExit ?_
  refine Ar.here ?_
  refine Ar.next ?_
  refine Wc.seq ?_
  refine Wc.region rfl ?_
  refine Wl.q rfl (Qy.move rfl) ?_
  refine Wl.call 0 rfl T.fn73 rfl (c73 _ _ _ _ (by assumption) (by omega) (by first | assumption | omega)) (tags_of trivial) (fun v1 G1 Ho1 hle1 hp => ?_)
  obtain ⟨ti1, tj1, tb1, rfl, htb1, rfl, rfl⟩ := hp
  refine Wl.q rfl (Qy.move rfl) ?_
  refine Wl.q rfl (Qy.extract rfl rfl) ?_
  refine Wl.q rfl (Qy.extract rfl rfl) ?_
  refine Wl.q rfl (Qy.extract rfl rfl) ?_
  refine Wl.q rfl (Qy.assign rfl) ?_
  refine Wl.q rfl (Qy.assign rfl) ?_
  refine Wl.q rfl (Qy.assign rfl) ?_
  refine Wl.done ?_
  refine Ar.next ?_
  refine Wc.seq ?_
  refine Wc.region rfl ?_
  refine Wl.q rfl (Qy.move rfl) ?_
  refine Wl.q rfl (Qy.not rfl) ?_
  refine Wl.q rfl (Qy.assign rfl) ?_
  refine Wl.done ?_
  refine Ar.next ?_
  refine Wc.ret ?_
  refine Ar.out1 (.inr rfl) (Ho := Hp.only _ []) rfl (.tmp rfl) (Hp.sub_only _ _) ?_
  rotate_left
  · exact ⟨false, rfl, ⟨fun h => absurd h (by decide), fun h => absurd (h.2.2.1 j (by omega)) (by show ¬ okP (l[((j : Nat) : Int).toNat]?.getD default); unfold okP; unfold near at *; omega)⟩, rfl, rfl⟩
  · refine Ar.re 18 rfl (show _ = Value.int .i64 ((j + 1 : Nat) : Int) from rfl) ?_
    refine Ar.again (j + 1) ?_ ?_ rfl ⟨rfl, rfl, rfl, rfl, trivial⟩ trivial
    · refine ⟨by omega, fun i' h2 => ?_⟩
      rcases Nat.lt_or_ge i' j with h | h
      · exact hno i' h
      · have e : i' = j := by omega
        subst e
        show okP (l[((i' : Nat) : Int).toNat]?.getD default)
        unfold okP; unfold near at *; omega
    · omega
  · refine ⟨!tb1, rfl, ?_, rfl, rfl⟩
    have e : (∀ i, i < l.length → okP (l[i]?.getD default)) := fun i hi => hno i (by omega)
    rw [Bool.not_eq_true', Bool.eq_false_iff, ne_eq, htb1]
    exact ⟨fun h => ⟨by omega, by omega, e, h⟩, fun h => h.2.2.2⟩
end Go.Proofs.Ytbppmiimeccclaa
set_option maxRecDepth 100000
set_option linter.unusedVariables false
namespace Go.Proofs.Ytbppmiimeccclaa
open Go Go.Sl
theorem c78 (G : Imm) (a b c d : Int) (hp : near a b) (hq : near c d) : Does Try.prog 78 [.agg #[.int .i64 a, .int .i64 b], .agg #[.int .i64 c, .int .i64 d]] G [] (fun v G' Ho => v = .int .i64 (a * d - c * b) ∧ G' = G ∧ Ho = []) := by
  refine Does.enter Try.func78 rfl Try.ntmps78 rfl (fun w => ?_)
  have m1 := mul_rng hp hq
  have m2 := mul_rng hq hp
  refine Wc.seq ?_
  refine Wc.region rfl ?_
  refine Wl.box 0 rfl rfl rfl (fun b1 => ?_)
  refine Wl.box 1 rfl rfl rfl (fun b2 => ?_)
  refine Wl.q rfl (Qy.assign rfl) ?_
  refine Wl.done ?_
  refine Ar.next ?_
  refine Wc.seq ?_
  refine Wc.region rfl ?_
  refine Wl.q rfl (Qy.fieldAddr T.fa75_0 rfl) ?_
  refine Wl.q rfl (Qy.load 0 T.one3 rfl rfl rfl) ?_
  refine Wl.q rfl (Qy.fieldAddr T.fa75_1 rfl) ?_
  refine Wl.q rfl (Qy.load 1 T.one3 rfl rfl rfl) ?_
  refine Wl.q rfl (Qy.mul rfl rfl (by omega)) ?_
  refine Wl.q rfl (Qy.fieldAddr T.fa75_0 rfl) ?_
  refine Wl.q rfl (Qy.load 1 T.one3 rfl rfl rfl) ?_
  refine Wl.q rfl (Qy.fieldAddr T.fa75_1 rfl) ?_
  refine Wl.q rfl (Qy.load 0 T.one3 rfl rfl rfl) ?_
  refine Wl.q rfl (Qy.mul rfl rfl (by omega)) ?_
  refine Wl.q rfl (Qy.sub rfl rfl (by omega)) ?_
  refine Wl.q rfl (Qy.assign rfl) ?_
  refine Wl.done ?_
  refine Ar.next ?_
  refine Wc.ret ?_
  refine Ar.out1 (.inr rfl) (Ho := Hp.only _ []) rfl (.tmp rfl) (Hp.sub_only _ _) ?_
  exact ⟨rfl, rfl, rfl⟩
instance (a b c d : Int) : Decidable (if (a = 0 ∧ b = 0) ∨ (c = 0 ∧ d = 0) then (a = 0 ∧ b = 0) ∧ (c = 0 ∧ d = 0) else a * d - c * b = 0) := by split <;> infer_instance
def oneR (a b c d : Int) : Prop := if (a = 0 ∧ b = 0) ∨ (c = 0 ∧ d = 0) then (a = 0 ∧ b = 0) ∧ (c = 0 ∧ d = 0) else a * d - c * b = 0
instance (a b c d : Int) : Decidable (oneR a b c d) := inferInstanceAs (Decidable (if (a = 0 ∧ b = 0) ∨ (c = 0 ∧ d = 0) then (a = 0 ∧ b = 0) ∧ (c = 0 ∧ d = 0) else a * d - c * b = 0))
theorem c108 (G : Imm) (a b c d : Int) (hp : near a b) (hq : near c d) : Does Try.prog 108 [.agg #[.int .i64 a, .int .i64 b], .agg #[.int .i64 c, .int .i64 d]] G [] (fun v G' Ho => v = .bool (decide (oneR a b c d)) ∧ G' = G ∧ Ho = []) := by
  refine Does.enter Try.func108 rfl Try.ntmps108 rfl (fun w => ?_)
  refine Wc.seq ?_
  refine Wc.region rfl ?_
  refine Wl.box 0 rfl rfl rfl (fun b1 => ?_)
  refine Wl.box 1 rfl rfl rfl (fun b2 => ?_)
  refine Wl.q rfl (Qy.assign rfl) ?_
  refine Wl.done ?_
  refine Ar.next ?_
  refine Wc.seq ?_
  refine Wc.seq ?_
  refine Wc.region rfl ?_
  refine Wl.q rfl (Qy.loadAll 0 T.agg75 rfl rfl rfl) ?_
  refine Wl.call0 rfl T.fn64 rfl (by apply c64 <;> first | assumption | omega | rfl) ?_
  refine Wl.q rfl (Qy.move rfl) ?_
  apply Wl.joinOr 3 7 10 rfl
  intro hg1
  refine Wl.want rfl rfl ?_
  refine Wl.q rfl (Qy.loadAll 1 T.agg75 rfl rfl rfl) ?_
  refine Wl.want rfl rfl ?_
  refine Wl.call0 rfl T.fn64 rfl (by apply c64 <;> first | assumption | omega | rfl) ?_
  refine Wl.q rfl (Qy.pick rfl rfl) ?_
  exact Wl.back 3 0 rfl rfl rfl rfl rfl
  intro hg1
  refine Wl.pass rfl rfl rfl ?_
  refine Wl.pass rfl rfl rfl ?_
  refine Wl.q rfl (Qy.pick rfl rfl) ?_
  exact Wl.back 3 0 rfl rfl rfl rfl rfl
  refine Wl.done ?_
  refine Ar.next ?_
  refine Wc.cond rfl (fun hc1 => ?_) (fun hc1 => ?_)
  refine Wc.seq ?_
  refine Wc.region rfl ?_
  refine Wl.q rfl (Qy.loadAll 0 T.agg75 rfl rfl rfl) ?_
  refine Wl.call0 rfl T.fn64 rfl (by apply c64 <;> first | assumption | omega | rfl) ?_
  refine Wl.q rfl (Qy.move rfl) ?_
  apply Wl.joinAnd 3 13 16 rfl
  intro hg1
  refine Wl.want rfl rfl ?_
  refine Wl.q rfl (Qy.loadAll 1 T.agg75 rfl rfl rfl) ?_
  refine Wl.want rfl rfl ?_
  refine Wl.call0 rfl T.fn64 rfl (by apply c64 <;> first | assumption | omega | rfl) ?_
  refine Wl.q rfl (Qy.pick rfl rfl) ?_
  exact Wl.back 3 0 rfl rfl rfl rfl rfl
  intro hg1
  refine Wl.pass rfl rfl rfl ?_
  refine Wl.pass rfl rfl rfl ?_
  refine Wl.q rfl (Qy.pick rfl rfl) ?_
  exact Wl.back 3 0 rfl rfl rfl rfl rfl
  refine Wl.q rfl (Qy.assign rfl) ?_
  refine Wl.done ?_
  refine Ar.next ?_
  refine Wc.ret ?_
  refine Ar.passRet ?_
  refine Ar.out1 (.inr rfl) (Ho := Hp.only _ []) rfl (.tmp rfl) (Hp.sub_only _ _) ?_
  rotate_left
  refine Wc.skip ?_
  refine Ar.next ?_
  refine Wc.seq ?_
  refine Wc.region rfl ?_
  refine Wl.q rfl (Qy.loadAll 0 T.agg75 rfl rfl rfl) ?_
  refine Wl.q rfl (Qy.loadAll 1 T.agg75 rfl rfl rfl) ?_
  refine Wl.call0 rfl T.fn78 rfl (c78 _ _ _ _ _ (by assumption) (by assumption)) ?_
  refine Wl.q rfl (Qy.eql rfl rfl) ?_
  refine Wl.q rfl (Qy.assign rfl) ?_
  refine Wl.done ?_
  refine Ar.next ?_
  refine Wc.ret ?_
  refine Ar.out1 (.inr rfl) (Ho := Hp.only _ []) rfl (.tmp rfl) (Hp.sub_only _ _) ?_
  rotate_left
  · exact ⟨by congr 1; exact decide_eq_decide.mpr (by unfold oneR; rw [if_pos hc1]), rfl, rfl⟩
  · exact ⟨by congr 1; exact decide_eq_decide.mpr (by unfold oneR; rw [if_neg hc1]), rfl, rfl⟩
def alikeR (p q : R2) : Prop := near p.a p.b ∧ near q.a q.b ∧ oneR p.a p.b q.a q.b
def TwinR (l : List R2) : Prop := ∃ j, j < l.length ∧ ∃ i, i < j ∧ alikeR (l[i]?.getD default) (l[j]?.getD default)
theorem c65 (G : Imm) (a : Option Addr) (c : Nat) (l : List R2) (ha : Arr G a l) (h1 : l.length ≤ 1048576) (hc : l.length ≤ c) : Does Try.prog 65 [.slice a l.length c] G [] (fun v G' Ho => ∃ (i j : Int) (b : Bool), v = .tuple #[.int .i64 i, .int .i64 j, .bool b] ∧ (b = true ↔ TwinR l) ∧ G' = G ∧ Ho = []) := by
  refine Does.enter Try.func65 rfl Try.ntmps65 rfl (fun w => ?_)
  refine Wc.seq ?_
  refine Wc.region rfl ?_
  refine Wl.q rfl (Qy.assign rfl) ?_
  refine Wl.q rfl (Qy.assign rfl) ?_
  refine Wl.q rfl (Qy.assign rfl) ?_
  refine Wl.done ?_
  refine Ar.next ?_
  refine Wc.seq ?_
  refine Wc.seq ?_
  refine Wc.region rfl ?_
  refine Wl.q rfl (Qy.assign rfl) ?_
  refine Wl.done ?_
  refine Ar.next ?_
  refine Wc.block ?_
  refine Wc.loop (ι := Nat) (fun j => ([(5, .int .i64 (j : Int)), (0, .slice a l.length c)], [])) (fun j => j ≤ l.length ∧ (∀ j', j' < j → ∀ i, i < j' → ¬ alikeR (l[i]?.getD default) (l[j']?.getD default))) (fun j => l.length - j) (0) (⟨Nat.zero_le _, fun j' h => absurd h (by omega)⟩) ⟨rfl, rfl, trivial⟩ trivial (fun j => fun (hk : j ≤ l.length ∧ (∀ j', j' < j → ∀ i, i < j' → ¬ alikeR (l[i]?.getD default) (l[j']?.getD default))) => ?_)
  obtain ⟨hj, hno⟩ := hk
  refine Wc.seq ?_
  refine Wc.seq ?_
  refine Wc.region rfl ?_
  refine Wl.q rfl (Qy.move rfl) ?_
  refine Wl.q rfl (Qy.move rfl) ?_
  refine Wl.q rfl (Qy.len T.sl47 rfl) ?_
  refine Wl.q rfl (Qy.lss rfl rfl) ?_
  refine Wl.done ?_
  refine Ar.next ?_
  refine Wc.cond rfl (fun hc1 => ?_) (fun hc1 => ?_)
  refine Wc.skip ?_
  refine Ar.next ?_
  refine Wc.seq ?_
  refine Wc.block ?_
  refine Wc.seq ?_
  refine Wc.region rfl ?_
  refine Wl.q rfl (Qy.assign rfl) ?_
  refine Wl.done ?_
  refine Ar.next ?_
  refine Wc.block ?_
  rotate_left
  refine Wc.exit ?_
  refine Ar.passExit ?_
  refine Ar.passExit ?_
  refine Ar.here ?_
  refine Ar.next ?_
  refine Wc.seq ?_
  refine Wc.region rfl ?_
  refine Wl.q rfl (Qy.assign rfl) ?_
  refine Wl.q rfl (Qy.assign rfl) ?_
  refine Wl.q rfl (Qy.assign rfl) ?_
  refine Wl.done ?_
  refine Ar.next ?_
  refine Wc.ret ?_
  refine Ar.out3 (.inr rfl) (Ho := Hp.only _ []) rfl (.tmp rfl) (.tmp rfl) (.tmp rfl) (Hp.sub_only _ _) ?_
  rotate_left
  · refine Wc.loop (ι := Nat) (fun i => ([(6, .int .i64 (i : Int)), (5, .int .i64 (j : Int)), (0, .slice a l.length c)], [])) (fun i => i ≤ j ∧ (∀ i', i' < i → ¬ alikeR (l[i']?.getD default) (l[j]?.getD default))) (fun i => j - i) (0) (⟨Nat.zero_le _, fun i' h => absurd h (by omega)⟩) ⟨rfl, rfl, rfl, trivial⟩ trivial (fun i => fun (hk : i ≤ j ∧ (∀ i', i' < i → ¬ alikeR (l[i']?.getD default) (l[j]?.getD default))) => ?_)
    obtain ⟨hi, hni⟩ := hk
    have eti : l[((i : Nat) : Int).toNat]?.getD default = l[i]?.getD default := rfl
    have etj : l[((j : Nat) : Int).toNat]?.getD default = l[j]?.getD default := rfl
    refine Wc.seq ?_
    refine Wc.seq ?_
    refine Wc.region rfl ?_
    refine Wl.q rfl (Qy.move rfl) ?_
    refine Wl.q rfl (Qy.move rfl) ?_
    refine Wl.q rfl (Qy.lss rfl rfl) ?_
    refine Wl.done ?_
    refine Ar.next ?_
    refine Wc.cond rfl (fun hc2 => ?_) (fun hc2 => ?_)
    refine Wc.skip ?_
    refine Ar.next ?_
    refine Wc.seq ?_
    refine Wc.block ?_
    refine Wc.seq ?_
    refine Wc.draw [] [] T.mixed rfl ?_
    refine Gm.q 0 [] (by kernel_rfl) rfl rfl (Qy.move rfl) ?_
    refine Gm.q 1 [] (by kernel_rfl) rfl rfl (Qy.move rfl) ?_
    refine Gm.q 2 [] (by kernel_rfl) rfl rfl (Qy.at (α := R2) T.sl47 rfl rfl (by assumption) (by omega)) ?_
    refine Gm.q 3 [] (by kernel_rfl) rfl rfl (Qy.loadsG T.agg75 rfl (Arr.elem (by assumption) (by omega)) rfl) ?_
    refine Gm.one 4 trivial (by first | exact Imm.le_refl _ | assumption | (refine Imm.le_trans ?_ (by assumption); first | assumption | (refine Imm.le_trans ?_ (by assumption); assumption))) (by kernel_rfl) rfl ?_
    refine Wl.call0 rfl T.fn63 rfl (by apply c63 <;> first | assumption | omega | rfl) ?_
    refine Wl.on0 ?_
    refine Gm.q 5 [] (by kernel_rfl) rfl rfl (Qy.move rfl) ?_
    refine Gm.cases 23 rfl (fun hg1 => ?_) (fun hg1 => ?_)
    refine Gm.qYes 6 [] (by kernel_rfl) rfl rfl rfl rfl (Qy.move rfl) ?_
    refine Gm.qYes 7 [] (by kernel_rfl) rfl rfl rfl rfl (Qy.move rfl) ?_
    refine Gm.qYes 8 [] (by kernel_rfl) rfl rfl rfl rfl (Qy.at (α := R2) T.sl47 rfl rfl (by assumption) (by omega)) ?_
    refine Gm.qYes 9 [] (by kernel_rfl) rfl rfl rfl rfl (Qy.loadsG T.agg75 rfl (Arr.elem (by assumption) (by omega)) rfl) ?_
    refine Gm.one 10 trivial (by first | exact Imm.le_refl _ | assumption | (refine Imm.le_trans ?_ (by assumption); first | assumption | (refine Imm.le_trans ?_ (by assumption); assumption))) (by kernel_rfl) rfl ?_
    refine Wl.want rfl rfl ?_
    refine Wl.call0 rfl T.fn63 rfl (by apply c63 <;> first | assumption | omega | rfl) ?_
    refine Wl.on0 ?_
    refine Gm.q 11 [] (by kernel_rfl) rfl rfl (Qy.pick rfl rfl) ?_
    refine Gm.q 12 [] (by kernel_rfl) rfl rfl (Qy.move rfl) ?_
    refine Gm.cases 30 rfl (fun hg2 => ?_) (fun hg2 => ?_)
    refine Gm.qYes 13 [] (by kernel_rfl) rfl rfl rfl rfl (Qy.move rfl) ?_
    refine Gm.qYes 14 [] (by kernel_rfl) rfl rfl rfl rfl (Qy.move rfl) ?_
    refine Gm.qYes 15 [] (by kernel_rfl) rfl rfl rfl rfl (Qy.at (α := R2) T.sl47 rfl rfl (by assumption) (by omega)) ?_
    refine Gm.qYes 16 [] (by kernel_rfl) rfl rfl rfl rfl (Qy.loadsG T.agg75 rfl (Arr.elem (by assumption) (by omega)) rfl) ?_
    refine Gm.qYes 17 [] (by kernel_rfl) rfl rfl rfl rfl (Qy.move rfl) ?_
    refine Gm.qYes 18 [] (by kernel_rfl) rfl rfl rfl rfl (Qy.move rfl) ?_
    refine Gm.qYes 19 [] (by kernel_rfl) rfl rfl rfl rfl (Qy.at (α := R2) T.sl47 rfl rfl (by assumption) (by omega)) ?_
    refine Gm.qYes 20 [] (by kernel_rfl) rfl rfl rfl rfl (Qy.loadsG T.agg75 rfl (Arr.elem (by assumption) (by omega)) rfl) ?_
    refine Gm.one 21 trivial (by first | exact Imm.le_refl _ | assumption | (refine Imm.le_trans ?_ (by assumption); first | assumption | (refine Imm.le_trans ?_ (by assumption); assumption))) (by kernel_rfl) rfl ?_
    refine Wl.want rfl rfl ?_
    refine Wl.call0 rfl T.fn108 rfl (c108 _ _ _ _ _ (by first | assumption | exact And.left (by assumption)) (by first | assumption | exact And.right (by assumption))) ?_
    refine Wl.on0 ?_
    refine Gm.q 22 [] (by kernel_rfl) rfl rfl (Qy.pick rfl rfl) ?_
    refine Gm.doneA (by kernel_rfl) trivial (by first | exact Imm.le_refl _ | assumption | (refine Imm.le_trans ?_ (by assumption); first | assumption | (refine Imm.le_trans ?_ (by assumption); assumption))) ?_
    refine Ar.next ?_
    refine Wc.cond rfl (fun hc3 => ?_) (fun hc3 => ?_)
    refine Wc.seq ?_
    refine Wc.region rfl ?_
    refine Wl.q rfl (Qy.move rfl) ?_
    refine Wl.q rfl (Qy.move rfl) ?_
    refine Wl.q rfl (Qy.assign rfl) ?_
    refine Wl.q rfl (Qy.assign rfl) ?_
    refine Wl.q rfl (Qy.assign rfl) ?_
    refine Wl.done ?_
    refine Ar.next ?_
    refine Wc.ret ?_
    refine Ar.outRet ?_
    refine Ar.passRet ?_
    refine Ar.passRet ?_
    refine Ar.outRet ?_
    refine Ar.outRet ?_
    refine Ar.passRet ?_
    refine Ar.passRet ?_
    refine Ar.outRet ?_
    refine Ar.passRet ?_
    refine Ar.out3 (.inr rfl) (Ho := Hp.only _ []) rfl (.tmp rfl) (.tmp rfl) (.tmp rfl) (Hp.sub_only _ _) ?_
    rotate_left
    refine Wc.skip ?_
    refine Ar.outNormal ?_
    refine Ar.next ?_
    refine Wc.region rfl ?_
    refine Wl.q rfl (Qy.move rfl) ?_
    refine Wl.q rfl (Qy.add rfl rfl (by omega)) ?_
    refine Wl.q rfl (Qy.assign rfl) ?_
    refine Wl.done ?_
    rotate_left
    refine Gm.qNo 13 (by kernel_rfl) rfl rfl rfl rfl ?_
    refine Gm.qNo 14 (by kernel_rfl) rfl rfl rfl rfl ?_
    refine Gm.qNo 15 (by kernel_rfl) rfl rfl rfl rfl ?_
    refine Gm.qNo 16 (by kernel_rfl) rfl rfl rfl rfl ?_
    refine Gm.qNo 17 (by kernel_rfl) rfl rfl rfl rfl ?_
    refine Gm.qNo 18 (by kernel_rfl) rfl rfl rfl rfl ?_
    refine Gm.qNo 19 (by kernel_rfl) rfl rfl rfl rfl ?_
    refine Gm.qNo 20 (by kernel_rfl) rfl rfl rfl rfl ?_
    refine Gm.qNo 21 (by kernel_rfl) rfl rfl rfl rfl ?_
    refine Gm.q 22 [] (by kernel_rfl) rfl rfl (Qy.pick rfl rfl) ?_
    refine Gm.doneA (by kernel_rfl) trivial (by first | exact Imm.le_refl _ | assumption | (refine Imm.le_trans ?_ (by assumption); first | assumption | (refine Imm.le_trans ?_ (by assumption); assumption))) ?_
    refine Ar.next ?_
    refine Wc.condF rfl ?_
    refine Wc.skip ?_
    refine Ar.outNormal ?_
    refine Ar.next ?_
    refine Wc.region rfl ?_
    refine Wl.q rfl (Qy.move rfl) ?_
    refine Wl.q rfl (Qy.add rfl rfl (by omega)) ?_
    refine Wl.q rfl (Qy.assign rfl) ?_
    refine Wl.done ?_
    rotate_left
    refine Gm.qNo 6 (by kernel_rfl) rfl rfl rfl rfl ?_
    refine Gm.qNo 7 (by kernel_rfl) rfl rfl rfl rfl ?_
    refine Gm.qNo 8 (by kernel_rfl) rfl rfl rfl rfl ?_
    refine Gm.qNo 9 (by kernel_rfl) rfl rfl rfl rfl ?_
    refine Gm.qNo 10 (by kernel_rfl) rfl rfl rfl rfl ?_
    refine Gm.q 11 [] (by kernel_rfl) rfl rfl (Qy.pick rfl rfl) ?_
    refine Gm.q 12 [] (by kernel_rfl) rfl rfl (Qy.move rfl) ?_
    refine Gm.qNo 13 (by kernel_rfl) rfl rfl rfl rfl ?_
    refine Gm.qNo 14 (by kernel_rfl) rfl rfl rfl rfl ?_
    refine Gm.qNo 15 (by kernel_rfl) rfl rfl rfl rfl ?_
    refine Gm.qNo 16 (by kernel_rfl) rfl rfl rfl rfl ?_
    refine Gm.qNo 17 (by kernel_rfl) rfl rfl rfl rfl ?_
    refine Gm.qNo 18 (by kernel_rfl) rfl rfl rfl rfl ?_
    refine Gm.qNo 19 (by kernel_rfl) rfl rfl rfl rfl ?_
    refine Gm.qNo 20 (by kernel_rfl) rfl rfl rfl rfl ?_
    refine Gm.qNo 21 (by kernel_rfl) rfl rfl rfl rfl ?_
    refine Gm.q 22 [] (by kernel_rfl) rfl rfl (Qy.pick rfl rfl) ?_
    refine Gm.doneA (by kernel_rfl) trivial (by first | exact Imm.le_refl _ | assumption | (refine Imm.le_trans ?_ (by assumption); first | assumption | (refine Imm.le_trans ?_ (by assumption); assumption))) ?_
    refine Ar.next ?_
    refine Wc.condF rfl ?_
    refine Wc.skip ?_
    refine Ar.outNormal ?_
    refine Ar.next ?_
    refine Wc.region rfl ?_
    refine Wl.q rfl (Qy.move rfl) ?_
    refine Wl.q rfl (Qy.add rfl rfl (by omega)) ?_
    refine Wl.q rfl (Qy.assign rfl) ?_
    refine Wl.done ?_
    rotate_left
    refine Wc.exit ?_
    refine Ar.passExit ?_
    refine Ar.passExit ?_
    refine Ar.here ?_
    refine Ar.outNormal ?_
    refine Ar.next ?_
    refine Wc.region rfl ?_
    refine Wl.q rfl (Qy.move rfl) ?_
    refine Wl.q rfl (Qy.add rfl rfl (by omega)) ?_
    refine Wl.q rfl (Qy.assign rfl) ?_
    refine Wl.done ?_
    rotate_left
    · exact ⟨_, _, true, rfl, ⟨fun _ => ⟨j, by omega, i, by omega, hg1, hg2, hc3⟩, fun _ => rfl⟩, rfl, rfl⟩
    · refine Ar.re 6 rfl (show _ = Value.int .i64 ((i + 1 : Nat) : Int) from rfl) ?_
      refine Ar.again (i + 1) ?_ ?_ rfl ⟨rfl, rfl, rfl, trivial⟩ trivial
      · refine ⟨by omega, fun i' h2 => ?_⟩
        rcases Nat.lt_or_ge i' i with h | h
        · exact hni i' h
        · have e : i' = i := by omega
          subst e; exact fun hq => hc3 hq.2.2
      · omega
    · refine Ar.re 6 rfl (show _ = Value.int .i64 ((i + 1 : Nat) : Int) from rfl) ?_
      refine Ar.again (i + 1) ?_ ?_ rfl ⟨rfl, rfl, rfl, trivial⟩ trivial
      · refine ⟨by omega, fun i' h2 => ?_⟩
        rcases Nat.lt_or_ge i' i with h | h
        · exact hni i' h
        · have e : i' = i := by omega
          subst e; exact fun hq => hg2 hq.2.1
      · omega
    · refine Ar.re 6 rfl (show _ = Value.int .i64 ((i + 1 : Nat) : Int) from rfl) ?_
      refine Ar.again (i + 1) ?_ ?_ rfl ⟨rfl, rfl, rfl, trivial⟩ trivial
      · refine ⟨by omega, fun i' h2 => ?_⟩
        rcases Nat.lt_or_ge i' i with h | h
        · exact hni i' h
        · have e : i' = i := by omega
          subst e; exact fun hq => hg1 hq.1
      · omega
    · refine Ar.re 5 rfl (show _ = Value.int .i64 ((j + 1 : Nat) : Int) from rfl) ?_
      refine Ar.again (j + 1) ?_ ?_ rfl ⟨rfl, rfl, trivial⟩ trivial
      · refine ⟨by omega, fun j' h1 i h2 => ?_⟩
        rcases Nat.lt_or_ge j' j with h | h
        · exact hno j' h i h2
        · have e : j' = j := by omega
          subst e; exact hni i (by omega)
      · omega
  · refine ⟨0, 0, false, rfl, ⟨fun h => absurd h (by decide), fun ⟨j', h1, i', h2, h3⟩ => absurd h3 (hno j' (by omega) i' h2)⟩, rfl, rfl⟩
def RightR (l : List R2) : Prop := 1 ≤ l.length ∧ l.length ≤ 15 ∧ (∀ i, i < l.length → okP (l[i]?.getD default)) ∧ ¬ TwinR l
theorem c25 (G : Imm) (a : Option Addr) (c : Nat) (l : List R2) (ha : Arr G a l) (h1 : l.length ≤ 1048576) (hc : l.length ≤ c) : Does Try.prog 25 [.slice a l.length c] G [] (fun v G' Ho => ∃ b : Bool, v = .bool b ∧ (b = true ↔ RightR l) ∧ G' = G ∧ Ho = []) := by
  refine Does.enter Try.func25 rfl Try.ntmps25 rfl (fun w => ?_)
  refine Wc.seq ?_
  refine Wc.region rfl ?_
  refine Wl.q rfl (Qy.assign rfl) ?_
  refine Wl.done ?_
  refine Ar.next ?_
  refine Wc.seq ?_
  refine Wc.seq ?_
  refine Wc.region rfl ?_
  refine Wl.q rfl (Qy.move rfl) ?_
  refine Wl.q rfl (Qy.len T.sl47 rfl) ?_
  refine Wl.q rfl (Qy.lss rfl rfl) ?_
  refine Wl.q rfl (Qy.move rfl) ?_
  apply Wl.joinOr 4 10 14 rfl
  intro hg1
  refine Wl.want rfl rfl ?_
  refine Wl.q rfl (Qy.move rfl) ?_
  refine Wl.want rfl rfl ?_
  refine Wl.q rfl (Qy.len T.sl47 rfl) ?_
  refine Wl.want rfl rfl ?_
  refine Wl.q rfl (Qy.gtr rfl rfl) ?_
  refine Wl.q rfl (Qy.pick rfl rfl) ?_
  exact Wl.back 4 0 rfl rfl rfl rfl rfl
  intro hg1
  refine Wl.pass rfl rfl rfl ?_
  refine Wl.pass rfl rfl rfl ?_
  refine Wl.pass rfl rfl rfl ?_
  refine Wl.q rfl (Qy.pick rfl rfl) ?_
  exact Wl.back 4 0 rfl rfl rfl rfl rfl
  refine Wl.done ?_
  refine Ar.next ?_
  refine Wc.cond rfl (fun hc1 => ?_) (fun hc1 => ?_)
  refine Wc.seq ?_
  refine Wc.region rfl ?_
  refine Wl.q rfl (Qy.assign rfl) ?_
  refine Wl.done ?_
  refine Ar.next ?_
  refine Wc.ret ?_
  refine Ar.passRet ?_
  refine Ar.out1 (.inr rfl) (Ho := Hp.only _ []) rfl (.tmp rfl) (Hp.sub_only _ _) ?_
  rotate_left
  refine Wc.skip ?_
  refine Ar.next ?_
  refine Wc.seq ?_
  refine Wc.seq ?_
  refine Wc.region rfl ?_
  refine Wl.q rfl (Qy.assign rfl) ?_
  refine Wl.done ?_
  refine Ar.next ?_
  refine Wc.block ?_
  rotate_left
  · exact ⟨false, rfl, ⟨fun h => absurd h (by decide), fun h => absurd h.1 (by have := h.2.1; omega)⟩, rfl, rfl⟩
  refine Wc.loop (ι := Nat) (fun j => ([(3, .int .i64 (j : Int)), (0, .slice a l.length c)], [])) (fun j => j ≤ l.length ∧ (∀ i, i < j → okP (l[i]?.getD default))) (fun j => l.length - j) (0) (⟨Nat.zero_le _, fun j' h => absurd h (by omega)⟩) ⟨rfl, rfl, trivial⟩ trivial (fun j => fun (hk : j ≤ l.length ∧ (∀ i, i < j → okP (l[i]?.getD default))) => ?_)
  obtain ⟨hj, hno⟩ := hk
  have etj : l[((j : Nat) : Int).toNat]?.getD default = l[j]?.getD default := rfl
  refine Wc.seq ?_
  refine Wc.seq ?_
  refine Wc.region rfl ?_
  refine Wl.q rfl (Qy.move rfl) ?_
  refine Wl.q rfl (Qy.move rfl) ?_
  refine Wl.q rfl (Qy.len T.sl47 rfl) ?_
  refine Wl.q rfl (Qy.lss rfl rfl) ?_
  refine Wl.done ?_
  refine Ar.next ?_
  refine Wc.cond rfl (fun hc2 => ?_) (fun hc2 => ?_)
  refine Wc.skip ?_
  refine Ar.next ?_
  refine Wc.seq ?_
  refine Wc.block ?_
  refine Wc.seq ?_
  refine Wc.region rfl ?_
  refine Wl.q rfl (Qy.move rfl) ?_
  refine Wl.q rfl (Qy.move rfl) ?_
  refine Wl.q rfl (Qy.at (α := R2) T.sl47 rfl rfl (by assumption) (by omega)) ?_
  refine Wl.q rfl (Qy.loadsG T.agg75 rfl (Arr.elem (by assumption) (by omega)) rfl) ?_
  refine Wl.call0 rfl T.fn63 rfl (by apply c63 <;> first | assumption | omega | rfl) ?_
  refine Wl.q rfl (Qy.notD rfl) ?_
  refine Wl.q rfl (Qy.move rfl) ?_
  apply Wl.joinOr 6 27 33 rfl
  intro hg1
  refine Wl.want rfl rfl ?_
  refine Wl.q rfl (Qy.move rfl) ?_
  refine Wl.want rfl rfl ?_
  refine Wl.q rfl (Qy.move rfl) ?_
  refine Wl.want rfl rfl ?_
  refine Wl.q rfl (Qy.at (α := R2) T.sl47 rfl rfl (by assumption) (by omega)) ?_
  refine Wl.want rfl rfl ?_
  refine Wl.q rfl (Qy.loadsG T.agg75 rfl (Arr.elem (by assumption) (by omega)) rfl) ?_
  refine Wl.want rfl rfl ?_
  refine Wl.call0 rfl T.fn64 rfl (by apply c64 <;> first | assumption | omega | rfl) ?_
  refine Wl.q rfl (Qy.pick rfl rfl) ?_
  exact Wl.back 6 0 rfl rfl rfl rfl rfl
  intro hg1
  refine Wl.pass rfl rfl rfl ?_
  refine Wl.pass rfl rfl rfl ?_
  refine Wl.pass rfl rfl rfl ?_
  refine Wl.pass rfl rfl rfl ?_
  refine Wl.pass rfl rfl rfl ?_
  refine Wl.q rfl (Qy.pick rfl rfl) ?_
  exact Wl.back 6 0 rfl rfl rfl rfl rfl
  refine Wl.done ?_
  refine Ar.next ?_
  refine Wc.cond rfl (fun hc3 => ?_) (fun hc3 => ?_)
  refine Wc.seq ?_
  refine Wc.region rfl ?_
  refine Wl.q rfl (Qy.assign rfl) ?_
  refine Wl.done ?_
  refine Ar.next ?_
  refine Wc.ret ?_
  refine Ar.outRet ?_
  refine Ar.passRet ?_
  refine Ar.passRet ?_
  refine Ar.outRet ?_
  refine Ar.passRet ?_
  refine Ar.out1 (.inr rfl) (Ho := Hp.only _ []) rfl (.tmp rfl) (Hp.sub_only _ _) ?_
  rotate_left
  refine Wc.skip ?_
  refine Ar.outNormal ?_
  refine Ar.next ?_
  refine Wc.region rfl ?_
  refine Wl.q rfl (Qy.move rfl) ?_
  refine Wl.q rfl (Qy.add rfl rfl (by omega)) ?_
  refine Wl.q rfl (Qy.assign rfl) ?_
  refine Wl.done ?_
  rotate_left
  refine Wc.exit ?_
  refine Ar.passExit ?_
  refine Ar.passExit ?_
  refine Ar.here ?_
  refine Ar.next ?_
  refine Wc.seq ?_
  refine Wc.region rfl ?_
  refine Wl.q rfl (Qy.move rfl) ?_
  refine Wl.call 0 rfl T.fn65 rfl (c65 _ _ _ _ (by assumption) (by omega) (by first | assumption | omega)) (tags_of trivial) (fun v1 G1 Ho1 hle1 hp => ?_)
  obtain ⟨ti1, tj1, tb1, rfl, htb1, rfl, rfl⟩ := hp
  refine Wl.q rfl (Qy.move rfl) ?_
  refine Wl.q rfl (Qy.extract rfl rfl) ?_
  refine Wl.q rfl (Qy.extract rfl rfl) ?_
  refine Wl.q rfl (Qy.extract rfl rfl) ?_
  refine Wl.q rfl (Qy.assign rfl) ?_
  refine Wl.q rfl (Qy.assign rfl) ?_
  refine Wl.q rfl (Qy.assign rfl) ?_
  refine Wl.done ?_
  refine Ar.next ?_
  refine Wc.seq ?_
  refine Wc.region rfl ?_
  refine Wl.q rfl (Qy.move rfl) ?_
  refine Wl.q rfl (Qy.not rfl) ?_
  refine Wl.q rfl (Qy.assign rfl) ?_
  refine Wl.done ?_
  refine Ar.next ?_
  refine Wc.ret ?_
  refine Ar.out1 (.inr rfl) (Ho := Hp.only _ []) rfl (.tmp rfl) (Hp.sub_only _ _) ?_
  rotate_left
  · exact ⟨false, rfl, ⟨fun h => absurd h (by decide), fun h => absurd (h.2.2.1 j (by omega)) (by show ¬ okP (l[((j : Nat) : Int).toNat]?.getD default); unfold okP; unfold near at *; omega)⟩, rfl, rfl⟩
  · refine Ar.re 3 rfl (show _ = Value.int .i64 ((j + 1 : Nat) : Int) from rfl) ?_
    refine Ar.again (j + 1) ?_ ?_ rfl ⟨rfl, rfl, trivial⟩ trivial
    · refine ⟨by omega, fun i' h2 => ?_⟩
      rcases Nat.lt_or_ge i' j with h | h
      · exact hno i' h
      · have e : i' = j := by omega
        subst e
        show okP (l[((i' : Nat) : Int).toNat]?.getD default)
        unfold okP; unfold near at *; omega
    · omega
  · refine ⟨!tb1, rfl, ?_, rfl, rfl⟩
    have e : (∀ i, i < l.length → okP (l[i]?.getD default)) := fun i hi => hno i (by omega)
    rw [Bool.not_eq_true', Bool.eq_false_iff, ne_eq, htb1]
    exact ⟨fun h => ⟨by omega, by omega, e, h⟩, fun h => h.2.2.2⟩
end Go.Proofs.Ytbppmiimeccclaa
set_option linter.unusedVariables false
namespace Go.Proofs.Ytbppmiimeccclaa
open Go Go.Sl
theorem mul_sign_pos {y g : Int} (h : y * g < 0) (hg : g < 0) : 0 < y := by
  rcases Int.lt_trichotomy y 0 with h1 | h1 | h1
  · have := Int.mul_pos_of_neg_of_neg h1 hg; omega
  · subst h1; rw [Int.zero_mul] at h; omega
  · exact h1
theorem mul_sign_pos' {y g : Int} (h : 0 < y * g) (hg : 0 < g) : 0 < y := by
  rcases Int.lt_trichotomy y 0 with h1 | h1 | h1
  · have := Int.mul_neg_of_neg_of_pos h1 hg; omega
  · subst h1; rw [Int.zero_mul] at h; omega
  · exact h1
theorem nrm_canon {a b : Int} (h : ¬ (a = 0 ∧ b = 0)) : ∃ x y g : Int, nrm a b = (x, y) ∧ g ≠ 0 ∧ x * g = a ∧ y * g = b ∧ Int.gcd x y = 1 ∧ (0 < y ∨ (y = 0 ∧ 0 < x)) := by
  have hg0 : 0 < Int.gcd a b := by
    rcases Nat.eq_zero_or_pos (Int.gcd a b) with h0 | h0
    · exact absurd (Int.gcd_eq_zero_iff.mp h0) h
    · exact h0
  have hgn : normG a b ≠ 0 := by unfold normG; split <;> omega
  have habs : (normG a b).natAbs = Int.gcd a b := by unfold normG; split <;> omega
  have d1 : normG a b ∣ a := Int.natAbs_dvd.mp (by rw [habs]; exact Int.gcd_dvd_left a b)
  have d2 : normG a b ∣ b := Int.natAbs_dvd.mp (by rw [habs]; exact Int.gcd_dvd_right a b)
  have e1 := Int.tdiv_mul_cancel d1
  have e2 := Int.tdiv_mul_cancel d2
  refine ⟨a.tdiv (normG a b), b.tdiv (normG a b), normG a b, by unfold nrm; rw [if_neg h], hgn, e1, e2, ?_, ?_⟩
  · show Nat.gcd (a.tdiv (normG a b)).natAbs (b.tdiv (normG a b)).natAbs = 1
    rw [show (a.tdiv (normG a b)).natAbs = a.natAbs / (normG a b).natAbs from Int.natAbs_tdiv _ _, show (b.tdiv (normG a b)).natAbs = b.natAbs / (normG a b).natAbs from Int.natAbs_tdiv _ _, habs]
    exact Nat.coprime_div_gcd_div_gcd hg0
  · generalize hx : a.tdiv (normG a b) = x at *
    generalize hy : b.tdiv (normG a b) = y at *
    rcases Int.lt_trichotomy b 0 with hb | hb | hb
    · left
      refine mul_sign_pos (g := normG a b) (by omega) ?_
      unfold normG; rw [if_pos (.inl hb)]; omega
    · right
      have hy0 : y = 0 := by
        rcases Int.mul_eq_zero.mp (show y * normG a b = 0 by omega) with h1 | h1
        · exact h1
        · exact absurd h1 hgn
      refine ⟨hy0, ?_⟩
      rcases (show a < 0 ∨ 0 ≤ a by omega) with ha | ha
      · refine mul_sign_pos (g := normG a b) (by omega) ?_
        unfold normG; rw [if_pos (.inr ⟨hb, ha⟩)]; omega
      · refine mul_sign_pos' (g := normG a b) (by omega) ?_
        unfold normG; rw [if_neg (by omega)]; omega
    · left
      refine mul_sign_pos' (g := normG a b) (by omega) ?_
      unfold normG; rw [if_neg (by omega)]; omega
theorem canon_one {x y u v : Int} (h1 : Int.gcd x y = 1) (h2 : Int.gcd u v = 1) (s1 : 0 < y ∨ (y = 0 ∧ 0 < x)) (s2 : 0 < v ∨ (v = 0 ∧ 0 < u)) (h : x * v = u * y) : x = u ∧ y = v := by
  have e : x.natAbs * v.natAbs = u.natAbs * y.natAbs := by rw [← Int.natAbs_mul, ← Int.natAbs_mul, h]
  have c1 : Nat.Coprime x.natAbs y.natAbs := h1
  have c2 : Nat.Coprime u.natAbs v.natAbs := h2
  have p1 : x.natAbs ∣ u.natAbs := c1.dvd_of_dvd_mul_right (e ▸ Nat.dvd_mul_right _ _)
  have p2 : u.natAbs ∣ x.natAbs := c2.dvd_of_dvd_mul_right (e ▸ Nat.dvd_mul_right _ _)
  have p3 : y.natAbs ∣ v.natAbs := c1.symm.dvd_of_dvd_mul_left (e ▸ Nat.dvd_mul_left _ _)
  have p4 : v.natAbs ∣ y.natAbs := c2.symm.dvd_of_dvd_mul_left (e ▸ Nat.dvd_mul_left _ _)
  have q1 := Nat.dvd_antisymm p1 p2
  have q2 := Nat.dvd_antisymm p3 p4
  have hyv : y = v := by omega
  refine ⟨?_, hyv⟩
  subst hyv
  rcases s1 with s | s
  · exact Int.eq_of_mul_eq_mul_right (by omega) h
  · omega
theorem same_iff (a b c d : Int) : same a b c d ↔ oneR a b c d := by
  unfold same oneR
  by_cases hp : a = 0 ∧ b = 0
  · by_cases hq : c = 0 ∧ d = 0
    · rw [if_pos (.inl hp)]
      obtain ⟨rfl, rfl⟩ := hp
      obtain ⟨rfl, rfl⟩ := hq
      exact ⟨fun _ => ⟨⟨rfl, rfl⟩, rfl, rfl⟩, fun _ => rfl⟩
    · rw [if_pos (.inl hp)]
      refine ⟨fun h => ?_, fun h => absurd h.2 hq⟩
      obtain ⟨u, v, k, e2, hk, _, _, _, s2⟩ := nrm_canon hq
      have e1 : nrm a b = (0, 0) := by unfold nrm; rw [if_pos hp, hp.1, hp.2]
      rw [e1, e2] at h
      injection h with h3 h4
      omega
  · obtain ⟨x, y, g, e1, hg, f1, f2, c1, s1⟩ := nrm_canon hp
    by_cases hq : c = 0 ∧ d = 0
    · rw [if_pos (.inr hq)]
      refine ⟨fun h => ?_, fun h => absurd h.1 hp⟩
      have e2 : nrm c d = (0, 0) := by unfold nrm; rw [if_pos hq, hq.1, hq.2]
      rw [e1, e2] at h
      injection h with h3 h4
      omega
    · obtain ⟨u, v, k, e2, hk, f3, f4, c2, s2⟩ := nrm_canon hq
      rw [if_neg (fun h => h.elim hp hq), e1, e2]
      have key : a * d - c * b = (x * v - u * y) * (g * k) := by
        rw [← f1, ← f2, ← f3, ← f4, Int.sub_mul]
        congr 1 <;> ac_rfl
      constructor
      · intro h
        injection h with h3 h4
        rw [key, h3, h4, Int.sub_self, Int.zero_mul]
      · intro h
        rw [key] at h
        have hgk : g * k ≠ 0 := fun h0 => (Int.mul_eq_zero.mp h0).elim hg hk
        have h5 : x * v - u * y = 0 := (Int.mul_eq_zero.mp h).resolve_right hgk
        obtain ⟨r1, r2⟩ := canon_one c1 c2 s1 s2 (by omega)
        rw [r1, r2]
theorem twin_iff (l : List R2) : Twin l ↔ TwinR l := by
  unfold Twin TwinR alikeP alikeR
  simp only [same_iff]
theorem right_iff (l : List R2) : RightL l ↔ RightR l := by
  unfold RightL RightR
  rw [twin_iff]
end Go.Proofs.Ytbppmiimeccclaa
set_option maxRecDepth 100000
set_option linter.unusedVariables false
namespace Go.Proofs.Ytbppmiimeccclaa
open Go Go.Sl
set_option maxHeartbeats 4000000
attribute [local irreducible] valB pb cmpZ lstWp p2
theorem c109 (G : Imm) (x : IV) (z n : Int) (hx : Big G x z) (h1 : x.n ≤ 536870912) (hn : -9223372036854775808 ≤ n ∧ n ≤ 9223372036854775807) :
    Does Try.prog 109 [.agg (Cells.enc x).toArray, .int .i64 n] G [] (fun v G' Ho => ∃ r : IV, v = .agg (Cells.enc r).toArray ∧ Big G' r (z * n) ∧ Ho = []) := by
  have hn3 : (n.natAbs : Int) < pb 3 := by
    have e : pb 3 = 79228162514264337593543950336 := by unfold pb; decide
    omega
  obtain ⟨n1, a, k1, ca⟩ := x
  refine Does.enter Try.func109 rfl Try.ntmps109 rfl (fun w => ?_)
  refine Wc.seq ?_
  refine Wc.region rfl ?_
  refine Wl.box 0 rfl rfl rfl (fun b1 => ?_)
  refine Wl.alloc 1 rfl T.zero61 (fun b2 => ?_)
  refine Wl.done ?_
  refine Ar.next ?_
  refine Wc.seq ?_
  refine Wc.draw [0, 1] [(1, 4)] T.mixed rfl ?_
  refine Gm.q 0 [0] (by kernel_rfl) rfl rfl (Qy.loadAll 0 T.agg61 rfl rfl rfl) ?_
  refine Gm.q 1 [] (by kernel_rfl) rfl rfl (Qy.move rfl) ?_
  refine Gm.one 2 ⟨rfl, rfl, trivial⟩ (by first | exact Imm.le_refl _ | assumption | (refine Imm.le_trans ?_ (by assumption); first | assumption | (refine Imm.le_trans ?_ (by assumption); assumption))) (by kernel_rfl) rfl ?_
  refine Wl.call 2 rfl T.fn51 rfl (c51 _ _ (by omega)) (tags_of trivial) (fun v1 G1 Ho1 hle1 hp => ?_)
  obtain ⟨ro, rfl, hro, rfl⟩ := hp
  replace hx := hx.up hle1
  refine Wl.on0 ?_
  refine Gm.one 3 ⟨rfl, rfl, trivial⟩ (by first | exact Imm.le_refl _ | assumption | (refine Imm.le_trans ?_ (by assumption); first | assumption | (refine Imm.le_trans ?_ (by assumption); assumption))) (by kernel_rfl) rfl ?_
  refine Wl.call 2 rfl T.fn95 rfl (c95 _ _ _ _ _ hx hro h1 (Nat.le_trans (Big.len hro hn3) (by decide))) (tags_of trivial) (fun v2 G2 Ho2 hle2 hp => ?_)
  obtain ⟨rm, rfl, hrm, rfl⟩ := hp
  replace hro := hro.up hle2
  replace hx := hx.up hle2
  refine Wl.on0 ?_
  refine Gm.one 4 ⟨rfl, rfl, trivial⟩ (by first | exact Imm.le_refl _ | assumption | (refine Imm.le_trans ?_ (by assumption); first | assumption | (refine Imm.le_trans ?_ (by assumption); assumption))) (by kernel_rfl) rfl ?_
  refine Wl.storeAll 1 T.size61 rfl rfl rfl rfl rfl rfl ?_
  refine Wl.on0 ?_
  refine Gm.doneA (by kernel_rfl) ⟨rfl, trivial⟩ (by first | exact Imm.le_refl _ | assumption | (refine Imm.le_trans ?_ (by assumption); first | assumption | (refine Imm.le_trans ?_ (by assumption); assumption))) ?_
  refine Ar.next ?_
  refine Wc.ret ?_
  refine Ar.out1 (.inr rfl) (Ho := Hp.only _ []) rfl (.agg 1 rfl rfl T.agg61) (Hp.sub_only _ _) ?_
  exact ⟨rm, rfl, hrm, rfl⟩
end Go.Proofs.Ytbppmiimeccclaa
set_option maxRecDepth 100000
set_option linter.unusedVariables false
namespace Go.Proofs.Ytbppmiimeccclaa
open Go Go.Sl
set_option maxHeartbeats 4000000
attribute [local irreducible] valB pb cmpZ lstWp p2
def powR (a b : Int) (n : Nat) : List Int := (List.range n).map fun j => a ^ j * b ^ (n - 1 - j)
theorem c66 (G : Imm) (a b : Int) (n : Nat) (hp : near a b) (hn : n ≤ 15) :
    Does Try.prog 66 [.agg #[.int .i64 a, .int .i64 b], .int .i64 n] G [] (fun v G' Ho => ∃ (s : Option Addr) (r : List IV) (c' : Nat), v = .tuple #[.slice s r.length c', .int .i64 0] ∧ Arr G' s r ∧ Bigs G' r (powR a b n) ∧ r.length ≤ c' ∧ Ho = []) := by
  refine Does.enter Try.func66 rfl Try.ntmps66 rfl (fun w => ?_)
  have hpn : ¬((¬near a b ∨ (n : Int) < 0) ∨ 16 < (n : Int)) := by unfold near at *; omega
  refine Wc.seq ?_
  refine Wc.region rfl ?_
  refine Wl.box 0 rfl rfl rfl (fun b1 => ?_)
  refine Wl.q rfl (Qy.assign rfl) ?_
  refine Wl.q rfl (Qy.assign rfl) ?_
  refine Wl.done ?_
  refine Ar.next ?_
  refine Wc.seq ?_
  refine Wc.seq ?_
  refine Wc.region rfl ?_
  refine Wl.q rfl (Qy.loadAll 0 T.agg75 rfl rfl rfl) ?_
  refine Wl.call0 rfl T.fn71 rfl (by apply c71 <;> first | assumption | omega | rfl) ?_
  refine Wl.q rfl (Qy.notD rfl) ?_
  refine Wl.q rfl (Qy.move rfl) ?_
  apply Wl.joinOr 3 14 17 rfl
  intro hg1
  refine Wl.want rfl rfl ?_
  refine Wl.q rfl (Qy.move rfl) ?_
  refine Wl.want rfl rfl ?_
  refine Wl.q rfl (Qy.lss rfl rfl) ?_
  refine Wl.q rfl (Qy.pick rfl rfl) ?_
  exact Wl.back 3 0 rfl rfl rfl rfl rfl
  intro hg1
  refine Wl.pass rfl rfl rfl ?_
  refine Wl.pass rfl rfl rfl ?_
  refine Wl.q rfl (Qy.pick rfl rfl) ?_
  exact Wl.back 3 0 rfl rfl rfl rfl rfl
  refine Wl.q rfl (Qy.move rfl) ?_
  apply Wl.joinOr 3 18 21 rfl
  intro hg1
  refine Wl.want rfl rfl ?_
  refine Wl.q rfl (Qy.move rfl) ?_
  refine Wl.want rfl rfl ?_
  refine Wl.q rfl (Qy.gtr rfl rfl) ?_
  refine Wl.q rfl (Qy.pick rfl rfl) ?_
  exact Wl.back 3 0 rfl rfl rfl rfl rfl
  intro hg1
  refine Wl.pass rfl rfl rfl ?_
  refine Wl.pass rfl rfl rfl ?_
  refine Wl.q rfl (Qy.pick rfl rfl) ?_
  exact Wl.back 3 0 rfl rfl rfl rfl rfl
  refine Wl.done ?_
  refine Ar.next ?_
  refine Wc.condN rfl (by first | assumption | omega) ?_
  refine Wc.skip ?_
  refine Ar.next ?_
  refine Wc.seq ?_
  refine Wc.region rfl ?_
  refine Wl.q rfl (Qy.move rfl) ?_
  refine Wl.make (α := IV) 1 rfl T.sl33 T.el61 rfl rfl (by omega) (by omega) (fun b2 => ?_)
  refine Wl.q rfl (Qy.assign rfl) ?_
  refine Wl.done ?_
  refine Ar.next ?_
  refine Wc.seq ?_
  refine Wc.region rfl ?_
  refine Wl.call 2 rfl T.fn51 rfl (c51 _ 1 (by decide)) (tags_of trivial) (fun v1 G1 Ho1 hle1 hp => ?_)
  obtain ⟨ro1, rfl, hro1, rfl⟩ := hp
  refine Wl.call 2 rfl T.fn51 rfl (c51 _ 1 (by decide)) (tags_of trivial) (fun v2 G2 Ho2 hle2 hp => ?_)
  obtain ⟨ro2, rfl, hro2, rfl⟩ := hp
  replace hro1 := hro1.up hle2
  refine Wl.alloc 2 rfl T.zero61 (fun b3 => ?_)
  refine Wl.alloc 3 rfl T.zero61 (fun b4 => ?_)
  refine Wl.storeAll 2 T.size61 rfl rfl rfl rfl rfl rfl ?_
  refine Wl.storeAll 3 T.size61 rfl rfl rfl rfl rfl rfl ?_
  refine Wl.done ?_
  refine Ar.next ?_
  refine Wc.seq ?_
  refine Wc.seq ?_
  refine Wc.region rfl ?_
  refine Wl.q rfl (Qy.move rfl) ?_
  refine Wl.q rfl (Qy.len T.sl33 rfl) ?_
  refine Wl.q rfl (Qy.move rfl) ?_
  refine Wl.done ?_
  refine Ar.next ?_
  refine Wc.block ?_
  refine Wc.re 6 rfl (show _ = Value.slice (some ⟨b2, 0, none⟩) (List.replicate n (default : IV)).length n by simp) ?_
  have e2 : (List.replicate n (default : IV)).length = n := List.length_replicate ..
  refine Wc.loopG (ι := Nat × Imm × List IV × IV × (Option Addr × Nat × List Value)) (fun (k, Gx, r, x, (o, d, j)) => ([(28, .int .i64 (k : Int)), (6, .slice o r.length d), (27, Go.Value.int Go.IntKind.i64 (↑(List.length (List.replicate (Int.toNat (↑n : Int)) Inhabited.default)) : Int)), (8, Go.Value.pointer (Option.some (Go.Addr.mk b4 0 Option.none))), (7, Go.Value.pointer (Option.some (Go.Addr.mk b3 0 Option.none))), (5, Go.Value.int Go.IntKind.i64 0), (4, Go.Value.slice Option.none 0 0), (2, Go.Value.pointer (Option.some (Go.Addr.mk b1 0 Option.none))), (1, Go.Value.int Go.IntKind.i64 (↑n : Int))], [(1, o.map (·.block), Row 61 r j), (2, some b3, .cells (Cells.enc x).toArray 61), (3, Option.some b4, Go.Obj.cells (List.toArray (Go.Sl.Cells.enc ro2)) 61), (0, Option.some b1, Go.Obj.cells #[Go.Value.int Go.IntKind.i64 a, Go.Value.int Go.IntKind.i64 b] 75)])) (fun (k, Gx, r, x, (o, d, j)) => Gx) (fun (k, Gx, r, x, (o, d, j)) => k ≤ n ∧ G2.le Gx ∧ r.length = n ∧ Bigs Gx r ((List.range n).map fun i => if i < k then a ^ i else 0) ∧ Big Gx x (a ^ k) ∧ OwnA o d r j) (fun (k, Gx, r, x, (o, d, j)) => n - k) ((0, G2, List.replicate n default, ro1, (some ⟨b2, 0, none⟩, n, []))) (⟨Nat.zero_le _, Imm.le_refl _, List.length_replicate .., by have e : (List.range n).map (fun i => if i < 0 then a ^ i else 0) = List.replicate n (0 : Int) := by { apply List.ext_getElem <;> simp }; rw [e]; exact Bigs.zeros _ _, by rw [Int.pow_zero]; exact hro1, .inr ⟨b2, rfl, by rw [List.length_replicate]; rfl, by omega, by simp only [maxLen]; omega⟩⟩) rfl ⟨rfl, rfl, rfl, rfl, rfl, rfl, rfl, rfl, rfl, trivial⟩ ⟨rfl, rfl, rfl, rfl, trivial⟩ (fun ⟨k, Gx, r, x, (o, d, j)⟩ => fun (hk : k ≤ n ∧ G2.le Gx ∧ r.length = n ∧ Bigs Gx r ((List.range n).map fun i => if i < k then a ^ i else 0) ∧ Big Gx x (a ^ k) ∧ OwnA o d r j) => ?_)
  obtain ⟨hk1, hk2, hk3, hk4, hk5, hob⟩ := hk
  have e1 : (List.replicate ((n : Int)).toNat (default : IV)).length = n := by rw [List.length_replicate]; omega
  have e0 : (List.replicate n (default : IV)).length = n := List.length_replicate ..
  have hx3 : k ≤ 15 → ((a ^ k).natAbs : Int) < pb 3 := fun h => by
    have e : pb 3 = 79228162514264337593543950336 := by unfold pb; decide
    have e2 : (a ^ k).natAbs ≤ 16 ^ 15 := by
      rw [Int.natAbs_pow]
      exact Nat.le_trans (Nat.pow_le_pow_left (show a.natAbs ≤ 16 by unfold near at hp; omega) k) (Nat.pow_le_pow_right (by omega) h)
    have e3 : (16 : Nat) ^ 15 = 1152921504606846976 := by decide
    omega
  have hxn : x.n ≤ 536870912 := Nat.le_trans (Big.len hk5 (hx3 (by omega))) (by decide)
  refine Wc.seq ?_
  refine Wc.region rfl ?_
  refine Wl.q rfl (Qy.lss rfl rfl) ?_
  refine Wl.done ?_
  refine Ar.next ?_
  refine Wc.seq ?_
  refine Wc.cond rfl (fun hc1 => ?_) (fun hc1 => ?_)
  refine Wc.skip ?_
  refine Ar.next ?_
  refine Wc.seq ?_
  refine Wc.block ?_
  refine Wc.seq ?_
  refine Wc.region rfl ?_
  refine Wl.q rfl (Qy.move rfl) ?_
  refine Wl.q rfl (Qy.assign rfl) ?_
  refine Wl.done ?_
  refine Ar.next ?_
  refine Wc.seq ?_
  refine Wc.region rfl ?_
  refine Wl.q rfl (Qy.move rfl) ?_
  refine Wl.q rfl (Qy.move rfl) ?_
  refine Wl.q rfl (Qy.loadAll 2 T.agg61 rfl rfl rfl) ?_
  refine Wl.q rfl (Qy.indexAddrO (α := IV) T.sl33 rfl rfl (by assumption) (by omega)) ?_
  rotate_left
  refine Wc.exit ?_
  refine Ar.passExit ?_
  refine Ar.passExit ?_
  refine Ar.here ?_
  refine Ar.next ?_
  refine Wc.seq ?_
  refine Wc.seq ?_
  refine Wc.region rfl ?_
  refine Wl.q rfl (Qy.move rfl) ?_
  refine Wl.q rfl (Qy.sub rfl rfl (by omega)) ?_
  refine Wl.q rfl (Qy.assign rfl) ?_
  refine Wl.done ?_
  refine Ar.next ?_
  refine Wc.block ?_
  rotate_left
  · refine Wl.setO (z := x) 1 T.size61 rfl rfl rfl (by assumption) (by omega) rfl (fun h9 => ?_)
    refine Wl.done ?_
    refine Ar.next ?_
    refine Wc.region rfl ?_
    refine Wl.q rfl (Qy.loadAll 2 T.agg61 rfl rfl rfl) ?_
    refine Wl.q rfl (Qy.fieldAddr T.fa75_0 rfl) ?_
    refine Wl.q rfl (Qy.load 0 T.one3 rfl rfl rfl) ?_
    refine Wl.call 4 rfl T.fn109 rfl (c109 _ _ _ a hk5 hxn (by unfold near at hp; omega)) (tags_of trivial) (fun v3 G3 Ho3 hle3 hp => ?_)
    obtain ⟨rt, rfl, hrt, rfl⟩ := hp
    replace hk4 := hk4.up hle3
    replace hk5 := hk5.up hle3
    refine Wl.storeAll 2 T.size61 rfl rfl rfl rfl rfl rfl ?_
    refine Wl.done ?_
    refine Ar.outNormal ?_
    refine Ar.next ?_
    refine Wc.region rfl ?_
    refine Wl.q rfl (Qy.add rfl rfl (by omega)) ?_
    refine Wl.q rfl (Qy.move rfl) ?_
    refine Wl.done ?_
    have hle3' : Gx.le G3 := hle3
    refine Ar.re 28 rfl (show _ = Value.int .i64 ((k + 1 : Nat) : Int) from rfl) ?_
    refine Ar.re 6 rfl (show _ = Value.slice o (r.set ((k : Nat) : Int).toNat x).length d by rw [List.length_set]) ?_
    refine Ar.again ((k + 1, G3, r.set ((k : Nat) : Int).toNat x, rt, (o, d, j))) ?_ ?_ rfl ⟨rfl, rfl, rfl, rfl, rfl, rfl, rfl, rfl, rfl, trivial⟩ ⟨rfl, rfl, rfl, rfl, trivial⟩
    · refine ⟨by omega, Imm.le_trans hk2 hle3', by rw [List.length_set]; exact hk3, ?_, by rw [Int.pow_succ]; exact hrt, h9⟩
      have h8 := hk4.set k hk5
      rw [Int.toNat_natCast]
      have e : ((List.range n).map fun i => if i < k then a ^ i else 0).set k (a ^ k) = (List.range n).map fun i => if i < k + 1 then a ^ i else 0 := by
        apply List.ext_getElem
        · simp
        · intro i h1 h2
          rw [List.getElem_set]
          simp only [List.getElem_map, List.getElem_range]
          by_cases h : k = i
          · subst h; simp
          · rw [if_neg h]
            by_cases h7 : i < k
            · rw [if_pos h7, if_pos (by omega)]
            · rw [if_neg h7, if_neg (by omega)]
      rw [e] at h8; exact h8
    · show n - (k + 1) < n - k
      omega
  have hkn : k = n := by omega
  subst hkn
  have hl1 : (List.range k).map (fun i => if i < k then a ^ i else (0 : Int)) = (List.range k).map fun m => if ((m : Nat) : Int) ≤ (k : Int) - 1 then a ^ m else a ^ m * b ^ (k - 1 - m) := by
    apply List.map_congr_left
    intro m hm
    rw [List.mem_range] at hm
    rw [if_pos hm, if_pos (by omega)]
  rw [hl1] at hk4
  refine Wc.loopG (ι := Int × Imm × List IV × IV) (fun (i, Gy, q, y) => ([(10, .int .i64 i), (6, .slice o q.length d), (8, Go.Value.pointer (Option.some (Go.Addr.mk b4 0 Option.none))), (5, Go.Value.int Go.IntKind.i64 0), (4, Go.Value.slice Option.none 0 0), (2, Go.Value.pointer (Option.some (Go.Addr.mk b1 0 Option.none)))], [(1, o.map (·.block), Row 61 q j), (3, some b4, .cells (Cells.enc y).toArray 61), (2, Option.some b3, Go.Obj.cells (List.toArray (Go.Sl.Cells.enc x)) 61), (0, Option.some b1, Go.Obj.cells #[Go.Value.int Go.IntKind.i64 a, Go.Value.int Go.IntKind.i64 b] 75)])) (fun (i, Gy, q, y) => Gy) (fun (i, Gy, q, y) => -1 ≤ i ∧ i < k ∧ Gx.le Gy ∧ q.length = k ∧ Bigs Gy q ((List.range k).map fun m => if ((m : Nat) : Int) ≤ i then a ^ m else a ^ m * b ^ (k - 1 - m)) ∧ Big Gy y (b ^ ((k : Int) - 1 - i).toNat) ∧ OwnA o d q j) (fun (i, Gy, q, y) => (i + 1).toNat) (((k : Int) - 1, Gx, r, ro2)) (⟨by omega, by omega, Imm.le_refl _, hk3, hk4, by rw [show ((k : Int) - 1 - ((k : Int) - 1)).toNat = 0 by omega, Int.pow_zero]; exact hro2.up hk2, hob⟩) rfl ⟨rfl, rfl, rfl, rfl, rfl, rfl, trivial⟩ ⟨rfl, rfl, rfl, rfl, trivial⟩ (fun ⟨i, Gy, q, y⟩ => fun (hk : -1 ≤ i ∧ i < k ∧ Gx.le Gy ∧ q.length = k ∧ Bigs Gy q ((List.range k).map fun m => if ((m : Nat) : Int) ≤ i then a ^ m else a ^ m * b ^ (k - 1 - m)) ∧ Big Gy y (b ^ ((k : Int) - 1 - i).toNat) ∧ OwnA o d q j) => ?_)
  obtain ⟨hi1, hi2, hi3, hi4, hi5, hi6, hi7⟩ := hk
  rcases Int.lt_or_le i 0 with hi0 | hi0
  · have hi9 : i = -1 := by omega
    subst hi9
    have hl2 : (List.range k).map (fun m => if ((m : Nat) : Int) ≤ -1 then a ^ m else a ^ m * b ^ (k - 1 - m)) = powR a b k := by
      unfold powR
      apply List.map_congr_left
      intro m hm
      rw [if_neg (by omega)]
    rw [hl2] at hi5
    refine Wc.seq ?_
    refine Wc.seq ?_
    refine Wc.region rfl ?_
    refine Wl.q rfl (Qy.move rfl) ?_
    refine Wl.q rfl (Qy.geq rfl rfl) ?_
    refine Wl.done ?_
    refine Ar.next ?_
    refine Wc.condN rfl (by first | assumption | omega) ?_
    refine Wc.exit ?_
    refine Ar.passExit ?_
    refine Ar.passExit ?_
    refine Ar.here ?_
    refine Ar.next ?_
    refine Wc.seq ?_
    refine Wc.region rfl ?_
    refine Wl.q rfl (Qy.move rfl) ?_
    refine Wl.q rfl (Qy.assign rfl) ?_
    refine Wl.q rfl (Qy.assign rfl) ?_
    refine Wl.done ?_
    refine Ar.next ?_
    refine Wc.ret ?_
    refine Ar.freezeRow 1 rfl hi7 (fun G8 hle8 hA8 => ?_)
    refine Ar.out2 (.inr rfl) (Ho := []) rfl (.tmp rfl) (.tmp rfl) trivial ?_
    exact ⟨_, _, _, rfl, hA8, hi5.up hle8, hi7.le, rfl⟩
  · obtain ⟨m, rfl⟩ : ∃ m : Nat, i = (m : Int) := ⟨i.toNat, by omega⟩
    have hmk : m < k := by omega
    have hbe : Big Gy (q[((m : Nat) : Int).toNat]?.getD default) (a ^ m) := by
      have h9 := hi5.2 m (by omega)
      rw [List.getElem?_map, List.getElem?_range hmk] at h9
      rw [Int.toNat_natCast]
      simpa using h9
    have hsm : ∀ (c : Int) (e : Nat), -16 ≤ c ∧ c ≤ 16 → e ≤ 15 → ((c ^ e).natAbs : Int) < pb 3 := fun c e hc he => by
      have e0 : pb 3 = 79228162514264337593543950336 := by unfold pb; decide
      have e2 : (c ^ e).natAbs ≤ 16 ^ 15 := by
        rw [Int.natAbs_pow]
        exact Nat.le_trans (Nat.pow_le_pow_left (show c.natAbs ≤ 16 by omega) e) (Nat.pow_le_pow_right (by omega) he)
      have e3 : (16 : Nat) ^ 15 = 1152921504606846976 := by decide
      omega
    have hlq := Big.len hbe (hsm a m (by unfold near at hp; omega) (by omega))
    have hly := Big.len hi6 (hsm b _ (by unfold near at hp; omega) (by omega))
    have hyn : y.n ≤ 536870912 := Nat.le_trans hly (by decide)
    refine Wc.seq ?_
    refine Wc.seq ?_
    refine Wc.region rfl ?_
    refine Wl.q rfl (Qy.move rfl) ?_
    refine Wl.q rfl (Qy.geq rfl rfl) ?_
    refine Wl.done ?_
    refine Ar.next ?_
    refine Wc.condP rfl (by first | assumption | omega) ?_
    refine Wc.skip ?_
    refine Ar.next ?_
    refine Wc.seq ?_
    refine Wc.block ?_
    refine Wc.seq ?_
    refine Wc.draw [0, 2, 3, 1] [(1, 9), (3, 9), (2, 9), (0, 9)] T.mixed rfl ?_
    refine Gm.q 0 [] (by kernel_rfl) rfl rfl (Qy.move rfl) ?_
    refine Gm.q 1 [] (by kernel_rfl) rfl rfl (Qy.move rfl) ?_
    refine Gm.q 2 [] (by kernel_rfl) rfl rfl (Qy.move rfl) ?_
    refine Gm.q 3 [] (by kernel_rfl) rfl rfl (Qy.move rfl) ?_
    refine Gm.q 4 [] (by kernel_rfl) rfl rfl (Qy.indexAddrO (α := IV) T.sl33 rfl rfl (by assumption) (by omega)) ?_
    refine Gm.q 5 [1] (by kernel_rfl) rfl rfl (Qy.loadsO 1 T.agg61 rfl rfl (by assumption) (by omega)) ?_
    refine Gm.q 6 [3] (by kernel_rfl) rfl rfl (Qy.loadAll 3 T.agg61 rfl rfl rfl) ?_
    refine Gm.one 7 ⟨rfl, rfl, rfl, rfl, trivial⟩ (by first | exact Imm.le_refl _ | assumption | (refine Imm.le_trans ?_ (by assumption); first | assumption | (refine Imm.le_trans ?_ (by assumption); assumption))) (by kernel_rfl) rfl ?_
    refine Wl.call 4 rfl T.fn95 rfl (c95 _ _ _ _ _ hbe hi6 (Nat.le_trans hlq (by decide)) (Nat.le_trans hly (by decide))) (tags_of trivial) (fun v3 G3 Ho3 hle3 hp => ?_)
    obtain ⟨rm3, rfl, hrm3, rfl⟩ := hp
    replace hi5 := hi5.up hle3
    replace hi6 := hi6.up hle3
    replace hbe := hbe.up hle3
    refine Wl.on0 ?_
    refine Gm.q 8 [] (by kernel_rfl) rfl rfl (Qy.indexAddrO (α := IV) T.sl33 rfl rfl (by assumption) (by omega)) ?_
    refine Gm.one 9 ⟨rfl, rfl, rfl, rfl, trivial⟩ (by first | exact Imm.le_refl _ | assumption | (refine Imm.le_trans ?_ (by assumption); first | assumption | (refine Imm.le_trans ?_ (by assumption); assumption))) (by kernel_rfl) rfl ?_
    refine Wl.setO (z := rm3) 1 T.size61 rfl rfl rfl (by assumption) (by omega) rfl (fun h9 => ?_)
    refine Wl.on0 ?_
    refine Gm.doneA (by kernel_rfl) trivial (by first | exact Imm.le_refl _ | assumption | (refine Imm.le_trans ?_ (by assumption); first | assumption | (refine Imm.le_trans ?_ (by assumption); assumption))) ?_
    refine Ar.next ?_
    refine Wc.region rfl ?_
    refine Wl.q rfl (Qy.loadAll 3 T.agg61 rfl rfl rfl) ?_
    refine Wl.q rfl (Qy.fieldAddr T.fa75_1 rfl) ?_
    refine Wl.q rfl (Qy.load 0 T.one3 rfl rfl rfl) ?_
    refine Wl.call 4 rfl T.fn109 rfl (c109 _ _ _ b (by assumption) hyn (by unfold near at hp; omega)) (tags_of trivial) (fun v4 G4 Ho4 hle4 hp => ?_)
    obtain ⟨rt4, rfl, hrt4, rfl⟩ := hp
    replace hrm3 := hrm3.up hle4
    replace hi5 := hi5.up hle4
    replace hi6 := hi6.up hle4
    replace hbe := hbe.up hle4
    refine Wl.storeAll 3 T.size61 rfl rfl rfl rfl rfl rfl ?_
    refine Wl.done ?_
    refine Ar.outNormal ?_
    refine Ar.next ?_
    refine Wc.region rfl ?_
    refine Wl.q rfl (Qy.move rfl) ?_
    refine Wl.q rfl (Qy.sub rfl rfl (by omega)) ?_
    refine Wl.q rfl (Qy.assign rfl) ?_
    refine Wl.done ?_
    refine Ar.re 6 rfl (show _ = Value.slice o (q.set ((m : Nat) : Int).toNat rm3).length d by rw [List.length_set]) ?_
    refine Ar.again (((m : Int) - 1, _, q.set ((m : Nat) : Int).toNat rm3, rt4)) ?_ ?_ rfl ⟨rfl, rfl, rfl, rfl, rfl, rfl, trivial⟩ ⟨rfl, rfl, rfl, rfl, trivial⟩
    · refine ⟨by omega, by omega, Imm.le_trans hi3 (Imm.le_trans (by assumption) (by assumption)), by rw [List.length_set]; exact hi4, ?_, ?_, h9⟩
      · have h8 := hi5.set m hrm3
        rw [Int.toNat_natCast]
        have e : ((List.range k).map fun q => if ((q : Nat) : Int) ≤ (m : Int) then a ^ q else a ^ q * b ^ (k - 1 - q)).set m (a ^ m * b ^ ((k : Int) - 1 - (m : Int)).toNat) = (List.range k).map fun q => if ((q : Nat) : Int) ≤ (m : Int) - 1 then a ^ q else a ^ q * b ^ (k - 1 - q) := by
          apply List.ext_getElem
          · simp
          · intro i h1 h2
            rw [List.getElem_set]
            simp only [List.getElem_map, List.getElem_range]
            by_cases h : m = i
            · subst h
              rw [if_pos rfl, if_neg (by omega)]
              congr 2
              omega
            · rw [if_neg h]
              by_cases h7 : (i : Int) ≤ (m : Int)
              · rw [if_pos h7, if_pos (by omega)]
              · rw [if_neg h7, if_neg (by omega)]
        rw [e] at h8; exact h8
      · have e : ((k : Int) - 1 - ((m : Int) - 1)).toNat = ((k : Int) - 1 - (m : Int)).toNat + 1 := by omega
        rw [e, Int.pow_succ]; exact hrt4
    · show ((m : Int) - 1 + 1).toNat < ((m : Int) + 1).toNat
      omega
end Go.Proofs.Ytbppmiimeccclaa
set_option maxRecDepth 100000
set_option linter.unusedVariables false
namespace Go.Proofs.Ytbppmiimeccclaa
open Go Go.Sl
set_option maxHeartbeats 4000000
attribute [local irreducible] valB pb cmpZ lstWp p2 RightL powR
/-- a row of big numbers, by its slice -/
def BRow (G : Imm) (s : SV) (zs : List Int) : Prop := ∃ l : List IV, l.length = s.n ∧ s.n ≤ s.c ∧ Arr G s.a l ∧ Bigs G l zs
theorem BRow.up {G G' : Imm} {s : SV} {zs : List Int} (h : BRow G s zs) (hl : G.le G') : BRow G' s zs := by
  obtain ⟨l, h1, h2, h3, h4⟩ := h
  exact ⟨l, h1, h2, h3.up hl, h4.up hl⟩
def BGrid (G : Imm) (l : List SV) (rs : List (List Int)) : Prop := l.length = rs.length ∧ ∀ i : Nat, i < l.length → BRow G (l[i]?.getD default) (rs[i]?.getD [])
theorem BGrid.up {G G' : Imm} {l : List SV} {rs : List (List Int)} (h : BGrid G l rs) (hl : G.le G') : BGrid G' l rs := ⟨h.1, fun i hi => (h.2 i hi).up hl⟩
theorem BGrid.nil (G : Imm) : BGrid G [] [] := ⟨rfl, fun i hi => by simp at hi⟩
theorem BGrid.snoc {G : Imm} {l : List SV} {rs : List (List Int)} (h : BGrid G l rs) {s : SV} {zs : List Int} (hs : BRow G s zs) : BGrid G (l ++ [s]) (rs ++ [zs]) := by
  refine ⟨by rw [List.length_append, List.length_append, h.1]; rfl, fun i hi => ?_⟩
  rw [List.length_append, List.length_singleton] at hi
  rcases Nat.lt_or_ge i l.length with h1 | h1
  · rw [List.getElem?_append_left h1, List.getElem?_append_left (by rw [← h.1]; exact h1)]; exact h.2 i h1
  · have : i = l.length := by omega
    subst this
    rw [List.getElem?_append_right (Nat.le_refl _), List.getElem?_append_right (by rw [h.1]; exact Nat.le_refl _), Nat.sub_self, h.1, Nat.sub_self]
    exact hs
theorem c28Y (G : Imm) (a : Option Addr) (c : Nat) (l : List R2) (ha : Arr G a l) (h1 : l.length ≤ 1048576) (hc : l.length ≤ c) (hR : RightL l) : Does Try.prog 28 [.slice a l.length c] G [] (fun v G' Ho => v = .bool true ∧ G' = G ∧ Ho = []) :=
  (c28 G a c l ha h1 hc).mono fun v G' Ho _ ⟨b, e1, e2, e3, e4⟩ => ⟨by rw [e1, e2.2 hR], e3, e4⟩
theorem c28N (G : Imm) (a : Option Addr) (c : Nat) (l : List R2) (ha : Arr G a l) (h1 : l.length ≤ 1048576) (hc : l.length ≤ c) (hR : ¬ RightL l) : Does Try.prog 28 [.slice a l.length c] G [] (fun v G' Ho => v = .bool false ∧ G' = G ∧ Ho = []) :=
  (c28 G a c l ha h1 hc).mono fun v G' Ho _ ⟨b, e1, e2, e3, e4⟩ => ⟨by rw [e1]; congr 1; cases b; { rfl }; exact absurd (e2.1 rfl) hR, e3, e4⟩
def gridR (l : List R2) : List (List Int) := l.map fun p => powR p.a p.b l.length
theorem c26W (G : Imm) (a : Option Addr) (c : Nat) (l : List R2) (ha : Arr G a l) (h1 : l.length ≤ 1048576) (hc : l.length ≤ c) (hR : ¬ RightL l) :
    Does Try.prog 26 [.slice a l.length c] G [] (fun v G' Ho => v = .tuple #[.slice none 0 0, .int .i64 2] ∧ G' = G ∧ Ho = []) := by
  refine Does.enter Try.func26 rfl Try.ntmps26 rfl (fun w => ?_)
  refine Wc.seq ?_
  refine Wc.region rfl ?_
  refine Wl.q rfl (Qy.assign rfl) ?_
  refine Wl.q rfl (Qy.assign rfl) ?_
  refine Wl.done ?_
  refine Ar.next ?_
  refine Wc.seq ?_
  refine Wc.seq ?_
  refine Wc.region rfl ?_
  refine Wl.q rfl (Qy.move rfl) ?_
  refine Wl.call0 rfl T.fn28 rfl (c28N _ _ _ l (by assumption) (by omega) hc hR) ?_
  refine Wl.q rfl (Qy.not rfl) ?_
  refine Wl.done ?_
  refine Ar.next ?_
  refine Wc.condT rfl ?_
  refine Wc.seq ?_
  refine Wc.region rfl ?_
  refine Wl.q rfl (Qy.assign rfl) ?_
  refine Wl.q rfl (Qy.assign rfl) ?_
  refine Wl.done ?_
  refine Ar.next ?_
  refine Wc.ret ?_
  refine Ar.passRet ?_
  refine Ar.out2 (.inr rfl) (Ho := Hp.only _ []) rfl (.tmp rfl) (.tmp rfl) (Hp.sub_only _ _) ?_
  exact ⟨rfl, rfl, rfl⟩
theorem c26R (G : Imm) (a : Option Addr) (c : Nat) (l : List R2) (ha : Arr G a l) (h1 : l.length ≤ 1048576) (hc : l.length ≤ c) (hR : RightL l) (hr1 : l.length ≤ 15) (hr2 : ∀ i, i < l.length → okP (l[i]?.getD default)) :
    Does Try.prog 26 [.slice a l.length c] G [] (fun v G' Ho => ∃ (s : Option Addr) (r : List SV) (c' : Nat), v = .tuple #[.slice s r.length c', .int .i64 0] ∧ Arr G' s r ∧ BGrid G' r (gridR l) ∧ r.length ≤ c' ∧ Ho = []) := by
  refine Does.enter Try.func26 rfl Try.ntmps26 rfl (fun w => ?_)
  refine Wc.nilRow 9 (Row 33 ([] : List SV) []) ?_
  refine Wc.seq ?_
  refine Wc.region rfl ?_
  refine Wl.q rfl (Qy.assign rfl) ?_
  refine Wl.q rfl (Qy.assign rfl) ?_
  refine Wl.done ?_
  refine Ar.next ?_
  refine Wc.seq ?_
  refine Wc.seq ?_
  refine Wc.region rfl ?_
  refine Wl.q rfl (Qy.move rfl) ?_
  refine Wl.call0 rfl T.fn28 rfl (c28Y _ _ _ l (by assumption) (by omega) hc hR) ?_
  refine Wl.q rfl (Qy.not rfl) ?_
  refine Wl.done ?_
  refine Ar.next ?_
  refine Wc.condF rfl ?_
  refine Wc.skip ?_
  refine Ar.next ?_
  refine Wc.seq ?_
  refine Wc.region rfl ?_
  refine Wl.q rfl (Qy.assign rfl) ?_
  refine Wl.done ?_
  refine Ar.next ?_
  refine Wc.seq ?_
  refine Wc.seq ?_
  refine Wc.region rfl ?_
  refine Wl.q rfl (Qy.move rfl) ?_
  refine Wl.q rfl (Qy.len T.sl47 rfl) ?_
  refine Wl.q rfl (Qy.move rfl) ?_
  refine Wl.done ?_
  refine Ar.next ?_
  refine Wc.block ?_
  refine Wc.loopG (ι := Nat × Imm × List SV × (Option Addr × Nat × List Value)) (fun (i, Gx, r, (o, d, j)) => ([(14, .int .i64 (i : Int)), (4, .slice o r.length d), (13, Go.Value.int Go.IntKind.i64 (↑(List.length l) : Int)), (12, Go.Value.slice a (List.length l) c), (3, Go.Value.int Go.IntKind.i64 0), (2, Go.Value.slice Option.none 0 0), (0, Go.Value.slice a (List.length l) c)], [(9, o.map (·.block), Row 33 r j)])) (fun (i, Gx, r, (o, d, j)) => Gx) (fun (i, Gx, r, (o, d, j)) => i ≤ l.length ∧ G.le Gx ∧ r.length = i ∧ BGrid Gx r ((gridR l).take i) ∧ OwnA o d r j) (fun (i, Gx, r, (o, d, j)) => l.length - i) ((0, G, [], (none, 0, []))) (⟨Nat.zero_le _, Imm.le_refl _, rfl, by rw [List.take_zero]; exact BGrid.nil _, OwnA.nil⟩) rfl ⟨rfl, rfl, rfl, rfl, rfl, rfl, rfl, trivial⟩ ⟨rfl, trivial⟩ (fun ⟨i, Gx, r, (o, d, j)⟩ => fun (hk : i ≤ l.length ∧ G.le Gx ∧ r.length = i ∧ BGrid Gx r ((gridR l).take i) ∧ OwnA o d r j) => ?_)
  obtain ⟨hi1, hi2, hi3, hi4, hi5⟩ := hk
  replace ha := ha.up hi2
  rcases Nat.lt_or_ge i l.length with hil | hil
  · have hnear : near (l[((i : Nat) : Int).toNat]?.getD default).a (l[((i : Nat) : Int).toNat]?.getD default).b := (hr2 i hil).1
    refine Wc.seq ?_
    refine Wc.region rfl ?_
    refine Wl.q rfl (Qy.lss rfl rfl) ?_
    refine Wl.done ?_
    refine Ar.next ?_
    refine Wc.seq ?_
    refine Wc.condP rfl (by first | assumption | omega) ?_
    refine Wc.skip ?_
    refine Ar.next ?_
    refine Wc.seq ?_
    refine Wc.block ?_
    refine Wc.seq ?_
    refine Wc.region rfl ?_
    refine Wl.q rfl (Qy.at (α := R2) T.sl47 rfl rfl (by assumption) (by omega)) ?_
    refine Wl.q rfl (Qy.loadsG T.agg75 rfl (Arr.elem (by assumption) (by omega)) rfl) ?_
    refine Wl.alloc 10 rfl T.zero75 (fun b1 => ?_)
    refine Wl.storeAll 10 T.size75 rfl rfl rfl rfl rfl rfl ?_
    refine Wl.done ?_
    refine Ar.next ?_
    refine Wc.seq ?_
    refine Wc.region rfl ?_
    refine Wl.q rfl (Qy.loadAll 10 T.agg75 rfl rfl rfl) ?_
    refine Wl.q rfl (Qy.move rfl) ?_
    refine Wl.q rfl (Qy.len T.sl47 rfl) ?_
    refine Wl.call 11 rfl T.fn66 rfl (c66 _ _ _ l.length hnear (by omega)) (tags_of trivial) (fun v1 G1 Ho1 hle1 hp => ?_)
    obtain ⟨ps1, pr1, pc1, rfl, hpA1, hpB1, hpL1, rfl⟩ := hp
    replace ha := ha.up hle1
    refine Wl.q rfl (Qy.move rfl) ?_
    refine Wl.q rfl (Qy.extract rfl rfl) ?_
    refine Wl.q rfl (Qy.extract rfl rfl) ?_
    refine Wl.q rfl (Qy.assign rfl) ?_
    refine Wl.q rfl (Qy.assign rfl) ?_
    refine Wl.done ?_
    refine Ar.next ?_
    refine Wc.region rfl ?_
    refine Wl.q rfl (Qy.move rfl) ?_
    refine Wl.q rfl (Qy.move rfl) ?_
    refine Wl.lit (α := SV) 11 [⟨_, _, _⟩] rfl T.sl49 T.el33 rfl rfl rfl rfl rfl (fun b2 => ?_)
    refine Wl.append (α := SV) 9 rfl T.sl49 T.el33 rfl rfl rfl (by first | assumption | exact OwnA.nil | exact OwnA.made (by simp)) (Src.row 11 rfl) (by first | omega | (simp only [List.length_append, List.length_cons, List.length_nil, maxLen]; omega)) (by first | omega | (simp only [List.length_append, List.length_cons, List.length_nil, maxLen]; omega)) (fun a1 c1 junk1 ho1 => ?_)
    refine Wl.q rfl (Qy.assign rfl) ?_
    refine Wl.done ?_
    refine Ar.outNormal ?_
    refine Ar.next ?_
    refine Wc.region rfl ?_
    refine Wl.q rfl (Qy.add rfl rfl (by omega)) ?_
    refine Wl.q rfl (Qy.move rfl) ?_
    refine Wl.done ?_
    refine Ar.re 14 rfl (show _ = Value.int .i64 ((i + 1 : Nat) : Int) from rfl) ?_
    refine Ar.again ((i + 1, _, r ++ [⟨ps1, pr1.length, pc1⟩], (a1, c1, junk1))) ?_ ?_ rfl ⟨rfl, rfl, rfl, rfl, rfl, rfl, rfl, trivial⟩ ⟨rfl, trivial⟩
    · refine ⟨by omega, Imm.le_trans hi2 (by assumption), by rw [List.length_append, hi3]; rfl, ?_, ho1⟩
      have e : (gridR l).take (i + 1) = (gridR l).take i ++ [powR (l[((i : Nat) : Int).toNat]?.getD default).a (l[((i : Nat) : Int).toNat]?.getD default).b l.length] := by
        rw [List.take_add_one]
        congr 1
        unfold gridR
        rw [List.getElem?_map, Int.toNat_natCast, List.getElem?_eq_getElem hil]; rfl
      rw [e]
      exact (hi4.up (by assumption)).snoc ⟨pr1, rfl, hpL1, hpA1, hpB1⟩
    · show l.length - (i + 1) < l.length - i
      omega
  · have hie : i = l.length := by omega
    subst hie
    have e : (gridR l).take l.length = gridR l := List.take_of_length_le (by unfold gridR; rw [List.length_map]; exact Nat.le_refl _)
    rw [e] at hi4
    refine Wc.seq ?_
    refine Wc.region rfl ?_
    refine Wl.q rfl (Qy.lss rfl rfl) ?_
    refine Wl.done ?_
    refine Ar.next ?_
    refine Wc.seq ?_
    refine Wc.condN rfl (by first | assumption | omega) ?_
    refine Wc.exit ?_
    refine Ar.passExit ?_
    refine Ar.passExit ?_
    refine Ar.here ?_
    refine Ar.next ?_
    refine Wc.seq ?_
    refine Wc.region rfl ?_
    refine Wl.q rfl (Qy.move rfl) ?_
    refine Wl.q rfl (Qy.assign rfl) ?_
    refine Wl.q rfl (Qy.assign rfl) ?_
    refine Wl.done ?_
    refine Ar.next ?_
    refine Wc.ret ?_
    refine Ar.freezeRow 9 rfl hi5 (fun G8 hle8 hA8 => ?_)
    refine Ar.out2 (.inr rfl) (Ho := []) rfl (.tmp rfl) (.tmp rfl) trivial ?_
    exact ⟨_, _, _, rfl, hA8, hi4.up hle8, hi5.le, rfl⟩
end Go.Proofs.Ytbppmiimeccclaa
set_option maxRecDepth 100000
set_option linter.unusedVariables false
namespace Go.Proofs.Ytbppmiimeccclaa
open Go Go.Sl
set_option maxHeartbeats 4000000
/-- so many digits are left, if the noughts at the top are struck -/
def TrimTo (l : List U32) (n : Nat) : Prop := n ≤ l.length ∧ (∀ j, n ≤ j → j < l.length → (l[j]?.getD default).v = 0) ∧ (n = 0 ∨ (l[n - 1]?.getD default).v ≠ 0)
theorem arr_sub {α : Type} [Cells α] {G : Imm} {a : Option Addr} {c sz : Nat} {l : List α} (h : Arr G a l) (n : Nat) : Arr G (subA a c 0 sz) (l.take n) := by
  refine ⟨flat_length _, ?_⟩
  rcases h.2 with h0 | ⟨b, o, rfl, hr⟩
  · left; rw [List.length_take]; omega
  · refine .inr ⟨b, o, ?_, fun i v hi => hr i v ?_⟩
    · unfold subA
      split
      · rfl
      · simp [Addr.add]
    · have e : flat l = flat (l.take n) ++ flat (l.drop n) := by rw [← flat_append, List.take_append_drop]
      rw [e, List.getElem?_append_left (List.getElem?_eq_some_iff.1 hi).1]; exact hi
theorem c119 (G : Imm) (neg : Bool) (a : Option Addr) (c : Nat) (l : List U32) (hl : Arr G a l) (hb : l.length ≤ 1099511627776) (hc : l.length ≤ c) :
    Does Try.prog 119 [.bool neg, .slice a l.length c] G [] (fun v G' Ho => ∃ n, v = .agg #[.bool (neg && decide (0 < n)), .slice (subA a c 0 1) n c] ∧ TrimTo l n ∧ G' = G ∧ Ho = []) := by
  refine Does.enter Try.func119 rfl Try.ntmps119 rfl (fun w => ?_)
  refine Wc.seq ?_
  refine Wc.region rfl ?_
  refine Wl.alloc 0 rfl T.zero63 (fun b1 => ?_)
  refine Wl.done ?_
  refine Ar.next ?_
  refine Wc.seq ?_
  refine Wc.region rfl ?_
  refine Wl.q rfl (Qy.move rfl) ?_
  refine Wl.q rfl (Qy.len T.sl59 rfl) ?_
  refine Wl.q rfl (Qy.assign rfl) ?_
  refine Wl.done ?_
  refine Ar.next ?_
  refine Wc.seq ?_
  refine Wc.block ?_
  refine Wc.loop (ι := Nat) (fun n => ([(5, .int .i64 (n : Int)), (4, Go.Value.pointer (Option.some (Go.Addr.mk b1 0 Option.none))), (0, Go.Value.bool neg), (1, Go.Value.slice a (List.length l) c)], [(0, Option.some b1, Go.Obj.cells #[Go.Value.bool Bool.false, Go.Value.slice Option.none 0 0] 63)])) (fun n => n ≤ l.length ∧ (∀ j, n ≤ j → j < l.length → (l[j]?.getD default).v = 0)) (fun n => n) (l.length) (⟨Nat.le_refl _, fun j h1 h2 => absurd h2 (by omega)⟩) ⟨rfl, rfl, rfl, rfl, trivial⟩ ⟨rfl, trivial⟩ (fun n => fun (hk : n ≤ l.length ∧ (∀ j, n ≤ j → j < l.length → (l[j]?.getD default).v = 0)) => ?_)
  obtain ⟨hn, hz⟩ := hk
  refine Wc.seq ?_
  refine Wc.seq ?_
  refine Wc.region rfl ?_
  refine Wl.q rfl (Qy.move rfl) ?_
  refine Wl.q rfl (Qy.gtr rfl rfl) ?_
  refine Wl.q rfl (Qy.move rfl) ?_
  apply Wl.joinAnd 7 10 17 rfl
  intro hg1
  refine Wl.want rfl rfl ?_
  refine Wl.q rfl (Qy.move rfl) ?_
  refine Wl.want rfl rfl ?_
  refine Wl.q rfl (Qy.move rfl) ?_
  refine Wl.want rfl rfl ?_
  refine Wl.q rfl (Qy.sub rfl rfl (by omega)) ?_
  refine Wl.want rfl rfl ?_
  refine Wl.q rfl (Qy.at (α := U32) T.sl59 rfl rfl (by assumption) (by omega)) ?_
  refine Wl.want rfl rfl ?_
  refine Wl.q rfl (Qy.loadG T.one153 rfl (Arr.cell (by assumption) (by omega) 0 rfl rfl)) ?_
  refine Wl.want rfl rfl ?_
  refine Wl.q rfl (Qy.eql rfl rfl) ?_
  refine Wl.q rfl (Qy.pick rfl rfl) ?_
  exact Wl.back 7 0 rfl rfl rfl rfl rfl
  intro hg1
  refine Wl.pass rfl rfl rfl ?_
  refine Wl.pass rfl rfl rfl ?_
  refine Wl.pass rfl rfl rfl ?_
  refine Wl.pass rfl rfl rfl ?_
  refine Wl.pass rfl rfl rfl ?_
  refine Wl.pass rfl rfl rfl ?_
  refine Wl.q rfl (Qy.pick rfl rfl) ?_
  exact Wl.back 7 0 rfl rfl rfl rfl rfl
  refine Wl.done ?_
  refine Ar.next ?_
  refine Wc.cond rfl (fun hc1 => ?_) (fun hc1 => ?_)
  refine Wc.skip ?_
  refine Ar.next ?_
  refine Wc.block ?_
  refine Wc.region rfl ?_
  refine Wl.q rfl (Qy.move rfl) ?_
  refine Wl.q rfl (Qy.sub rfl rfl (by omega)) ?_
  refine Wl.q rfl (Qy.assign rfl) ?_
  refine Wl.done ?_
  refine Ar.outNormal ?_
  rotate_left
  refine Wc.exit ?_
  refine Ar.passExit ?_
  refine Ar.passExit ?_
  refine Ar.here ?_
  refine Ar.next ?_
  refine Wc.seq ?_
  refine Wc.region rfl ?_
  refine Wl.q rfl (Qy.move rfl) ?_
  refine Wl.q rfl (Qy.move rfl) ?_
  refine Wl.casesB 21 rfl (fun hg1 => ?_) (fun hg1 => ?_)
  refine Wl.want rfl rfl ?_
  refine Wl.q rfl (Qy.move rfl) ?_
  refine Wl.want rfl rfl ?_
  refine Wl.q rfl (Qy.gtr rfl rfl) ?_
  refine Wl.q rfl (Qy.pick rfl rfl) ?_
  refine Wl.q rfl (Qy.move rfl) ?_
  refine Wl.q rfl (Qy.move rfl) ?_
  refine Wl.q rfl (Qy.cutH T.sl59 rfl rfl (by omega)) ?_
  refine Wl.q rfl (Qy.build (cs := [_, _]) T.st63 rfl rfl rfl) ?_
  refine Wl.storeAll 0 T.size63 rfl rfl rfl rfl rfl rfl ?_
  refine Wl.done ?_
  refine Ar.next ?_
  refine Wc.ret ?_
  refine Ar.out1 (.inr rfl) (Ho := Hp.only _ []) rfl (.agg 0 rfl rfl T.agg63) (Hp.sub_only _ _) ?_
  rotate_left
  refine Wl.pass rfl rfl rfl ?_
  refine Wl.pass rfl rfl rfl ?_
  refine Wl.q rfl (Qy.pick rfl rfl) ?_
  refine Wl.q rfl (Qy.move rfl) ?_
  refine Wl.q rfl (Qy.move rfl) ?_
  refine Wl.q rfl (Qy.cutH T.sl59 rfl rfl (by omega)) ?_
  refine Wl.q rfl (Qy.build (cs := [_, _]) T.st63 rfl rfl rfl) ?_
  refine Wl.storeAll 0 T.size63 rfl rfl rfl rfl rfl rfl ?_
  refine Wl.done ?_
  refine Ar.next ?_
  refine Wc.ret ?_
  refine Ar.out1 (.inr rfl) (Ho := Hp.only _ []) rfl (.agg 0 rfl rfl T.agg63) (Hp.sub_only _ _) ?_
  rotate_left
  · refine Ar.re 5 rfl (show _ = Value.int .i64 ((n - 1 : Nat) : Int) by congr 1; omega) ?_
    refine Ar.again (n - 1) ?_ ?_ rfl ⟨rfl, rfl, rfl, rfl, trivial⟩ ⟨rfl, trivial⟩
    · refine ⟨by omega, fun j h1 h2 => ?_⟩
      rcases Nat.lt_or_ge j n with h3 | h3
      · have e : j = (((n : Nat) : Int) - 1).toNat := by omega
        rw [e]; exact hc1.2
      · exact hz j h3 h2
    · omega
  · refine ⟨n, ?_, ⟨hn, hz, ?_⟩, rfl, rfl⟩
    · rw [hg1]
      have e : ((0 : Int) < (n : Int)) = (0 < n) := by rw [eq_iff_iff]; omega
      simp only [e, Bool.true_and, Int.toNat_natCast]
    · rcases Nat.eq_zero_or_pos n with h | h
      · exact .inl h
      · refine .inr fun h2 => hc1 ⟨by omega, ?_⟩
        have e : (((n : Nat) : Int) - 1).toNat = n - 1 := by omega
        rw [e]; exact h2
  · refine ⟨n, ?_, ⟨hn, hz, ?_⟩, rfl, rfl⟩
    · rw [hg1]
      simp only [Bool.false_and, Int.toNat_natCast]
    · rcases Nat.eq_zero_or_pos n with h | h
      · exact .inl h
      · refine .inr fun h2 => hc1 ⟨by omega, ?_⟩
        have e : (((n : Nat) : Int) - 1).toNat = n - 1 := by omega
        rw [e]; exact h2
theorem TrimTo.val {l : List U32} {n : Nat} (h : TrimTo l n) : valL (l.take n) = valL l := valL_trim h.2.1
theorem TrimTo.top {l : List U32} {n : Nat} (h : TrimTo l n) : Top (l.take n) := by
  obtain ⟨h1, h2, h3⟩ := h
  rcases h3 with h3 | h3
  · subst h3; exact .inl rfl
  · by_cases h0 : n = 0
    · subst h0; exact .inl rfl
    · refine .inr ?_
      rw [List.length_take, Nat.min_eq_left h1, List.getElem?_take, if_pos (by omega)]
      exact h3
theorem TrimTo.len {l : List U32} {n : Nat} (h : TrimTo l n) : (l.take n).length = n := by rw [List.length_take, Nat.min_eq_left h.1]
theorem TrimTo.isInt {l : List U32} {n : Nat} (h : TrimTo l n) (hd : Digs l) (neg : Bool) : IsInt (neg && decide (0 < n)) (l.take n) (if neg = true then -valL l else valL l) := by
  refine ⟨hd.take n, h.top, fun e => ?_, ?_⟩
  · have hl := h.len
    rw [e] at hl
    have : n = 0 := by simpa using hl.symm
    subst this; simp
  · have hv := h.val
    rw [← hv]
    cases neg with
    | false => simp
    | true =>
      by_cases h0 : n = 0
      · subst h0; simp [valL_nil]
      · have : 0 < n := by omega
        simp [this]
/-- a number that is struck of a row that stays -/
theorem TrimTo.num {G : Imm} {a : Option Addr} {c : Nat} {l : List U32} {n : Nat} (h : TrimTo l n) (hd : Digs l) (hl : Arr G a l) (hc : l.length ≤ c) (neg : Bool) : Num G ⟨neg && decide (0 < n), subA a c 0 1, n, c⟩ (if neg = true then -valL l else valL l) := by
  refine ⟨l.take n, h.len, Nat.le_trans h.1 hc, ?_, h.isInt hd neg⟩
  exact arr_sub hl n
end Go.Proofs.Ytbppmiimeccclaa
set_option maxRecDepth 100000
set_option linter.unusedVariables false
namespace Go.Proofs.Ytbppmiimeccclaa
open Go Go.Sl
set_option maxHeartbeats 4000000
theorem carry (P s : Int) : P * (s % 65536) + 65536 * P * (s / 65536) = P * s := by
  have h := Int.emod_add_mul_ediv s 65536
  have e : 65536 * P * (s / 65536) = P * (65536 * (s / 65536)) := by rw [Int.mul_comm 65536 P, Int.mul_assoc]
  rw [e, ← Int.mul_add, h]
/-- a digit, nought behind the end -/
def dg (l : List U32) (i : Nat) : Int := (l[((i : Nat) : Int).toNat]?.getD default).v
theorem dg_lt {l : List U32} (h : Digs l) {i : Nat} (hi : i < l.length) : 0 ≤ dg l i ∧ dg l i < 65536 := h.at (by omega)
theorem dg_end {l : List U32} {i : Nat} (hi : l.length ≤ i) : dg l i = 0 := by
  unfold dg; rw [Int.toNat_natCast, List.getElem?_eq_none hi]; rfl
theorem val_step (l : List U32) (i : Nat) : valL (l.take (i + 1)) = valL (l.take i) + pw i * dg l i := by
  rcases Nat.lt_or_ge i l.length with h | h
  · exact valL_take_succ h
  · rw [take_all h, take_all (by omega), dg_end h, Int.mul_zero, Int.add_zero]
theorem digs_snoc {r : List U32} (h : Digs r) (s : Int) : Digs (r ++ [⟨s % 65536⟩]) := h.append (Digs.one ⟨Int.emod_nonneg _ (by decide), Int.emod_lt_of_pos _ (by decide)⟩)
attribute [local irreducible] valL pw
end Go.Proofs.Ytbppmiimeccclaa
set_option maxRecDepth 100000
set_option linter.unusedVariables false
namespace Go.Proofs.Ytbppmiimeccclaa
open Go Go.Sl
set_option maxHeartbeats 4000000
theorem val_split (l : List U32) {m : Nat} (h : m ≤ l.length) : valL l = valL (l.take m) + pw m * valL (l.drop m) := by
  have e : valL l = valL (l.take m ++ l.drop m) := by rw [List.take_append_drop]
  rw [e, valL_append, List.length_take, Nat.min_eq_left h]
theorem u32_eq {x y : U32} (h : x.v = y.v) : x = y := by cases x; cases y; simp only at h; rw [h]
theorem drop_same {la lb : List U32} {k : Nat} (hn : la.length = lb.length) (h : ∀ j, k ≤ j → j < la.length → dg la j = dg lb j) : la.drop k = lb.drop k := by
  apply List.ext_getElem?
  intro j
  rw [List.getElem?_drop, List.getElem?_drop]
  rcases Nat.lt_or_ge (k + j) la.length with hj | hj
  · have := h (k + j) (by omega) hj
    unfold dg at this
    rw [Int.toNat_natCast, List.getElem?_eq_getElem hj, List.getElem?_eq_getElem (by omega)] at this
    rw [List.getElem?_eq_getElem hj, List.getElem?_eq_getElem (by omega)]; exact congrArg some (u32_eq this)
  · rw [List.getElem?_eq_none hj, List.getElem?_eq_none (by omega)]
theorem high_lt {la lb : List U32} {k : Nat} (hn : la.length = lb.length) (hk : k < la.length) (da : Digs la) (db : Digs lb) (h : ∀ j, k + 1 ≤ j → j < la.length → dg la j = dg lb j) (hlt : dg la k < dg lb k) : valL la < valL lb := by
  have e1 := val_split la (m := k + 1) (by omega)
  have e2 := val_split lb (m := k + 1) (by omega)
  rw [val_step, drop_same hn h] at e1
  rw [val_step] at e2
  have h1 := valL_lt (da.take k)
  have h2 := valL_nonneg (db.take k)
  rw [List.length_take, Nat.min_eq_left (by omega)] at h1
  have h3 := Int.mul_le_mul_of_nonneg_left (show dg la k + 1 ≤ dg lb k by omega) (Int.le_of_lt (pw_pos k))
  rw [Int.mul_add, Int.mul_one] at h3
  omega
attribute [local irreducible] valL pw cmpZ
theorem c156 (G : Imm) (a b : Option Addr) (ca cb : Nat) (la lb : List U32) (ha : Arr G a la) (hb : Arr G b lb) (da : Digs la) (db : Digs lb) (ta : Top la) (tb : Top lb) (h1 : la.length ≤ 1073741824) (h2 : lb.length ≤ 1073741824) :
    Does Try.prog 156 [.slice a la.length ca, .slice b lb.length cb] G [] (fun v G' Ho => v = .int .i64 (cmpZ (valL la) (valL lb)) ∧ G' = G ∧ Ho = []) := by
  refine Does.enter Try.func156 rfl Try.ntmps156 rfl (fun w => ?_)
  by_cases hn : la.length = lb.length
  · refine Wc.seq ?_
    refine Wc.region rfl ?_
    refine Wl.q rfl (Qy.assign rfl) ?_
    refine Wl.done ?_
    refine Ar.next ?_
    refine Wc.seq ?_
    refine Wc.seq ?_
    refine Wc.region rfl ?_
    refine Wl.q rfl (Qy.move rfl) ?_
    refine Wl.q rfl (Qy.len T.sl59 rfl) ?_
    refine Wl.q rfl (Qy.move rfl) ?_
    refine Wl.q rfl (Qy.len T.sl59 rfl) ?_
    refine Wl.q rfl (Qy.neq rfl rfl) ?_
    refine Wl.done ?_
    refine Ar.next ?_
    refine Wc.condN rfl (by first | assumption | omega) ?_
    refine Wc.skip ?_
    refine Ar.next ?_
    refine Wc.seq ?_
    refine Wc.seq ?_
    refine Wc.region rfl ?_
    refine Wl.q rfl (Qy.move rfl) ?_
    refine Wl.q rfl (Qy.len T.sl59 rfl) ?_
    refine Wl.q rfl (Qy.sub rfl rfl (by omega)) ?_
    refine Wl.q rfl (Qy.assign rfl) ?_
    refine Wl.done ?_
    refine Ar.next ?_
    refine Wc.block ?_
    refine Wc.loop (ι := Nat) (fun k => ([(5, .int .i64 ((k : Int) - 1)), (0, Go.Value.slice a (List.length la) ca), (1, Go.Value.slice b (List.length lb) cb)], [])) (fun k => k ≤ la.length ∧ ∀ j, k ≤ j → j < la.length → dg la j = dg lb j) (fun k => k) (la.length) (⟨Nat.le_refl _, fun j h1 h2 => absurd h2 (by omega)⟩) ⟨rfl, rfl, rfl, trivial⟩ trivial (fun k => fun (hk : k ≤ la.length ∧ ∀ j, k ≤ j → j < la.length → dg la j = dg lb j) => ?_)
    obtain ⟨hk1, hz⟩ := hk
    rcases Nat.eq_zero_or_pos k with rfl | hpos
    · refine Wc.seq ?_
      refine Wc.seq ?_
      refine Wc.region rfl ?_
      refine Wl.q rfl (Qy.move rfl) ?_
      refine Wl.q rfl (Qy.geq rfl rfl) ?_
      refine Wl.done ?_
      refine Ar.next ?_
      refine Wc.condN rfl (by first | assumption | omega) ?_
      refine Wc.exit ?_
      refine Ar.passExit ?_
      refine Ar.passExit ?_
      refine Ar.here ?_
      refine Ar.next ?_
      refine Wc.seq ?_
      refine Wc.region rfl ?_
      refine Wl.q rfl (Qy.assign rfl) ?_
      refine Wl.done ?_
      refine Ar.next ?_
      refine Wc.ret ?_
      refine Ar.out1 (.inr rfl) (Ho := Hp.only _ []) rfl (.tmp rfl) (Hp.sub_only _ _) ?_
      have e : la = lb := by
        have := drop_same (k := 0) hn hz
        simpa using this
      exact ⟨by rw [e, cmpZ_eq rfl], rfl, rfl⟩
    · have e1 : (la[(((k : Nat) : Int) - 1).toNat]?.getD default).v = dg la (k - 1) := by
        unfold dg; rw [show (((k : Nat) : Int) - 1).toNat = ((k - 1 : Nat) : Int).toNat by omega]
      have e2 : (lb[(((k : Nat) : Int) - 1).toNat]?.getD default).v = dg lb (k - 1) := by
        unfold dg; rw [show (((k : Nat) : Int) - 1).toNat = ((k - 1 : Nat) : Int).toNat by omega]
      have hz' : ∀ j, (k - 1) + 1 ≤ j → j < la.length → dg la j = dg lb j := fun j h1 h2 => hz j (by omega) h2
      refine Wc.seq ?_
      refine Wc.seq ?_
      refine Wc.region rfl ?_
      refine Wl.q rfl (Qy.move rfl) ?_
      refine Wl.q rfl (Qy.geq rfl rfl) ?_
      refine Wl.done ?_
      refine Ar.next ?_
      refine Wc.condP rfl (by first | assumption | omega) ?_
      refine Wc.skip ?_
      refine Ar.next ?_
      refine Wc.seq ?_
      refine Wc.block ?_
      refine Wc.seq ?_
      refine Wc.seq ?_
      refine Wc.draw [] [] T.mixed rfl ?_
      refine Gm.q 0 [] (by kernel_rfl) rfl rfl (Qy.move rfl) ?_
      refine Gm.q 1 [] (by kernel_rfl) rfl rfl (Qy.move rfl) ?_
      refine Gm.q 2 [] (by kernel_rfl) rfl rfl (Qy.at (α := U32) T.sl59 rfl rfl (by assumption) (by omega)) ?_
      refine Gm.q 3 [] (by kernel_rfl) rfl rfl (Qy.loadG T.one153 rfl (Arr.cell (by assumption) (by omega) 0 rfl rfl)) ?_
      refine Gm.q 4 [] (by kernel_rfl) rfl rfl (Qy.move rfl) ?_
      refine Gm.q 5 [] (by kernel_rfl) rfl rfl (Qy.move rfl) ?_
      refine Gm.q 6 [] (by kernel_rfl) rfl rfl (Qy.at (α := U32) T.sl59 rfl rfl (by assumption) (by omega)) ?_
      refine Gm.q 7 [] (by kernel_rfl) rfl rfl (Qy.loadG T.one153 rfl (Arr.cell (by assumption) (by omega) 0 rfl rfl)) ?_
      refine Gm.q 8 [] (by kernel_rfl) rfl rfl (Qy.lss rfl rfl) ?_
      refine Gm.doneA (by kernel_rfl) trivial (by first | exact Imm.le_refl _ | assumption) ?_
      refine Ar.next ?_
      refine Wc.cond rfl (fun hc1 => ?_) (fun hc1 => ?_)
      refine Wc.seq ?_
      refine Wc.region rfl ?_
      refine Wl.q rfl (Qy.assign rfl) ?_
      refine Wl.done ?_
      refine Ar.next ?_
      refine Wc.ret ?_
      refine Ar.passRet ?_
      refine Ar.outRet ?_
      refine Ar.passRet ?_
      refine Ar.passRet ?_
      refine Ar.outRet ?_
      refine Ar.passRet ?_
      refine Ar.out1 (.inr rfl) (Ho := Hp.only _ []) rfl (.tmp rfl) (Hp.sub_only _ _) ?_
      rotate_left
      refine Wc.skip ?_
      refine Ar.next ?_
      refine Wc.seq ?_
      refine Wc.draw [] [] T.mixed rfl ?_
      refine Gm.q 0 [] (by kernel_rfl) rfl rfl (Qy.move rfl) ?_
      refine Gm.q 1 [] (by kernel_rfl) rfl rfl (Qy.move rfl) ?_
      refine Gm.q 2 [] (by kernel_rfl) rfl rfl (Qy.at (α := U32) T.sl59 rfl rfl (by assumption) (by omega)) ?_
      refine Gm.q 3 [] (by kernel_rfl) rfl rfl (Qy.loadG T.one153 rfl (Arr.cell (by assumption) (by omega) 0 rfl rfl)) ?_
      refine Gm.q 4 [] (by kernel_rfl) rfl rfl (Qy.move rfl) ?_
      refine Gm.q 5 [] (by kernel_rfl) rfl rfl (Qy.move rfl) ?_
      refine Gm.q 6 [] (by kernel_rfl) rfl rfl (Qy.at (α := U32) T.sl59 rfl rfl (by assumption) (by omega)) ?_
      refine Gm.q 7 [] (by kernel_rfl) rfl rfl (Qy.loadG T.one153 rfl (Arr.cell (by assumption) (by omega) 0 rfl rfl)) ?_
      refine Gm.q 8 [] (by kernel_rfl) rfl rfl (Qy.gtr rfl rfl) ?_
      refine Gm.doneA (by kernel_rfl) trivial (by first | exact Imm.le_refl _ | assumption) ?_
      refine Ar.next ?_
      refine Wc.cond rfl (fun hc2 => ?_) (fun hc2 => ?_)
      refine Wc.seq ?_
      refine Wc.region rfl ?_
      refine Wl.q rfl (Qy.assign rfl) ?_
      refine Wl.done ?_
      refine Ar.next ?_
      refine Wc.ret ?_
      refine Ar.outRet ?_
      refine Ar.passRet ?_
      refine Ar.passRet ?_
      refine Ar.outRet ?_
      refine Ar.passRet ?_
      refine Ar.out1 (.inr rfl) (Ho := Hp.only _ []) rfl (.tmp rfl) (Hp.sub_only _ _) ?_
      rotate_left
      refine Wc.skip ?_
      refine Ar.outNormal ?_
      refine Ar.next ?_
      refine Wc.region rfl ?_
      refine Wl.q rfl (Qy.move rfl) ?_
      refine Wl.q rfl (Qy.sub rfl rfl (by omega)) ?_
      refine Wl.q rfl (Qy.assign rfl) ?_
      refine Wl.done ?_
      rotate_left
      · exact ⟨by rw [cmpZ_lt (high_lt hn (by omega) da db hz' (by omega))], rfl, rfl⟩
      · exact ⟨by rw [cmpZ_gt (high_lt hn.symm (by omega) db da (fun j h1 h2 => (hz' j h1 (by omega)).symm) (by omega))], rfl, rfl⟩
      · refine Ar.re 5 rfl (show _ = Value.int .i64 (((k - 1 : Nat) : Int) - 1) by congr 1; omega) ?_
        refine Ar.again (k - 1) ?_ ?_ rfl ⟨rfl, rfl, rfl, trivial⟩ trivial
        · refine ⟨by omega, fun j h1 h2 => ?_⟩
          rcases Nat.lt_or_ge j k with h3 | h3
          · have e : j = k - 1 := by omega
            rw [e]; omega
          · exact hz j h3 h2
        · omega
  · by_cases hlt : la.length < lb.length
    · refine Wc.seq ?_
      refine Wc.region rfl ?_
      refine Wl.q rfl (Qy.assign rfl) ?_
      refine Wl.done ?_
      refine Ar.next ?_
      refine Wc.seq ?_
      refine Wc.seq ?_
      refine Wc.region rfl ?_
      refine Wl.q rfl (Qy.move rfl) ?_
      refine Wl.q rfl (Qy.len T.sl59 rfl) ?_
      refine Wl.q rfl (Qy.move rfl) ?_
      refine Wl.q rfl (Qy.len T.sl59 rfl) ?_
      refine Wl.q rfl (Qy.neq rfl rfl) ?_
      refine Wl.done ?_
      refine Ar.next ?_
      refine Wc.condP rfl (by first | assumption | omega) ?_
      refine Wc.seq ?_
      refine Wc.seq ?_
      refine Wc.region rfl ?_
      refine Wl.q rfl (Qy.move rfl) ?_
      refine Wl.q rfl (Qy.len T.sl59 rfl) ?_
      refine Wl.q rfl (Qy.move rfl) ?_
      refine Wl.q rfl (Qy.len T.sl59 rfl) ?_
      refine Wl.q rfl (Qy.lss rfl rfl) ?_
      refine Wl.done ?_
      refine Ar.next ?_
      refine Wc.condP rfl (by first | assumption | omega) ?_
      refine Wc.seq ?_
      refine Wc.region rfl ?_
      refine Wl.q rfl (Qy.assign rfl) ?_
      refine Wl.done ?_
      refine Ar.next ?_
      refine Wc.ret ?_
      refine Ar.passRet ?_
      refine Ar.passRet ?_
      refine Ar.out1 (.inr rfl) (Ho := Hp.only _ []) rfl (.tmp rfl) (Hp.sub_only _ _) ?_
      exact ⟨by rw [cmpZ_lt (top_lt_len da db tb hlt)], rfl, rfl⟩
    · refine Wc.seq ?_
      refine Wc.region rfl ?_
      refine Wl.q rfl (Qy.assign rfl) ?_
      refine Wl.done ?_
      refine Ar.next ?_
      refine Wc.seq ?_
      refine Wc.seq ?_
      refine Wc.region rfl ?_
      refine Wl.q rfl (Qy.move rfl) ?_
      refine Wl.q rfl (Qy.len T.sl59 rfl) ?_
      refine Wl.q rfl (Qy.move rfl) ?_
      refine Wl.q rfl (Qy.len T.sl59 rfl) ?_
      refine Wl.q rfl (Qy.neq rfl rfl) ?_
      refine Wl.done ?_
      refine Ar.next ?_
      refine Wc.condP rfl (by first | assumption | omega) ?_
      refine Wc.seq ?_
      refine Wc.seq ?_
      refine Wc.region rfl ?_
      refine Wl.q rfl (Qy.move rfl) ?_
      refine Wl.q rfl (Qy.len T.sl59 rfl) ?_
      refine Wl.q rfl (Qy.move rfl) ?_
      refine Wl.q rfl (Qy.len T.sl59 rfl) ?_
      refine Wl.q rfl (Qy.lss rfl rfl) ?_
      refine Wl.done ?_
      refine Ar.next ?_
      refine Wc.condN rfl (by first | assumption | omega) ?_
      refine Wc.skip ?_
      refine Ar.next ?_
      refine Wc.seq ?_
      refine Wc.region rfl ?_
      refine Wl.q rfl (Qy.assign rfl) ?_
      refine Wl.done ?_
      refine Ar.next ?_
      refine Wc.ret ?_
      refine Ar.passRet ?_
      refine Ar.out1 (.inr rfl) (Ho := Hp.only _ []) rfl (.tmp rfl) (Hp.sub_only _ _) ?_
      exact ⟨by rw [cmpZ_gt (top_lt_len db da ta (by omega))], rfl, rfl⟩
theorem c155 (G : Imm) (neg : Bool) (a : Option Addr) (c : Nat) (l : List U32) (z : Int) (h : IsInt neg l z) (h1 : l.length ≤ 1073741824) :
    Does Try.prog 155 [.agg #[.bool neg, .slice a l.length c]] G [] (fun v G' Ho => v = .int .i64 (sgZ z) ∧ G' = G ∧ Ho = []) := by
  have hz := h.zero_iff
  have hn := h.neg_iff
  refine Does.enter Try.func155 rfl Try.ntmps155 rfl (fun w => ?_)
  by_cases h0 : l.length = 0
  · have hz0 := hz.1 h0
    refine Wc.seq ?_
    refine Wc.region rfl ?_
    refine Wl.box 0 rfl rfl rfl (fun b1 => ?_)
    refine Wl.q rfl (Qy.assign rfl) ?_
    refine Wl.done ?_
    refine Ar.next ?_
    refine Wc.seq ?_
    refine Wc.seq ?_
    refine Wc.region rfl ?_
    refine Wl.q rfl (Qy.fieldAddr T.fa63_1 rfl) ?_
    refine Wl.q rfl (Qy.load 0 T.one59 rfl rfl rfl) ?_
    refine Wl.q rfl (Qy.len T.sl59 rfl) ?_
    refine Wl.q rfl (Qy.eql rfl rfl) ?_
    refine Wl.done ?_
    refine Ar.next ?_
    refine Wc.condP rfl (by first | assumption | omega) ?_
    refine Wc.seq ?_
    refine Wc.region rfl ?_
    refine Wl.q rfl (Qy.assign rfl) ?_
    refine Wl.done ?_
    refine Ar.next ?_
    refine Wc.ret ?_
    refine Ar.passRet ?_
    refine Ar.out1 (.inr rfl) (Ho := Hp.only _ []) rfl (.tmp rfl) (Hp.sub_only _ _) ?_
    exact ⟨by rw [hz0]; rfl, rfl, rfl⟩
  · have hz0 : z ≠ 0 := fun e => h0 (hz.2 e)
    by_cases hs : z < 0
    · rw [hn, decide_eq_true hs]
      refine Wc.seq ?_
      refine Wc.region rfl ?_
      refine Wl.box 0 rfl rfl rfl (fun b1 => ?_)
      refine Wl.q rfl (Qy.assign rfl) ?_
      refine Wl.done ?_
      refine Ar.next ?_
      refine Wc.seq ?_
      refine Wc.seq ?_
      refine Wc.region rfl ?_
      refine Wl.q rfl (Qy.fieldAddr T.fa63_1 rfl) ?_
      refine Wl.q rfl (Qy.load 0 T.one59 rfl rfl rfl) ?_
      refine Wl.q rfl (Qy.len T.sl59 rfl) ?_
      refine Wl.q rfl (Qy.eql rfl rfl) ?_
      refine Wl.done ?_
      refine Ar.next ?_
      refine Wc.condN rfl (by first | assumption | omega) ?_
      refine Wc.skip ?_
      refine Ar.next ?_
      refine Wc.seq ?_
      refine Wc.seq ?_
      refine Wc.region rfl ?_
      refine Wl.q rfl (Qy.fieldAddr T.fa63_0 rfl) ?_
      refine Wl.q rfl (Qy.load 0 T.one4 rfl rfl rfl) ?_
      refine Wl.done ?_
      refine Ar.next ?_
      refine Wc.condT rfl ?_
      refine Wc.seq ?_
      refine Wc.region rfl ?_
      refine Wl.q rfl (Qy.assign rfl) ?_
      refine Wl.done ?_
      refine Ar.next ?_
      refine Wc.ret ?_
      refine Ar.passRet ?_
      refine Ar.out1 (.inr rfl) (Ho := Hp.only _ []) rfl (.tmp rfl) (Hp.sub_only _ _) ?_
      exact ⟨by unfold sgZ; rw [if_neg hz0, if_pos hs], rfl, rfl⟩
    · rw [hn, decide_eq_false hs]
      refine Wc.seq ?_
      refine Wc.region rfl ?_
      refine Wl.box 0 rfl rfl rfl (fun b1 => ?_)
      refine Wl.q rfl (Qy.assign rfl) ?_
      refine Wl.done ?_
      refine Ar.next ?_
      refine Wc.seq ?_
      refine Wc.seq ?_
      refine Wc.region rfl ?_
      refine Wl.q rfl (Qy.fieldAddr T.fa63_1 rfl) ?_
      refine Wl.q rfl (Qy.load 0 T.one59 rfl rfl rfl) ?_
      refine Wl.q rfl (Qy.len T.sl59 rfl) ?_
      refine Wl.q rfl (Qy.eql rfl rfl) ?_
      refine Wl.done ?_
      refine Ar.next ?_
      refine Wc.condN rfl (by first | assumption | omega) ?_
      refine Wc.skip ?_
      refine Ar.next ?_
      refine Wc.seq ?_
      refine Wc.seq ?_
      refine Wc.region rfl ?_
      refine Wl.q rfl (Qy.fieldAddr T.fa63_0 rfl) ?_
      refine Wl.q rfl (Qy.load 0 T.one4 rfl rfl rfl) ?_
      refine Wl.done ?_
      refine Ar.next ?_
      refine Wc.condF rfl ?_
      refine Wc.skip ?_
      refine Ar.next ?_
      refine Wc.seq ?_
      refine Wc.region rfl ?_
      refine Wl.q rfl (Qy.assign rfl) ?_
      refine Wl.done ?_
      refine Ar.next ?_
      refine Wc.ret ?_
      refine Ar.out1 (.inr rfl) (Ho := Hp.only _ []) rfl (.tmp rfl) (Hp.sub_only _ _) ?_
      exact ⟨by unfold sgZ; rw [if_neg hz0, if_neg hs], rfl, rfl⟩
theorem c118 (G : Imm) (n1 n2 : Bool) (a b : Option Addr) (ca cb : Nat) (la lb : List U32) (x y : Int) (ha : Arr G a la) (hb : Arr G b lb) (hx : IsInt n1 la x) (hy : IsInt n2 lb y) (h1 : la.length ≤ 1073741824) (h2 : lb.length ≤ 1073741824) :
    Does Try.prog 118 [.agg #[.bool n1, .slice a la.length ca], .agg #[.bool n2, .slice b lb.length cb]] G [] (fun v G' Ho => v = .int .i64 (cmpZ x y) ∧ G' = G ∧ Ho = []) := by
  have da := hx.digs
  have db := hy.digs
  have ta := hx.top
  have tb := hy.top
  have va := hx.abs
  have vb := hy.abs
  have cs : ∀ u v : Int, u < v → cmpZ u v = -1 := fun u v h => cmpZ_lt h
  have cg : ∀ u v : Int, v < u → cmpZ u v = 1 := fun u v h => cmpZ_gt h
  refine Does.enter Try.func118 rfl Try.ntmps118 rfl (fun w => ?_)
  have sx : (sgZ x = -1 ∧ x < 0) ∨ (sgZ x = 0 ∧ x = 0) ∨ (sgZ x = 1 ∧ 0 < x) := by
    rcases Int.lt_trichotomy x 0 with h | h | h
    · exact .inl ⟨sgZ_lt h, h⟩
    · exact .inr (.inl ⟨sgZ_eq h, h⟩)
    · exact .inr (.inr ⟨sgZ_gt h, h⟩)
  have sy : (sgZ y = -1 ∧ y < 0) ∨ (sgZ y = 0 ∧ y = 0) ∨ (sgZ y = 1 ∧ 0 < y) := by
    rcases Int.lt_trichotomy y 0 with h | h | h
    · exact .inl ⟨sgZ_lt h, h⟩
    · exact .inr (.inl ⟨sgZ_eq h, h⟩)
    · exact .inr (.inr ⟨sgZ_gt h, h⟩)
  refine Wc.seq ?_
  refine Wc.region rfl ?_
  refine Wl.box 0 rfl rfl rfl (fun b1 => ?_)
  refine Wl.box 1 rfl rfl rfl (fun b2 => ?_)
  refine Wl.q rfl (Qy.assign rfl) ?_
  refine Wl.done ?_
  refine Ar.next ?_
  refine Wc.seq ?_
  refine Wc.draw [0, 1] [] T.mixed rfl ?_
  refine Gm.q 0 [0] (by kernel_rfl) rfl rfl (Qy.loadAll 0 T.agg63 rfl rfl rfl) ?_
  refine Gm.q 2 [1] (by kernel_rfl) rfl rfl (Qy.loadAll 1 T.agg63 rfl rfl rfl) ?_
  refine Gm.one 1 ⟨rfl, rfl, trivial⟩ (by first | exact Imm.le_refl _ | assumption) (by kernel_rfl) rfl ?_
  refine Wl.call0 rfl T.fn155 rfl (c155 _ _ _ _ _ _ (by assumption) (by assumption)) ?_
  refine Wl.on0 ?_
  refine Gm.one 3 ⟨rfl, rfl, trivial⟩ (by first | exact Imm.le_refl _ | assumption) (by kernel_rfl) rfl ?_
  refine Wl.call0 rfl T.fn155 rfl (c155 _ _ _ _ _ _ (by assumption) (by assumption)) ?_
  refine Wl.on0 ?_
  refine Gm.q 4 [] (by kernel_rfl) rfl rfl (Qy.assign rfl) ?_
  refine Gm.q 5 [] (by kernel_rfl) rfl rfl (Qy.assign rfl) ?_
  refine Gm.doneA (by kernel_rfl) ⟨rfl, rfl, trivial⟩ (by first | exact Imm.le_refl _ | assumption) ?_
  refine Ar.next ?_
  refine Wc.seq ?_
  refine Wc.seq ?_
  refine Wc.region rfl ?_
  refine Wl.q rfl (Qy.move rfl) ?_
  refine Wl.q rfl (Qy.move rfl) ?_
  refine Wl.q rfl (Qy.neq rfl rfl) ?_
  refine Wl.done ?_
  refine Ar.next ?_
  refine Wc.cond rfl (fun hc1 => ?_) (fun hc1 => ?_)
  refine Wc.seq ?_
  refine Wc.seq ?_
  refine Wc.region rfl ?_
  refine Wl.q rfl (Qy.move rfl) ?_
  refine Wl.q rfl (Qy.move rfl) ?_
  refine Wl.q rfl (Qy.lss rfl rfl) ?_
  refine Wl.done ?_
  refine Ar.next ?_
  refine Wc.cond rfl (fun hc2 => ?_) (fun hc2 => ?_)
  refine Wc.seq ?_
  refine Wc.region rfl ?_
  refine Wl.q rfl (Qy.assign rfl) ?_
  refine Wl.done ?_
  refine Ar.next ?_
  refine Wc.ret ?_
  refine Ar.passRet ?_
  refine Ar.passRet ?_
  refine Ar.out1 (.inr rfl) (Ho := Hp.only _ []) rfl (.tmp rfl) (Hp.sub_only _ _) ?_
  rotate_left
  refine Wc.skip ?_
  refine Ar.next ?_
  refine Wc.seq ?_
  refine Wc.region rfl ?_
  refine Wl.q rfl (Qy.assign rfl) ?_
  refine Wl.done ?_
  refine Ar.next ?_
  refine Wc.ret ?_
  refine Ar.passRet ?_
  refine Ar.out1 (.inr rfl) (Ho := Hp.only _ []) rfl (.tmp rfl) (Hp.sub_only _ _) ?_
  rotate_left
  refine Wc.skip ?_
  refine Ar.next ?_
  refine Wc.seq ?_
  refine Wc.seq ?_
  refine Wc.region rfl ?_
  refine Wl.q rfl (Qy.move rfl) ?_
  refine Wl.q rfl (Qy.lss rfl rfl) ?_
  refine Wl.done ?_
  refine Ar.next ?_
  refine Wc.cond rfl (fun hc2 => ?_) (fun hc2 => ?_)
  refine Wc.seq ?_
  refine Wc.region rfl ?_
  refine Wl.q rfl (Qy.fieldAddr T.fa63_1 rfl) ?_
  refine Wl.q rfl (Qy.load 1 T.one59 rfl rfl rfl) ?_
  refine Wl.q rfl (Qy.fieldAddr T.fa63_1 rfl) ?_
  refine Wl.q rfl (Qy.load 0 T.one59 rfl rfl rfl) ?_
  refine Wl.call0 rfl T.fn156 rfl (c156 _ _ _ _ _ _ _ (by assumption) (by assumption) (by assumption) (by assumption) (by assumption) (by assumption) (by assumption) (by assumption)) ?_
  refine Wl.q rfl (Qy.assign rfl) ?_
  refine Wl.done ?_
  refine Ar.next ?_
  refine Wc.ret ?_
  refine Ar.passRet ?_
  refine Ar.out1 (.inr rfl) (Ho := Hp.only _ []) rfl (.tmp rfl) (Hp.sub_only _ _) ?_
  rotate_left
  refine Wc.skip ?_
  refine Ar.next ?_
  refine Wc.seq ?_
  refine Wc.region rfl ?_
  refine Wl.q rfl (Qy.fieldAddr T.fa63_1 rfl) ?_
  refine Wl.q rfl (Qy.load 0 T.one59 rfl rfl rfl) ?_
  refine Wl.q rfl (Qy.fieldAddr T.fa63_1 rfl) ?_
  refine Wl.q rfl (Qy.load 1 T.one59 rfl rfl rfl) ?_
  refine Wl.call0 rfl T.fn156 rfl (c156 _ _ _ _ _ _ _ (by assumption) (by assumption) (by assumption) (by assumption) (by assumption) (by assumption) (by assumption) (by assumption)) ?_
  refine Wl.q rfl (Qy.assign rfl) ?_
  refine Wl.done ?_
  refine Ar.next ?_
  refine Wc.ret ?_
  refine Ar.out1 (.inr rfl) (Ho := Hp.only _ []) rfl (.tmp rfl) (Hp.sub_only _ _) ?_
  rotate_left
  · exact ⟨by rw [cs x y (by omega)], rfl, rfl⟩
  · exact ⟨by rw [cg x y (by omega)], rfl, rfl⟩
  · exact ⟨by rw [cmpZ_congr (x := valL lb) (y := valL la) (u := x) (v := y) (by omega) (by omega)], rfl, rfl⟩
  · exact ⟨by rw [cmpZ_congr (x := valL la) (y := valL lb) (u := x) (v := y) (by omega) (by omega)], rfl, rfl⟩
end Go.Proofs.Ytbppmiimeccclaa
set_option maxRecDepth 100000
set_option linter.unusedVariables false
namespace Go.Proofs.Ytbppmiimeccclaa
open Go Go.Sl
set_option maxHeartbeats 4000000
attribute [local irreducible] valL pw cmpZ
theorem pw_lt_iff {a b : Nat} (h : pw a < pw b) : a < b := by
  rcases Nat.lt_or_ge a b with h1 | h1
  · exact h1
  · have := pw_le h1; omega
theorem of_next {r : List U32} {u m : Int} (h : valL r + pw r.length * u = m) : valL (r ++ [(⟨u % 65536⟩ : U32)]) + pw (r ++ [(⟨u % 65536⟩ : U32)]).length * (u / 65536) = m := by
  rw [valL_snoc, List.length_append, List.length_singleton, pw_succ]
  have := carry (pw r.length) u
  show valL r + pw r.length * (u % 65536) + 65536 * pw r.length * (u / 65536) = m
  omega
theorem of_len {r : List U32} {u m : Int} (h : valL r + pw r.length * u = m) (hd : Digs r) (hu : 0 < u) (hm : m ≤ 9223372036854775808) : r.length < 4 := by
  have h1 := valL_nonneg hd
  have h2 := Int.mul_le_mul_of_nonneg_left (show (1 : Int) ≤ u by omega) (Int.le_of_lt (pw_pos r.length))
  refine pw_lt_iff ?_
  have h3 : pw 4 = 18446744073709551616 := by unfold pw; decide
  omega
theorem c85 (G : Imm) (n : Int) (hn : -9223372036854775808 ≤ n ∧ n ≤ 9223372036854775807) :
    Does Try.prog 85 [.int .i64 n] G [] (fun v G' Ho => ∃ r : IV, v = .agg #[.bool r.neg, .slice r.a r.n r.c] ∧ Num G' r n ∧ Ho = []) := by
  refine Does.enter Try.func85 rfl Try.ntmps85 rfl (fun w => ?_)
  refine Wc.nilRow 0 (Row 153 ([] : List U32) []) ?_
  by_cases hneg : n < 0
  · refine Wc.seq ?_
    refine Wc.region rfl ?_
    refine Wl.alloc 1 rfl T.zero63 (fun b1 => ?_)
    refine Wl.done ?_
    refine Ar.next ?_
    refine Wc.seq ?_
    refine Wc.region rfl ?_
    refine Wl.q rfl (Qy.move rfl) ?_
    refine Wl.q rfl (Qy.conv rfl T.u151 rfl) ?_
    refine Wl.q rfl (Qy.assign rfl) ?_
    refine Wl.done ?_
    refine Ar.next ?_
    refine Wc.seq ?_
    refine Wc.seq ?_
    refine Wc.region rfl ?_
    refine Wl.q rfl (Qy.move rfl) ?_
    refine Wl.q rfl (Qy.lss rfl rfl) ?_
    refine Wl.done ?_
    refine Ar.next ?_
    refine Wc.condP rfl (by first | assumption | omega) ?_
    refine Wc.region rfl ?_
    refine Wl.q rfl (Qy.move rfl) ?_
    refine Wl.q rfl (Qy.negW rfl) ?_
    refine Wl.q rfl (Qy.assign rfl) ?_
    refine Wl.done ?_
    refine Ar.next ?_
    refine Wc.seq ?_
    refine Wc.region rfl ?_
    refine Wl.q rfl (Qy.assign rfl) ?_
    refine Wl.done ?_
    refine Ar.next ?_
    refine Wc.seq ?_
    refine Wc.block ?_
    refine Wc.re 3 rfl (show _ = Value.int .u64 (-n) by rw [wrap_neg ⟨hn.1, hneg⟩]) ?_
    refine Wc.loop (ι := Int × List U32 × (Option Addr × Nat × List Value)) (fun (u, r, (o, d, j)) => ([(3, .int .u64 u), (4, .slice o r.length d), (2, Go.Value.pointer (Option.some (Go.Addr.mk b1 0 Option.none))), (0, Go.Value.int Go.IntKind.i64 n)], [(0, o.map (·.block), Row 153 r j), (1, Option.some b1, Go.Obj.cells #[Go.Value.bool Bool.false, Go.Value.slice Option.none 0 0] 63)])) (fun (u, r, (o, d, j)) => 0 ≤ u ∧ u ≤ 9223372036854775808 ∧ Digs r ∧ valL r + pw r.length * u = n.natAbs ∧ r.length ≤ 4 ∧ OwnA o d r j) (fun (u, r, (o, d, j)) => u.toNat) ((-n, [], (none, 0, []))) (⟨by omega, by omega, Digs.nil, by rw [valL_nil, List.length_nil, pw_zero]; omega, by decide, OwnA.nil⟩) ⟨rfl, rfl, rfl, rfl, trivial⟩ ⟨rfl, rfl, trivial⟩ (fun ⟨u, r, (o, d, j)⟩ => fun (hk : 0 ≤ u ∧ u ≤ 9223372036854775808 ∧ Digs r ∧ valL r + pw r.length * u = n.natAbs ∧ r.length ≤ 4 ∧ OwnA o d r j) => ?_)
    obtain ⟨hu0, hu1, hdr, hv, hrl, hob⟩ := hk
    by_cases hu : 0 < u
    · have hl4 := of_len hv hdr hu (by omega)
      refine Wc.seq ?_
      refine Wc.seq ?_
      refine Wc.region rfl ?_
      refine Wl.q rfl (Qy.move rfl) ?_
      refine Wl.q rfl (Qy.gtr rfl rfl) ?_
      refine Wl.done ?_
      refine Ar.next ?_
      refine Wc.condP rfl (by first | assumption | omega) ?_
      refine Wc.skip ?_
      refine Ar.next ?_
      refine Wc.block ?_
      refine Wc.seq ?_
      refine Wc.region rfl ?_
      refine Wl.q rfl (Qy.move rfl) ?_
      refine Wl.q rfl (Qy.move rfl) ?_
      refine Wl.q rfl (Qy.urem rfl rfl (by omega)) ?_
      refine Wl.q rfl (Qy.conv32 rfl T.u153 rfl (by omega)) ?_
      refine Wl.lit (α := U32) 2 [⟨u % 65536⟩] rfl T.sl59 T.el153 rfl rfl rfl rfl rfl (fun b2 => ?_)
      refine Wl.append (α := U32) 0 rfl T.sl59 T.el153 rfl rfl rfl (by first | assumption | exact OwnA.nil | exact OwnA.made (by simp)) (Src.row 2 rfl) (by first | omega | (simp only [List.length_append, List.length_cons, List.length_nil, maxLen]; omega)) (by first | omega | (simp only [List.length_append, List.length_cons, List.length_nil, maxLen]; omega)) (fun a1 c1 junk1 ho1 => ?_)
      refine Wl.q rfl (Qy.assign rfl) ?_
      refine Wl.done ?_
      refine Ar.next ?_
      refine Wc.region rfl ?_
      refine Wl.q rfl (Qy.move rfl) ?_
      refine Wl.q rfl (Qy.uquo64 rfl rfl (by omega)) ?_
      refine Wl.q rfl (Qy.assign rfl) ?_
      refine Wl.done ?_
      refine Ar.outNormal ?_
      refine Ar.again ((u / 65536, _, (a1, c1, junk1))) ?_ ?_ rfl ⟨rfl, rfl, rfl, rfl, trivial⟩ ⟨rfl, rfl, trivial⟩
      · exact ⟨by omega, by omega, digs_snoc hdr _, of_next hv, by rw [List.length_append]; show r.length + 1 ≤ 4; omega, ho1⟩
      · show (u / 65536).toNat < u.toNat
        omega
    · have hu : u = 0 := by omega
      subst hu
      rw [Int.mul_zero, Int.add_zero] at hv
      refine Wc.seq ?_
      refine Wc.seq ?_
      refine Wc.region rfl ?_
      refine Wl.q rfl (Qy.move rfl) ?_
      refine Wl.q rfl (Qy.gtr rfl rfl) ?_
      refine Wl.done ?_
      refine Ar.next ?_
      refine Wc.condN rfl (by first | assumption | omega) ?_
      refine Wc.exit ?_
      refine Ar.passExit ?_
      refine Ar.passExit ?_
      refine Ar.here ?_
      refine Ar.next ?_
      refine Wc.seq ?_
      refine Wc.region rfl ?_
      refine Wl.q rfl (Qy.move rfl) ?_
      refine Wl.q rfl (Qy.lss rfl rfl) ?_
      refine Wl.q rfl (Qy.move rfl) ?_
      have hcap := hob.le
      refine Wl.freezeRow 0 rfl hob (fun G1 hle1 hA => ?_)
      refine Wl.call 2 rfl T.fn119 rfl (c119 _ _ _ _ _ (by assumption) (by omega) (by assumption)) (tags_of trivial) (fun v2 G2 Ho2 hle2 hp => ?_)
      obtain ⟨tn2, rfl, htr2, rfl, rfl⟩ := hp
      refine Wl.storeAll 1 T.size63 rfl rfl rfl rfl rfl rfl ?_
      refine Wl.done ?_
      refine Ar.next ?_
      refine Wc.ret ?_
      refine Ar.out1 (.inr rfl) (Ho := Hp.only _ []) rfl (.agg 1 rfl rfl T.agg63) (Hp.sub_only _ _) ?_
      refine ⟨⟨decide (n < 0) && decide (0 < tn2), subA o d 0 1, tn2, d⟩, rfl, ?_, rfl⟩
      have e := htr2.num hdr hA hcap (decide (n < 0))
      have e2 : (if decide (n < 0) = true then -valL r else valL r) = n := by
        rw [hv]; by_cases h : n < 0
        · rw [if_pos (by simpa using h)]; omega
        · rw [if_neg (by simpa using h)]; omega
      rw [e2] at e; exact e
  · refine Wc.seq ?_
    refine Wc.region rfl ?_
    refine Wl.alloc 1 rfl T.zero63 (fun b1 => ?_)
    refine Wl.done ?_
    refine Ar.next ?_
    refine Wc.seq ?_
    refine Wc.region rfl ?_
    refine Wl.q rfl (Qy.move rfl) ?_
    refine Wl.q rfl (Qy.conv64 rfl T.u151 rfl (by omega)) ?_
    refine Wl.q rfl (Qy.assign rfl) ?_
    refine Wl.done ?_
    refine Ar.next ?_
    refine Wc.seq ?_
    refine Wc.seq ?_
    refine Wc.region rfl ?_
    refine Wl.q rfl (Qy.move rfl) ?_
    refine Wl.q rfl (Qy.lss rfl rfl) ?_
    refine Wl.done ?_
    refine Ar.next ?_
    refine Wc.condN rfl (by first | assumption | omega) ?_
    refine Wc.skip ?_
    refine Ar.next ?_
    refine Wc.seq ?_
    refine Wc.region rfl ?_
    refine Wl.q rfl (Qy.assign rfl) ?_
    refine Wl.done ?_
    refine Ar.next ?_
    refine Wc.seq ?_
    refine Wc.block ?_
    refine Wc.loop (ι := Int × List U32 × (Option Addr × Nat × List Value)) (fun (u, r, (o, d, j)) => ([(3, .int .u64 u), (4, .slice o r.length d), (2, Go.Value.pointer (Option.some (Go.Addr.mk b1 0 Option.none))), (0, Go.Value.int Go.IntKind.i64 n)], [(0, o.map (·.block), Row 153 r j), (1, Option.some b1, Go.Obj.cells #[Go.Value.bool Bool.false, Go.Value.slice Option.none 0 0] 63)])) (fun (u, r, (o, d, j)) => 0 ≤ u ∧ u ≤ 9223372036854775808 ∧ Digs r ∧ valL r + pw r.length * u = n.natAbs ∧ r.length ≤ 4 ∧ OwnA o d r j) (fun (u, r, (o, d, j)) => u.toNat) ((n, [], (none, 0, []))) (⟨by omega, by omega, Digs.nil, by rw [valL_nil, List.length_nil, pw_zero]; omega, by decide, OwnA.nil⟩) ⟨rfl, rfl, rfl, rfl, trivial⟩ ⟨rfl, rfl, trivial⟩ (fun ⟨u, r, (o, d, j)⟩ => fun (hk : 0 ≤ u ∧ u ≤ 9223372036854775808 ∧ Digs r ∧ valL r + pw r.length * u = n.natAbs ∧ r.length ≤ 4 ∧ OwnA o d r j) => ?_)
    obtain ⟨hu0, hu1, hdr, hv, hrl, hob⟩ := hk
    by_cases hu : 0 < u
    · have hl4 := of_len hv hdr hu (by omega)
      refine Wc.seq ?_
      refine Wc.seq ?_
      refine Wc.region rfl ?_
      refine Wl.q rfl (Qy.move rfl) ?_
      refine Wl.q rfl (Qy.gtr rfl rfl) ?_
      refine Wl.done ?_
      refine Ar.next ?_
      refine Wc.condP rfl (by first | assumption | omega) ?_
      refine Wc.skip ?_
      refine Ar.next ?_
      refine Wc.block ?_
      refine Wc.seq ?_
      refine Wc.region rfl ?_
      refine Wl.q rfl (Qy.move rfl) ?_
      refine Wl.q rfl (Qy.move rfl) ?_
      refine Wl.q rfl (Qy.urem rfl rfl (by omega)) ?_
      refine Wl.q rfl (Qy.conv32 rfl T.u153 rfl (by omega)) ?_
      refine Wl.lit (α := U32) 2 [⟨u % 65536⟩] rfl T.sl59 T.el153 rfl rfl rfl rfl rfl (fun b2 => ?_)
      refine Wl.append (α := U32) 0 rfl T.sl59 T.el153 rfl rfl rfl (by first | assumption | exact OwnA.nil | exact OwnA.made (by simp)) (Src.row 2 rfl) (by first | omega | (simp only [List.length_append, List.length_cons, List.length_nil, maxLen]; omega)) (by first | omega | (simp only [List.length_append, List.length_cons, List.length_nil, maxLen]; omega)) (fun a1 c1 junk1 ho1 => ?_)
      refine Wl.q rfl (Qy.assign rfl) ?_
      refine Wl.done ?_
      refine Ar.next ?_
      refine Wc.region rfl ?_
      refine Wl.q rfl (Qy.move rfl) ?_
      refine Wl.q rfl (Qy.uquo64 rfl rfl (by omega)) ?_
      refine Wl.q rfl (Qy.assign rfl) ?_
      refine Wl.done ?_
      refine Ar.outNormal ?_
      refine Ar.again ((u / 65536, _, (a1, c1, junk1))) ?_ ?_ rfl ⟨rfl, rfl, rfl, rfl, trivial⟩ ⟨rfl, rfl, trivial⟩
      · exact ⟨by omega, by omega, digs_snoc hdr _, of_next hv, by rw [List.length_append]; show r.length + 1 ≤ 4; omega, ho1⟩
      · show (u / 65536).toNat < u.toNat
        omega
    · have hu : u = 0 := by omega
      subst hu
      rw [Int.mul_zero, Int.add_zero] at hv
      refine Wc.seq ?_
      refine Wc.seq ?_
      refine Wc.region rfl ?_
      refine Wl.q rfl (Qy.move rfl) ?_
      refine Wl.q rfl (Qy.gtr rfl rfl) ?_
      refine Wl.done ?_
      refine Ar.next ?_
      refine Wc.condN rfl (by first | assumption | omega) ?_
      refine Wc.exit ?_
      refine Ar.passExit ?_
      refine Ar.passExit ?_
      refine Ar.here ?_
      refine Ar.next ?_
      refine Wc.seq ?_
      refine Wc.region rfl ?_
      refine Wl.q rfl (Qy.move rfl) ?_
      refine Wl.q rfl (Qy.lss rfl rfl) ?_
      refine Wl.q rfl (Qy.move rfl) ?_
      have hcap := hob.le
      refine Wl.freezeRow 0 rfl hob (fun G1 hle1 hA => ?_)
      refine Wl.call 2 rfl T.fn119 rfl (c119 _ _ _ _ _ (by assumption) (by omega) (by assumption)) (tags_of trivial) (fun v2 G2 Ho2 hle2 hp => ?_)
      obtain ⟨tn2, rfl, htr2, rfl, rfl⟩ := hp
      refine Wl.storeAll 1 T.size63 rfl rfl rfl rfl rfl rfl ?_
      refine Wl.done ?_
      refine Ar.next ?_
      refine Wc.ret ?_
      refine Ar.out1 (.inr rfl) (Ho := Hp.only _ []) rfl (.agg 1 rfl rfl T.agg63) (Hp.sub_only _ _) ?_
      refine ⟨⟨decide (n < 0) && decide (0 < tn2), subA o d 0 1, tn2, d⟩, rfl, ?_, rfl⟩
      have e := htr2.num hdr hA hcap (decide (n < 0))
      have e2 : (if decide (n < 0) = true then -valL r else valL r) = n := by
        rw [hv]; by_cases h : n < 0
        · rw [if_pos (by simpa using h)]; omega
        · rw [if_neg (by simpa using h)]; omega
      rw [e2] at e; exact e
end Go.Proofs.Ytbppmiimeccclaa
