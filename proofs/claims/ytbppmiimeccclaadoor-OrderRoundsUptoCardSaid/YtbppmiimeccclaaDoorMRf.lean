/- Parts of the proof (part 6): what the rows' text needs of the texts that lead to it. -/
import Derived.Test.YtbppmiimeccclaaDoorMRe
set_option linter.unusedVariables false
namespace Go.Proofs.YtbppmiimeccclaaDoor
open Go Go.Sl
def runZ : List Sl.Instr → List Int → Option (List Int)
 | [], rs => some rs
 | i :: l, rs => (doZ i rs).bind fun x => runZ l (rs.set i.to.toNat x)
theorem runZ_snoc (l : List Sl.Instr) (i : Sl.Instr) (rs : List Int) : runZ (l ++ [i]) rs = (runZ l rs).bind fun r => (doZ i r).map fun x => r.set i.to.toNat x := by
 induction l generalizing rs with
 | nil =>
   show (doZ i rs).bind (fun x => some (rs.set i.to.toNat x)) = (doZ i rs).map _
   cases doZ i rs <;> rfl
 | cons j l ih =>
   show (doZ j rs).bind (fun x => runZ (l ++ [i]) (rs.set j.to.toNat x)) = ((doZ j rs).bind fun x => runZ l (rs.set j.to.toNat x)).bind _
   cases doZ j rs with
   | none => rfl
   | some x => exact ih _
theorem stepsZ_runZ (p : PV) (zs : List Int) : ∀ k, k ≤ p.code.length → stepsZ p zs k = runZ (p.code.take k) zs
 | 0, _ => by rw [List.take_zero]; rfl
 | k + 1, hk => by
   have htk : p.code.take (k + 1) = p.code.take k ++ [p.code[((k : Nat) : Int).toNat]?.getD default] := by
    rw [List.take_add_one, Int.toNat_natCast, List.getElem?_eq_getElem (by omega)]; rfl
   rw [htk, runZ_snoc, ← stepsZ_runZ p zs k (by omega)]
   rfl
theorem get_set (r : List Int) (n k : Nat) (x : Int) : (r.set n x)[k]?.getD 0 = if n = k ∧ k < r.length then x else r[k]?.getD 0 := by
 rw [List.getElem?_set]
 by_cases h : n = k
 · subst h
   by_cases h2 : n < r.length
   · rw [if_pos rfl, if_pos h2, if_pos ⟨rfl, h2⟩]; rfl
   · rw [if_pos rfl, if_neg h2, if_neg (fun h => h2 h.2), List.getElem?_eq_none (by omega)]
 · rw [if_neg h, if_neg (fun h2 => h h2.1)]
def ucst (op c : Int) : Int := if op = 5 ∨ op = 6 then c else p2 c.toNat
def uZ (op c x : Int) : Option Int :=
 if op = 2 then some (-x) else if op = 5 ∨ op = 7 then some (x * ucst op c) else if op = 6 ∨ op = 8 then (if x % ucst op c = 0 then some (x / ucst op c) else none) else some x
def uR (op c x q : Int) : Prop := if op = 2 then q = -x else if op = 5 ∨ op = 7 then q = x * ucst op c else if op = 6 ∨ op = 8 then q * ucst op c = x else q = x
theorem uR1 (c x q : Int) : uR 1 c x q ↔ q = x := by unfold uR; simp
theorem uR2 (c x q : Int) : uR 2 c x q ↔ q = -x := by unfold uR; simp
theorem uR5 (c x q : Int) : uR 5 c x q ↔ q = x * c := by unfold uR ucst; simp
theorem uR6 (c x q : Int) : uR 6 c x q ↔ q * c = x := by unfold uR ucst; simp
theorem uR7 (c x q : Int) : uR 7 c x q ↔ q = x * p2 c.toNat := by unfold uR ucst; simp
theorem uR8 (c x q : Int) : uR 8 c x q ↔ q * p2 c.toNat = x := by unfold uR ucst; simp
theorem ex_iff {x y q : Int} (hy : y ≠ 0) : (if x % y = 0 then some (x / y) else none) = some q ↔ q * y = x := by
 by_cases h : x % y = 0
 · rw [if_pos h, Option.some.injEq]
   have e := Int.ediv_mul_cancel (Int.dvd_of_emod_eq_zero h)
   constructor
   · rintro rfl; exact e
   · intro h2
     rw [← h2, Int.mul_ediv_cancel _ hy]
 · rw [if_neg h]
   constructor
   · intro h2; cases h2
   · intro h2
     exact absurd (by rw [← h2]; exact Int.mul_emod_left q y) h
theorem uZ_iff {op c x q : Int} (h : op = 6 ∨ op = 8 → ucst op c ≠ 0) : uZ op c x = some q ↔ uR op c x q := by
 unfold uZ uR
 by_cases h2 : op = 2
 · rw [if_pos h2, if_pos h2, Option.some.injEq]; exact eq_comm
 · rw [if_neg h2, if_neg h2]
   by_cases h5 : op = 5 ∨ op = 7
   · rw [if_pos h5, if_pos h5, Option.some.injEq]; exact eq_comm
   · rw [if_neg h5, if_neg h5]
     by_cases h6 : op = 6 ∨ op = 8
     · rw [if_pos h6, if_pos h6]; exact ex_iff (h h6)
     · rw [if_neg h6, if_neg h6, Option.some.injEq]; exact eq_comm
theorem const_ucst {op c : Int} (h : constOk op c = true) : op = 6 ∨ op = 8 → ucst op c ≠ 0 := by
 intro ho
 unfold ucst
 split
 · rename_i h5
   exact const_zero h h5
 · have := p2_pos c.toNat; omega
theorem p2_toNat {c d : Int} (hc : 0 ≤ c) (hd : 0 ≤ d) : p2 (c + d).toNat = p2 c.toNat * p2 d.toNat := by
 rw [Int.toNat_add hc hd, p2_add]
theorem mul_right_cancel' {a b c : Int} (hc : c ≠ 0) (h : a * c = b * c) : a = b := Int.eq_of_mul_eq_mul_right hc h
theorem tog_sem {f c s d o e : Int} (h : togP f c s d = (o, e, true)) (hc : constOk f c = true) (hd : constOk s d = true) (x q : Int) : (∃ y, uR f c x y ∧ uR s d y q) ↔ uR o e x q := by
 unfold togP at h
 by_cases f1 : f = 1
 · subst f1
   rw [if_pos rfl] at h
   cases h
   simp only [uR1]
   exact ⟨fun ⟨y, h1, h2⟩ => h1 ▸ h2, fun h2 => ⟨x, rfl, h2⟩⟩
 rw [if_neg f1] at h
 by_cases f2 : f = 2
 · subst f2
   rw [if_pos rfl] at h
   simp only [uR2]
   by_cases s1 : s = 1
   · subst s1
     rw [if_pos rfl] at h; cases h
     simp only [uR1, uR2]
     exact ⟨fun ⟨y, h1, h2⟩ => by rw [h2, h1], fun h2 => ⟨_, rfl, h2⟩⟩
   rw [if_neg s1] at h
   by_cases s2 : s = 2
   · subst s2
     rw [if_pos rfl] at h; cases h
     simp only [uR1, uR2]
     exact ⟨fun ⟨y, h1, h2⟩ => by omega, fun h2 => ⟨_, rfl, by omega⟩⟩
   rw [if_neg s2] at h
   by_cases s5 : s = 5 ∨ s = 6
   · rw [if_pos s5] at h
     rcases s5 with rfl | rfl
     · cases h
       simp only [uR5]
       exact ⟨fun ⟨y, h1, h2⟩ => by rw [h2, h1, Int.neg_mul, Int.mul_neg], fun h2 => ⟨_, rfl, by rw [h2, Int.neg_mul, Int.mul_neg]⟩⟩
     · cases h
       simp only [uR6]
       exact ⟨fun ⟨y, h1, h2⟩ => by rw [Int.mul_neg, h2, h1, Int.neg_neg], fun h2 => ⟨_, rfl, by rw [← h2, Int.mul_neg, Int.neg_neg]⟩⟩
   · rw [if_neg s5] at h; cases h
 rw [if_neg f2] at h
 by_cases f5 : f = 5
 · subst f5
   rw [if_pos rfl] at h
   have hc0 := const_zero hc (.inl rfl)
   simp only [uR5]
   by_cases s2 : s = 2
   · subst s2
     rw [if_pos rfl] at h; cases h
     simp only [uR2, uR5]
     exact ⟨fun ⟨y, h1, h2⟩ => by rw [h2, h1, Int.mul_neg], fun h2 => ⟨_, rfl, by rw [h2, Int.mul_neg]⟩⟩
   rw [if_neg s2] at h
   by_cases s5 : s = 5 ∧ -512 ≤ c * d ∧ c * d ≤ 512
   · rw [if_pos s5] at h
     obtain ⟨rfl, _⟩ := s5
     cases h
     simp only [uR5]
     exact ⟨fun ⟨y, h1, h2⟩ => by rw [h2, h1, Int.mul_assoc], fun h2 => ⟨_, rfl, by rw [h2, Int.mul_assoc]⟩⟩
   rw [if_neg s5] at h
   by_cases s6 : s = 6 ∧ c.tmod d = 0
   · rw [if_pos s6] at h
     obtain ⟨rfl, hm⟩ := s6
     have hd0 := const_zero hd (.inr rfl)
     cases h
     have hcd : c.tdiv d * d = c := Int.tdiv_mul_cancel (Int.dvd_of_tmod_eq_zero hm)
     simp only [uR5, uR6]
     constructor
     · rintro ⟨y, h1, h2⟩
       refine mul_right_cancel' hd0 ?_
       rw [h2, h1, Int.mul_assoc, hcd]
     · intro h2
       exact ⟨_, rfl, by rw [h2, Int.mul_assoc, hcd]⟩
   rw [if_neg s6] at h
   by_cases s7 : s = 6 ∧ d.tmod c = 0
   · rw [if_pos s7] at h
     obtain ⟨rfl, hm⟩ := s7
     cases h
     have hcd : d.tdiv c * c = d := Int.tdiv_mul_cancel (Int.dvd_of_tmod_eq_zero hm)
     simp only [uR6]
     constructor
     · rintro ⟨y, h1, h2⟩
       refine mul_right_cancel' hc0 ?_
       rw [Int.mul_assoc, hcd, h2, h1]
     · intro h2
       refine ⟨_, rfl, ?_⟩
       rw [← h2, Int.mul_assoc, hcd]
   · rw [if_neg s7] at h; cases h
 rw [if_neg f5] at h
 by_cases f6 : f = 6
 · subst f6
   rw [if_pos rfl] at h
   simp only [uR6]
   by_cases s2 : s = 2
   · subst s2
     rw [if_pos rfl] at h; cases h
     simp only [uR2, uR6]
     exact ⟨fun ⟨y, h1, h2⟩ => by rw [h2, Int.neg_mul_neg, h1], fun h2 => ⟨-q, by rw [← h2, Int.mul_neg, Int.neg_mul], by omega⟩⟩
   rw [if_neg s2] at h
   by_cases s6 : s = 6 ∧ -512 ≤ c * d ∧ c * d ≤ 512
   · rw [if_pos s6] at h
     obtain ⟨rfl, _⟩ := s6
     cases h
     simp only [uR6]
     exact ⟨fun ⟨y, h1, h2⟩ => by rw [← h1, ← h2, Int.mul_assoc, Int.mul_comm d c], fun h2 => ⟨q * d, by rw [← h2, Int.mul_assoc, Int.mul_comm d c], rfl⟩⟩
   · rw [if_neg s6] at h; cases h
 rw [if_neg f6] at h
 by_cases f7 : f = 7
 · subst f7
   rw [if_pos rfl] at h
   have hc1 := const_shift hc (.inl rfl)
   simp only [uR7]
   by_cases s7 : s = 7 ∧ c + d ≤ 64
   · rw [if_pos s7] at h
     obtain ⟨rfl, _⟩ := s7
     have hd1 := const_shift hd (.inl rfl)
     cases h
     simp only [uR7]
     rw [p2_toNat (by omega) (by omega)]
     exact ⟨fun ⟨y, h1, h2⟩ => by rw [h2, h1, Int.mul_assoc], fun h2 => ⟨_, rfl, by rw [h2, Int.mul_assoc]⟩⟩
   rw [if_neg s7] at h
   by_cases s8 : s ≠ 8
   · rw [if_pos s8] at h; cases h
   rw [if_neg s8] at h
   have s8' : s = 8 := by omega
   subst s8'
   have hd1 := const_shift hd (.inr rfl)
   have pc := p2_pos c.toNat
   have pd := p2_pos d.toNat
   simp only [uR8]
   by_cases e1 : c = d
   · rw [if_pos e1] at h; cases h
     subst e1
     simp only [uR1]
     exact ⟨fun ⟨y, h1, h2⟩ => mul_right_cancel' (show p2 c.toNat ≠ 0 by omega) (by rw [h2, h1]), fun h2 => ⟨_, rfl, by rw [h2]⟩⟩
   rw [if_neg e1] at h
   by_cases e2 : d < c
   · rw [if_pos e2] at h; cases h
     simp only [uR7]
     have hp : p2 c.toNat = p2 (c - d).toNat * p2 d.toNat := by
      rw [← p2_toNat (by omega) (by omega)]
      congr 2; omega
     constructor
     · rintro ⟨y, h1, h2⟩
       refine mul_right_cancel' (show p2 d.toNat ≠ 0 by omega) ?_
       rw [h2, h1, Int.mul_assoc, ← hp]
     · intro h2
       exact ⟨_, rfl, by rw [h2, Int.mul_assoc, ← hp]⟩
   · rw [if_neg e2] at h; cases h
     simp only [uR8]
     have hp : p2 d.toNat = p2 (d - c).toNat * p2 c.toNat := by
      rw [← p2_toNat (by omega) (by omega)]
      congr 2; omega
     constructor
     · rintro ⟨y, h1, h2⟩
       refine mul_right_cancel' (show p2 c.toNat ≠ 0 by omega) ?_
       rw [Int.mul_assoc, ← hp, h2, h1]
     · intro h2
       exact ⟨_, rfl, by rw [← h2, Int.mul_assoc, ← hp]⟩
 rw [if_neg f7] at h
 by_cases f8 : f = 8
 · subst f8
   rw [if_pos rfl] at h
   have hc1 := const_shift hc (.inr rfl)
   by_cases s8 : s = 8 ∧ c + d ≤ 64
   · rw [if_pos s8] at h
     obtain ⟨rfl, _⟩ := s8
     have hd1 := const_shift hd (.inr rfl)
     cases h
     simp only [uR8]
     rw [p2_toNat (by omega) (by omega)]
     exact ⟨fun ⟨y, h1, h2⟩ => by rw [← h1, ← h2, Int.mul_assoc, Int.mul_comm (p2 d.toNat)], fun h2 => ⟨q * p2 d.toNat, by rw [← h2, Int.mul_assoc, Int.mul_comm (p2 d.toNat)], rfl⟩⟩
   · rw [if_neg s8] at h; cases h
 · rw [if_neg f8] at h; cases h
theorem doZ_plain (i : Sl.Instr) (rs : List Int) : doZ (plainP i) rs = doZ i rs := by
 obtain ⟨op, t, a, b, c⟩ := i
 unfold plainP
 simp only
 by_cases h3 : op = 3
 · subst h3
   rw [if_pos rfl]
   by_cases hab : a = b
   · subst hab
     rw [if_pos rfl]
     have e2 : p2 1 = 2 := by unfold p2; decide
     simp [doZ, cst, e2]
     omega
   · rw [if_neg hab]
 rw [if_neg h3]
 by_cases h5 : op = 5 ∨ op = 6
 · rw [if_pos h5]
   by_cases c1 : c = 1
   · subst c1
     rw [if_pos rfl]
     rcases h5 with rfl | rfl <;> simp [doZ, cst]
   rw [if_neg c1]
   by_cases c2 : c = -1
   · subst c2
     rw [if_pos rfl]
     rcases h5 with rfl | rfl
     · simp [doZ, cst]
     · simp [doZ, cst]
   rw [if_neg c2]
   by_cases hp : powC c ≠ 0
   · rw [if_pos hp]
     obtain ⟨m, m1, m2, m3, m4⟩ := pow_tw hp
     have ht : p2 (powC c).toNat = c := by rw [m4, Int.toNat_natCast, m3]; rfl
     rcases h5 with rfl | rfl
     · rw [if_pos rfl]
       simp [doZ, cst, ht]
     · rw [if_neg (by decide)]
       simp [doZ, cst, ht]
   · rw [if_neg hp]
 · rw [if_neg h5]
theorem plain_to (i : Sl.Instr) : (plainP i).to = i.to := by
 unfold plainP
 repeat' split
 all_goals rfl
theorem doZ_one {i : Sl.Instr} (h : ¬ (i.op = 3 ∨ i.op = 4)) (rs : List Int) : doZ i rs = uZ i.op i.c (rs[i.a.toNat]?.getD 0) := by
 unfold doZ uZ
 have h3 : ¬ i.op = 3 := fun e => h (.inl e)
 have h4 : ¬ i.op = 4 := fun e => h (.inr e)
 simp only [h3, h4, if_false]
 rfl
theorem tog_two {f c s d : Int} (h : (togP f c s d).2.2 = true) : ¬ (f = 3 ∨ f = 4) := by
 rintro (rfl | rfl) <;> simp [togP] at h
theorem tog_one {f c s d : Int} (hs : ¬ (s = 3 ∨ s = 4)) (h : (togP f c s d).2.2 = true) : ¬ ((togP f c s d).1 = 3 ∨ (togP f c s d).1 = 4) := by
 unfold togP at h ⊢
 repeat' split
 all_goals first
  | (simp; done)
  | (intro h9; simp at h9; omega)
  | simp_all
theorem melt_run {a b : Sl.Instr} {rs : List Int} (hm : (meltP a b).2 = true) (ha : okC a) (hb : okC b) (ht : a.to.toNat < rs.length) : runZ [meltP a b |>.1] rs = runZ [a, b] rs := by
 unfold meltP at hm ⊢
 by_cases h : b.op = 3 ∨ b.op = 4 ∨ b.a ≠ a.to ∨ b.to ≠ a.to
 · rw [if_pos h] at hm; cases hm
 rw [if_neg h] at hm ⊢
 by_cases hk : (togP a.op a.c b.op b.c).2.2 = true
 · rw [if_pos hk]
   have b34 : ¬ (b.op = 3 ∨ b.op = 4) := by omega
   have a34 := tog_two hk
   have o34 := tog_one b34 hk
   have hba : b.a = a.to := by omega
   have hbt : b.to = a.to := by omega
   have hok : constOk (togP a.op a.c b.op b.c).1 (togP a.op a.c b.op b.c).2.1 = true := (tog_const ha hb).resolve_right (by rw [hk]; decide)
   have hsem := fun x q => tog_sem (o := (togP a.op a.c b.op b.c).1) (e := (togP a.op a.c b.op b.c).2.1) (by rw [← hk]) ha hb x q
   generalize (togP a.op a.c b.op b.c).1 = o at *
   generalize (togP a.op a.c b.op b.c).2.1 = e at *
   show (doZ (plainP ⟨o, b.to, a.a, 0, e⟩) rs).bind (fun x => some (rs.set (plainP ⟨o, b.to, a.a, 0, e⟩).to.toNat x)) = (doZ a rs).bind fun x => (doZ b (rs.set a.to.toNat x)).bind fun y => some ((rs.set a.to.toNat x).set b.to.toNat y)
   rw [doZ_plain, plain_to, doZ_one o34, doZ_one a34]
   simp only [doZ_one b34, hba, hbt]
   generalize rs[a.a.toNat]?.getD 0 = x
   have hget : ∀ y : Int, (rs.set a.to.toNat y)[a.to.toNat]?.getD 0 = y := fun y => by rw [get_set, if_pos ⟨rfl, ht⟩]
   simp only [hget, List.set_set]
   have key : ∀ q, uZ o e x = some q ↔ ∃ y, uZ a.op a.c x = some y ∧ uZ b.op b.c y = some q := fun q => by
    rw [uZ_iff (const_ucst hok), ← hsem x q]
    constructor
    · rintro ⟨y, k1, k2⟩
      exact ⟨y, (uZ_iff (const_ucst ha)).2 k1, (uZ_iff (const_ucst hb)).2 k2⟩
    · rintro ⟨y, k1, k2⟩
      exact ⟨y, (uZ_iff (const_ucst ha)).1 k1, (uZ_iff (const_ucst hb)).1 k2⟩
   cases h1 : uZ o e x with
   | some q =>
     obtain ⟨y, k1, k2⟩ := (key q).1 h1
     rw [k1]
     simp only [Option.bind_some, k2]
   | none =>
     cases h2 : uZ a.op a.c x with
     | none => rfl
     | some y =>
       cases h3 : uZ b.op b.c y with
       | none => simp only [Option.bind_some, h3]
       | some q =>
         have := (key q).2 ⟨y, h2, h3⟩
         rw [h1] at this; cases this
 · rw [if_neg hk] at hm; cases hm
theorem runZ_len : ∀ (l : List Sl.Instr) (rs r : List Int), runZ l rs = some r → r.length = rs.length
 | [], rs, r, h => by cases h; rfl
 | i :: l, rs, r, h => by
   unfold runZ at h
   obtain ⟨x, hx, h⟩ := Option.bind_eq_some_iff.1 h
   rw [runZ_len l _ _ h, List.length_set]
theorem runZ_append (l m : List Sl.Instr) (rs : List Int) : runZ (l ++ m) rs = (runZ l rs).bind (runZ m) := by
 induction l generalizing rs with
 | nil => rfl
 | cons i l ih =>
   show (doZ i rs).bind (fun x => runZ (l ++ m) (rs.set i.to.toNat x)) = ((doZ i rs).bind fun x => runZ l (rs.set i.to.toNat x)).bind (runZ m)
   cases doZ i rs with
   | none => rfl
   | some x => exact ih _
theorem set_self {l : List Int} {k : Nat} : l.set k (l[k]?.getD 0) = l := by
 apply List.ext_getElem?
 intro j
 rw [List.getElem?_set]
 by_cases h : k = j
 · subst h
   rw [if_pos rfl]
   by_cases hk : k < l.length
   · rw [if_pos hk, List.getElem?_eq_getElem hk]; rfl
   · rw [if_neg hk, List.getElem?_eq_none (by omega)]
 · rw [if_neg h]
theorem idle_run {i : Sl.Instr} (h : idle1 i = true) (rs : List Int) : runZ [i] rs = some rs := by
 unfold idle1 at h
 rw [decide_eq_true_eq] at h
 show (doZ i rs).bind (fun x => some (rs.set i.to.toNat x)) = some rs
 have e : doZ i rs = some (rs[i.a.toNat]?.getD 0) := by
  unfold doZ
  simp [h.1]
 rw [e, Option.bind_some, h.2, set_self]
def tame (n : Nat) (i : Sl.Instr) : Prop := okC i ∧ i.to.toNat < n
theorem tame_plain {n : Nat} {i : Sl.Instr} (h : tame n i) : tame n (plainP i) := ⟨plain_const h.1, by rw [plain_to]; exact h.2⟩
theorem melt_to {a b : Sl.Instr} (h : (meltP a b).2 = true) : (meltP a b).1.to = a.to := by
 unfold meltP at h ⊢
 by_cases h1 : b.op = 3 ∨ b.op = 4 ∨ b.a ≠ a.to ∨ b.to ≠ a.to
 · rw [if_pos h1] at h; cases h
 rw [if_neg h1] at h ⊢
 by_cases hk : (togP a.op a.c b.op b.c).2.2 = true
 · rw [if_pos hk]
   show (plainP _).to = _
   rw [plain_to]
   show b.to = a.to
   omega
 · rw [if_neg hk] at h; cases h
theorem tame_melt {n : Nat} {a b : Sl.Instr} (ha : tame n a) (hb : tame n b) (h : (meltP a b).2 = true) : tame n (meltP a b).1 := ⟨melt_okC ha.1 hb.1 h, by rw [melt_to h]; exact ha.2⟩
theorem push_run {n : Nat} : ∀ (s : List Sl.Instr) (b : Sl.Instr) (rs : List Int), rs.length = n → (∀ i ∈ s, tame n i) → tame n b → runZ (pushP s b).reverse rs = runZ (s.reverse ++ [b]) rs
 | [], b, rs, hn, hs, hb => by
   unfold pushP
   by_cases hi : idle1 b = true
   · rw [if_pos hi]
     exact (idle_run hi rs).symm
   · rw [if_neg hi]; rfl
 | a :: s, b, rs, hn, hs, hb => by
   unfold pushP
   by_cases hi : idle1 b = true
   · rw [if_pos hi, runZ_append]
     cases h : runZ (a :: s).reverse rs with
     | none => rfl
     | some r => exact (idle_run hi r).symm
   rw [if_neg hi]
   by_cases hm : (meltP a b).2 = true
   · rw [if_pos hm, push_run s _ rs hn (fun i h => hs i (by simp [h])) (tame_melt (hs a (by simp)) hb hm)]
     rw [List.reverse_cons, List.append_assoc, runZ_append, runZ_append]
     cases h : runZ s.reverse rs with
     | none => rfl
     | some r =>
       rw [Option.bind_some, Option.bind_some]
       exact melt_run hm (hs a (by simp)).1 hb.1 (by rw [runZ_len _ _ _ h, hn]; exact (hs a (by simp)).2)
   · rw [if_neg hm, List.reverse_cons]
theorem push_tame {n : Nat} (s : List Sl.Instr) (b : Sl.Instr) (hs : ∀ i ∈ s, tame n i) (hb : tame n b) : ∀ i ∈ pushP s b, tame n i :=
 push_all (q := tame n) (fun a b ha hb h => tame_melt ha hb h) s b hs hb
theorem fold_run_aux {n : Nat} : ∀ (l s : List Sl.Instr) (rs : List Int), rs.length = n → (∀ i ∈ l, tame n i) → (∀ i ∈ s, tame n i) → runZ (l.foldl (fun s i => pushP s (plainP i)) s).reverse rs = runZ (s.reverse ++ l) rs
 | [], s, rs, hn, hl, hs => by rw [List.append_nil]; rfl
 | i :: l, s, rs, hn, hl, hs => by
   have hti := tame_plain (hl i (by simp))
   rw [List.foldl_cons, fold_run_aux l _ rs hn (fun j h => hl j (by simp [h])) (push_tame s _ hs hti)]
   rw [runZ_append, push_run s _ rs hn hs hti, runZ_append, runZ_append]
   cases h : runZ s.reverse rs with
   | none => rfl
   | some r =>
     rw [Option.bind_some, Option.bind_some]
     show (runZ [plainP i] r).bind (runZ l) = runZ (i :: l) r
     show ((doZ (plainP i) r).bind fun x => some (r.set (plainP i).to.toNat x)).bind (runZ l) = (doZ i r).bind fun x => runZ l (r.set i.to.toNat x)
     rw [doZ_plain, plain_to]
     cases doZ i r <;> rfl
theorem fold_ans {p : PV} {zs : List Int} (hR : rightP p = true) (hz : (zs.length : Int) = p.ins) : ansZ (foldP p) zs = ansZ p zs := by
 obtain ⟨f1, f2, f3, f4, f5, f6, f7, f8⟩ := right_facts hR
 have hl : (regs0Z p zs).length = p.regs.toNat := by unfold regs0Z; rw [List.length_append, List.length_replicate]; omega
 unfold ansZ
 rw [stepsZ_runZ (foldP p) _ _ (Nat.le_refl _), stepsZ_runZ p _ _ (Nat.le_refl _), List.take_length, List.take_length]
 have ht : ∀ i ∈ p.code, tame p.regs.toNat i := fun i hi => by
  have hm := right_codes hR i hi
  have := (may_facts hm).2.1
  exact ⟨may_const hm, by omega⟩
 have h := fold_run_aux p.code [] (regs0Z p zs) hl ht (fun i h => by cases h)
 rw [List.reverse_nil, List.nil_append] at h
 show (runZ (foldS p.code).reverse (regs0Z p zs)).map (outsZ p) = _
 unfold foldS
 rw [h]
end Go.Proofs.YtbppmiimeccclaaDoor
namespace Go.Proofs.YtbppmiimeccclaaDoor
open Go Go.Sl
set_option maxRecDepth 100000
set_option maxHeartbeats 2000000
theorem cell_one {G : Imm} {b : Nat} {cs : List Value} {T : TypeId} {fz : Nat × Nat} (h : G b = some (.cells cs.toArray T fz)) (k : Nat) {v : Value} (hv : cs[k]? = some v) : G.cell b k = some v := by
 simp only [Imm.cell, h]; simpa using hv
theorem row_all {G : Imm} {b : Nat} {cs : List Value} {T : TypeId} {fz : Nat × Nat} (h : G b = some (.cells cs.toArray T fz)) : G.row b 0 cs := by
 intro i v hi; simp only [Imm.cell, h, Nat.zero_add]; simpa using hi
theorem c99 (G : Imm) (a : Option Addr) (n c : Nat) : Does Tryd.prog 99 [.slice a n c] G [] (fun v G' Ho => ∃ b, v = .func (.func 115) #[] #[.pointer (some ⟨b, 0, none⟩)] ∧ Ho = [] ∧ G' b = some (.cells [.slice a n c].toArray 22)) := by
 refine Does.enter Tryd.func99 rfl Tryd.ntmps99 rfl (fun w => ?_)
 refine Wc.seq (Wc.region rfl ?_)
 refine Wl.box 0 rfl rfl rfl (fun b1 => ?_)
 refine Wl.q rfl (Qy.assign rfl) (Wl.done (Ar.next (Wc.seq (Wc.region rfl (Wl.q rfl (Qy.makeFunc rfl rfl) (Wl.q rfl (Qy.assign rfl) (Wl.done (Ar.next (Wc.ret (Ar.freeze 0 rfl (fun G' hle hb => ?_)))))))))))
 refine Ar.out1 (.inr rfl) (Ho := []) rfl (.tmp rfl) trivial ?_
 exact ⟨_, rfl, rfl, hb⟩
def backL (xs : List Sl.Instr) : List (Int × Sl.Instr) := (List.range xs.length).map fun j => (((xs.length - 1 - j : Nat) : Int), xs[xs.length - 1 - j]?.getD default)
def encB (x : Int × Sl.Instr) : List Value := [.int .i64 x.1, .agg (Cells.enc x.2).toArray]
theorem backL_len (xs : List Sl.Instr) : (backL xs).length = xs.length := by simp [backL]
theorem backL_get (xs : List Sl.Instr) {j : Nat} (h : j < xs.length) : (backL xs)[j]? = some (((xs.length - 1 - j : Nat) : Int), xs[xs.length - 1 - j]?.getD default) := by simp [backL, h]
theorem c115 (G : Imm) (a : Option Addr) (c : Nat) (xs : List Sl.Instr) (b : Nat) (hx : Arr G a xs) (hl : xs.length ≤ 1099511627776) (hb : G b = some (.cells [.slice a xs.length c].toArray 22)) :
 IterDoes Tryd.prog 115 [.pointer (some ⟨b, 0, none⟩)] G encB (backL xs) := by
 intro ι J inv stop ly i0 hi0 hY
 have hcell : G.cell b 0 = some (.slice a xs.length c) := cell_one hb 0 rfl
 refine Does.enter Tryd.func115 rfl Tryd.ntmps115 rfl (fun w => ?_)
 refine Wc.lift 1000 ?_
 refine Wc.seq (Wc.region rfl (Wl.q rfl (Qy.loadG T.one22 rfl (by assumption)) ?_))
 refine Wl.q rfl (Qy.len T.sl22 rfl) (Wl.q rfl (Qy.sub rfl rfl (by omega)) ?_)
 refine Wl.q rfl (Qy.assign rfl) (Wl.done (Ar.next (Wc.block ?_)))
 refine Wc.loopT (ι := Int × ι) 1000 (fun (m, s) => ([(3, .int .i64 m), (0, Go.Value.func (Go.Fn.yield ly) #[] #[]), (1, Go.Value.pointer (Option.some (Go.Addr.mk b 0 Option.none)))], [])) (fun (m, s) => J s) (fun (m, s) => -1 ≤ m ∧ m < (xs.length : Int) ∧ inv ((xs.length : Int) - 1 - m).toNat s) (fun (m, s) => (m + 1).toNat) (((xs.length : Int) - 1, i0)) (⟨by omega, by omega, by rw [show ((xs.length : Int) - 1 - ((xs.length : Int) - 1)).toNat = 0 by omega]; exact hi0⟩) ⟨rfl, rfl, rfl, trivial⟩ trivial (by repeat (first | exact Hp.tl_self _ _ | refine Hp.tl_cons rfl ?_)) (fun ⟨m, s⟩ => fun (hk : -1 ≤ m ∧ m < (xs.length : Int) ∧ inv ((xs.length : Int) - 1 - m).toNat s) => ?_)
 obtain ⟨hm1, hm2, hinv⟩ := hk
 refine Wc.seq (Wc.seq (Wc.region rfl (Wl.q rfl (Qy.move rfl) (Wl.q rfl (Qy.geq rfl rfl) (Wl.done (Ar.next ?_))))))
 refine Wc.cond rfl (fun hc1 => ?_) (fun hc1 => ?_)
 refine Wc.skip (Ar.next (Wc.seq (Wc.block (Wc.seq (Wc.region rfl (Wl.q rfl (Qy.move rfl) (Wl.q rfl (Qy.move rfl) (Wl.q rfl (Qy.loadG T.one22 rfl (by assumption)) ?_))))))))
 refine Wl.q rfl (Qy.move rfl) (Wl.q rfl (Qy.at (α := Instr) T.sl22 rfl rfl (by assumption) (by omega)) ?_)
 refine Wl.q rfl (Qy.loadsG T.agg55 rfl (Arr.elem (by assumption) (by omega)) rfl) ?_
 rotate_left
 refine Wc.exit (Ar.passExit ?_)
 refine Ar.passExit ?_
 refine Ar.here ?_
 rotate_left
 · have hbx : (backL xs)[((xs.length : Int) - 1 - m).toNat]? = some (m, xs[m.toNat]?.getD default) := by
    rw [backL_get xs (by omega)]
    have e1 : xs.length - 1 - ((xs.length : Int) - 1 - m).toNat = m.toNat := by omega
    rw [e1]
    have e2 : ((m.toNat : Nat) : Int) = m := by omega
    rw [e2]
   refine Wl.yieldT (A := []) 1000 rfl rfl rfl trivial (by repeat (first | exact Hp.tl_self _ _ | refine Hp.tl_cons rfl ?_)) rfl (hY ((xs.length : Int) - 1 - m).toNat _ s hbx hinv) (fun vy Gy Hy hly hp => ?_)
   obtain ⟨rfl, s', rfl, hp⟩ := hp
   rcases hp with ⟨rfl, hinv'⟩ | ⟨rfl, hst⟩
   · refine Wl.q rfl (Qy.not rfl) (Wl.done (Ar.next (Wc.condF rfl ?_)))
     refine Wc.skip ?_
     refine Ar.outNormal ?_
     refine Ar.next (Wc.region rfl (Wl.q rfl (Qy.move rfl) (Wl.q rfl (Qy.sub rfl rfl (by omega)) ?_)))
     refine Wl.q rfl (Qy.assign rfl) (Wl.done ?_)
     refine Ar.againT ((m - 1, s')) ?_ ?_ ⟨rfl, rfl, rfl, trivial⟩ trivial (by repeat (first | exact Hp.tl_self _ _ | refine Hp.tl_cons rfl ?_))
     · refine ⟨by omega, by omega, ?_⟩
       rw [show ((xs.length : Int) - 1 - (m - 1)).toNat = ((xs.length : Int) - 1 - m).toNat + 1 by omega]
       exact hinv'
     · show (m - 1 + 1).toNat < (m + 1).toNat
       omega
   · refine Wl.q rfl (Qy.not rfl) (Wl.done (Ar.next (Wc.condT rfl ?_)))
     refine Wc.ret ?_
     refine Ar.outRet ?_
     refine Ar.passRet ?_
     refine Ar.passRet ?_
     refine Ar.outRet ?_
     refine Ar.outT (k := 1000) (.inr rfl) rfl (by repeat (first | exact Hp.tl_self _ _ | refine Hp.tl_cons rfl ?_)) ⟨rfl, s', rfl, .inr hst⟩
 · have hm : m = -1 := by omega
   subst hm
   refine Ar.outT (k := 1000) (.inl rfl) rfl (by repeat (first | exact Hp.tl_self _ _ | refine Hp.tl_cons rfl ?_)) ⟨rfl, s, rfl, .inl ?_⟩
   rw [backL_len]
   rw [show ((xs.length : Int) - 1 - -1).toNat = xs.length by omega] at hinv
   exact hinv
theorem c82 (G : Imm) (p : PV) (ac ao : Option Addr) (cc co : Nat) :
 Does Tryd.prog 82 [.agg #[.int .i64 p.ins, .int .i64 p.regs, .slice ac p.code.length cc, .slice ao p.outs.length co]] G [] (fun v G' Ho =>
  ∃ b, v = .func (.func 98) #[] #[.pointer (some ⟨b, 0, none⟩)] ∧ Ho = [] ∧ G' b = some (.cells [.int .i64 p.ins, .int .i64 p.regs, .slice ac p.code.length cc, .slice ao p.outs.length co].toArray 25)) := by
 refine Does.enter Tryd.func82 rfl Tryd.ntmps82 rfl (fun w => ?_)
 refine Wc.seq (Wc.region rfl ?_)
 refine Wl.box 0 rfl rfl rfl (fun b1 => ?_)
 refine Wl.q rfl (Qy.assign rfl) (Wl.done (Ar.next (Wc.seq (Wc.region rfl (Wl.q rfl (Qy.makeFunc rfl rfl) (Wl.q rfl (Qy.assign rfl) (Wl.done (Ar.next (Wc.ret (Ar.freeze 0 rfl (fun G' hle hb => ?_)))))))))))
 refine Ar.out1 (.inr rfl) (Ho := []) rfl (.tmp rfl) trivial ?_
 exact ⟨_, rfl, rfl, hb⟩
theorem c98R (G : Imm) (p : PV) (ac ao : Option Addr) (cc co : Nat) (b : Nat) (hc : Arr G ac p.code) (ho : Arr G ao p.outs) (h1 : p.code.length ≤ 1099511627776) (h2 : p.outs.length ≤ 1099511627776)
 (hb : G b = some (.cells [.int .i64 p.ins, .int .i64 p.regs, .slice ac p.code.length cc, .slice ao p.outs.length co].toArray 25)) (hR : rightP p = true) :
 IterDoes Tryd.prog 98 [.pointer (some ⟨b, 0, none⟩)] G encB (backL p.code) := by
 intro ι J inv stop ly i0 hi0 hY
 have hrow := row_all hb
 have hcode := cell_one hb 2 rfl
 refine Does.enterM Tryd.func98 rfl Tryd.ntmps98 rfl (fun w => ?_)
 refine Wc.lift 1000 ?_
 refine Wc.seq (Wc.region rfl ?_)
 refine Wl.box 0 rfl rfl rfl (fun b1 => ?_)
 refine Wl.done (Ar.next (Wc.seq (Wc.seq (Wc.region rfl (Wl.q rfl (Qy.loadsG T.agg25 rfl (by assumption) rfl) ?_)))))
 refine Wl.call0 rfl T.fn97 rfl (c97 _ _ _ _ _ _ (by assumption) (by assumption) (by omega) (by omega)) ?_
 refine Wl.q rfl (Qy.notD rfl) (Wl.done (Ar.next ?_))
 refine Wc.cond rfl (fun hc1 => ?_) (fun hc1 => ?_)
 refine Wc.ret (Ar.passRet ?_)
 refine Ar.outOf (.inr rfl) ?_
 rotate_left
 refine Wc.skip (Ar.next (Wc.seq (Wc.region rfl (Wl.q rfl (Qy.fieldAddr T.fa25_2 rfl) (Wl.q rfl (Qy.loadG T.one22 rfl (by assumption)) ?_)))))
 refine Wl.call 1 rfl T.fn99 rfl (c99 _ _ _ _) (tags_of trivial) (fun v1 G1 Ho1 hle1 hp => ?_)
 obtain ⟨bk1, rfl, rfl, hbk1⟩ := hp
 replace hc := hc.up hle1
 replace ho := ho.up hle1
 refine Wl.done (Ar.next (Wc.block ?_))
 rotate_left
 · exact absurd hR hc1
 refine Wc.rangeFunc (ι := ι) 900 901 (fun s => [(0, Option.some b1, Go.Obj.cells #[Go.Value.func (Go.Fn.yield ly) #[] #[]] 155)] ++ Hp.shift 1000 (J s)) (fun k s => inv k s) (fun c s => c = Code.ret ∧ stop s) (i0) rfl T.fn115 (fun _ => rfl) rfl (c115 _ ac cc p.code bk1 hc h1 hbk1) (hi0) (Hp.got_app ⟨rfl, trivial⟩ (by repeat (first | exact Hp.tl_self _ _ | refine Hp.tl_cons rfl ?_))) ⟨rfl, fun _ => Hp.none_app rfl rfl⟩ (fun k x s l dd q w0 hx hi => ?_) (fun s dd hi => ?_) (fun s dd c hi => ?_)
 · refine Wc.seq (Wc.region rfl (Wl.q rfl (Qy.assign rfl) (Wl.done (Ar.next (Wc.region rfl ?_)))))
   refine Wl.alloc 902 rfl T.zero55 (fun b2 => ?_)
   refine Wl.storeAll 902 T.size55 rfl rfl rfl rfl rfl rfl ?_
   refine Wl.done (Ar.begin 900 rfl ?_)
   refine Wc.block (Wc.seq (Wc.region rfl (Wl.q rfl (Qy.load 0 T.one155 rfl rfl rfl) (Wl.q rfl (Qy.move rfl) (Wl.q rfl (Qy.loadAll 902 T.agg55 rfl rfl rfl) ?_)))))
   refine Wl.yieldT (A := [(900, Option.some l, Go.Sl.lrec q Go.LoopState.busy Option.none), (902, Option.some b2, Go.Obj.cells (List.toArray (Go.Sl.Cells.enc (Prod.snd x))) 55), (901, Option.some dd, Go.Obj.deferred (Option.some [])), (0, Option.some b1, Go.Obj.cells #[Go.Value.func (Go.Fn.yield ly) #[] #[]] 155)]) 1000 rfl rfl rfl ⟨rfl, rfl, rfl, rfl, trivial⟩ (by repeat (first | exact Hp.tl_self _ _ | refine Hp.tl_cons rfl ?_)) rfl ((hY k x s hx hi).up hle1) (fun vy Gy Hy hly hp => ?_)
   obtain ⟨rfl, s', rfl, hp⟩ := hp
   rcases hp with ⟨rfl, hinv'⟩ | ⟨rfl, hst⟩
   · refine Wl.q rfl (Qy.not rfl) (Wl.done (Ar.next (Wc.condF rfl ?_)))
     refine Wc.skip ?_
     refine Ar.outNormal ?_
     refine Ar.roundEnd none (.inl ⟨rfl, rfl⟩) 900 rfl ⟨rfl, (s', none), rfl, .inl ⟨rfl, rfl, ?_⟩⟩ (Hp.got_cons rfl (Hp.got_cons rfl (Hp.got_app ⟨rfl, trivial⟩ (by repeat (first | exact Hp.tl_self _ _ | refine Hp.tl_cons rfl ?_)))))
     exact hinv'
   · refine Wl.q rfl (Qy.not rfl) (Wl.done (Ar.next (Wc.condT rfl ?_)))
     refine Wc.ret ?_
     refine Ar.outRet ?_
     refine Ar.roundEnd (some (.ret)) (.inr (.inl ⟨rfl, rfl⟩)) 900 rfl ⟨rfl, (s', some (.ret)), rfl, .inr ⟨rfl, _, rfl, ?_⟩⟩ (Hp.got_cons rfl (Hp.got_cons rfl (Hp.got_app ⟨rfl, trivial⟩ (by repeat (first | exact Hp.tl_self _ _ | refine Hp.tl_cons rfl ?_)))))
     exact ⟨rfl, hst⟩
 · refine Ar.outNormal ?_
   refine Ar.collect (.inl rfl) 901 rfl ?_
   refine Ar.outOf (.inr rfl) ?_
   refine Ar.base ?_
   refine Ar.outT (k := 1000) (.inr rfl) rfl (by repeat (first | exact Hp.tl_self _ _ | refine Hp.tl_cons rfl ?_)) ⟨rfl, s, rfl, .inl hi⟩
 · obtain ⟨rfl, hst⟩ := hi
   refine Wc.ret ?_
   refine Ar.outRet ?_
   refine Ar.collect (.inr rfl) 901 rfl ?_
   refine Ar.outOf (.inr rfl) ?_
   refine Ar.base ?_
   refine Ar.outT (k := 1000) (.inr rfl) rfl (by repeat (first | exact Hp.tl_self _ _ | refine Hp.tl_cons rfl ?_)) ⟨rfl, s, rfl, .inr hst⟩
end Go.Proofs.YtbppmiimeccclaaDoor
namespace Go.Proofs.YtbppmiimeccclaaDoor
open Go Go.Sl
set_option maxRecDepth 100000
set_option maxHeartbeats 2000000
def setAll (l : List Bool) (rs : List Int) : List Bool := rs.foldl (fun l r => l.set r.toNat true) l
theorem setAll_len (l : List Bool) (rs : List Int) : (setAll l rs).length = l.length := by
 unfold setAll
 induction rs generalizing l with
 | nil => rfl
 | cons r rs ih => simp only [List.foldl_cons]; rw [ih, List.length_set]
theorem setAll_step (l : List Bool) (rs : List Int) {k : Nat} (h : k < rs.length) : setAll l (rs.take (k + 1)) = (setAll l (rs.take k)).set (rs[((k : Nat) : Int).toNat]?.getD default).toNat true := by
 unfold setAll
 rw [List.take_add_one, List.foldl_append, Int.toNat_natCast, List.getElem?_eq_getElem h]
 rfl
def needStep (s : List Bool × List Bool) (k : Int) (i : Sl.Instr) : List Bool × List Bool :=
 if s.1[i.to.toNat]?.getD default = true then (setAll (s.1.set i.to.toNat false) (asks i), s.2.set k.toNat true) else s
def needTo (p : PV) : Nat → List Bool × List Bool
 | 0 => (setAll (List.replicate p.regs.toNat false) p.outs, List.replicate p.code.length false)
 | j + 1 => needStep (needTo p j) ((p.code.length - 1 - j : Nat) : Int) (p.code[p.code.length - 1 - j]?.getD default)
def neededP (p : PV) : List Bool := (needTo p p.code.length).2
theorem needTo_len (p : PV) (j : Nat) : (needTo p j).1.length = p.regs.toNat ∧ (needTo p j).2.length = p.code.length := by
 induction j with
 | zero => simp [needTo, setAll_len]
 | succ j ih =>
   simp only [needTo, needStep]
   split
   · simp [setAll_len, ih]
   · exact ih
theorem asks_in {i : Sl.Instr} {regs : Int} (h : mayOk i regs = true) : ∀ r ∈ asks i, 0 ≤ r ∧ r < regs := by
 unfold mayOk at h
 simp only [Bool.and_eq_true, List.all_eq_true, decide_eq_true_eq] at h
 exact h.2
theorem c55 (G : Imm) (p : PV) (ac ao : Option Addr) (cc co : Nat) (hc : Arr G ac p.code) (ho : Arr G ao p.outs) (h1 : p.code.length ≤ 1099511627776) (h2 : p.outs.length ≤ 1099511627776) (hR : rightP p = true) :
 Does Tryd.prog 55 [.agg #[.int .i64 p.ins, .int .i64 p.regs, .slice ac p.code.length cc, .slice ao p.outs.length co]] G [] (fun v G' Ho => ∃ b c j, v = .slice b (neededP p).length c ∧ OwnA b c (neededP p) j ∧ Ho = [(0, b.map (·.block), Row 4 (neededP p) j)] ∧ G' = G) := by
 obtain ⟨r1, r2, r3, r4, r5, r6, r7, r8⟩ := right_facts hR
 refine Does.enterM Tryd.func55 rfl Tryd.ntmps55 rfl (fun w => ?_)
 refine Wc.seq (Wc.region rfl ?_)
 refine Wl.box 0 rfl rfl rfl (fun b1 => ?_)
 refine Wl.q rfl (Qy.assign rfl) (Wl.done (Ar.next (Wc.scope (Wc.seq (Wc.region rfl (Wl.q rfl (Qy.fieldAddr T.fa25_1 rfl) (Wl.q rfl (Qy.load 0 T.one3 rfl rfl rfl) ?_)))))))
 refine Wl.make (α := Bool) 1 rfl T.sl95 T.el4 rfl rfl (by omega) (by omega) (fun b2 => ?_)
 refine Wl.alloc 2 rfl T.zero95 (fun b3 => ?_)
 refine Wl.store 2 T.one95 rfl rfl rfl rfl rfl ?_
 refine Wl.done (Ar.next (Wc.seq (Wc.seq (Wc.region rfl (Wl.q rfl (Qy.fieldAddr T.fa25_3 rfl) (Wl.q rfl (Qy.load 0 T.one23 rfl rfl rfl) (Wl.q rfl (Qy.len T.sl23 rfl) (Wl.q rfl (Qy.move rfl) (Wl.done (Ar.next (Wc.block ?_)))))))))))
 generalize hR0 : List.replicate p.regs.toNat (default : Bool) = R0 at *
 have hR0l : (R0.length : Int) = p.regs := by rw [← hR0, List.length_replicate]; omega
 refine Wc.loop (ι := Nat × List Bool) (fun (k, xs) => ([(17, .int .i64 (k : Int)), (16, Go.Value.int Go.IntKind.i64 (↑(List.length (PV.outs p)) : Int)), (15, Go.Value.slice ao (List.length (PV.outs p)) co), (3, Go.Value.pointer (Option.some (Go.Addr.mk b3 0 Option.none))), (2, Go.Value.slice Option.none 0 0), (1, Go.Value.pointer (Option.some (Go.Addr.mk b1 0 Option.none)))], [(2, some b3, .cells #[.slice (some ⟨b2, 0, none⟩) xs.length R0.length] 95), (1, some b2, Row 4 xs []), (0, Option.some b1, Go.Obj.cells #[Go.Value.int Go.IntKind.i64 (PV.ins p), Go.Value.int Go.IntKind.i64 (PV.regs p), Go.Value.slice ac (List.length (PV.code p)) cc, Go.Value.slice ao (List.length (PV.outs p)) co] 25)])) (fun (k, xs) => k ≤ p.outs.length ∧ xs = setAll R0 (p.outs.take k) ∧ OwnA (some ⟨b2, 0, none⟩) R0.length xs []) (fun (k, xs) => p.outs.length - k) ((0, R0)) (⟨Nat.zero_le _, rfl, OwnA.made (by simp only [maxLen]; omega)⟩) ⟨rfl, rfl, rfl, rfl, rfl, rfl, trivial⟩ ⟨rfl, rfl, rfl, trivial⟩ (fun ⟨k, xs⟩ => fun (hk : k ≤ p.outs.length ∧ xs = setAll R0 (p.outs.take k) ∧ OwnA (some ⟨b2, 0, none⟩) R0.length xs []) => ?_)
 obtain ⟨hk1, hxs, hox⟩ := hk
 have hxl : (xs.length : Int) = p.regs := by rw [hxs, setAll_len]; exact hR0l
 rcases Nat.lt_or_ge k p.outs.length with hlt | hge
 · have hr : 0 ≤ p.outs[((k : Nat) : Int).toNat]?.getD default ∧ p.outs[((k : Nat) : Int).toNat]?.getD default < xs.length := by
    rw [hxl]; refine r7 _ ?_
    rw [Int.toNat_natCast, List.getElem?_eq_getElem hlt]; simp
   refine Wc.seq (Wc.region rfl (Wl.q rfl (Qy.lss rfl rfl) (Wl.done (Ar.next (Wc.seq (Wc.condP rfl (by first | assumption | omega) ?_))))))
   refine Wc.skip (Ar.next (Wc.seq (Wc.block (Wc.seq (Wc.region rfl (Wl.q rfl (Qy.at (α := Int) T.sl23 rfl rfl (by assumption) (by omega)) ?_))))))
   refine Wl.q rfl (Qy.loadG T.one3 rfl (Arr.cell (by assumption) (by omega) 0 rfl rfl)) ?_
   refine Wl.q rfl (Qy.assign rfl) (Wl.done (Ar.next (Wc.region rfl (Wl.q rfl (Qy.load 2 T.one95 rfl rfl rfl) (Wl.q rfl (Qy.move rfl) (Wl.q rfl (Qy.indexAddrO (α := Bool) T.sl95 rfl rfl (by assumption) (by omega)) ?_))))))
   refine Wl.setO (z := _) 1 T.size4 rfl rfl rfl (by assumption) (by omega) rfl (fun ho1 => ?_)
   refine Wl.done ?_
   refine Ar.outNormal ?_
   refine Ar.next (Wc.region rfl (Wl.q rfl (Qy.add rfl rfl (by omega)) ?_))
   refine Wl.q rfl (Qy.move rfl) (Wl.done (Ar.reH 2 (.cells #[.slice (some ⟨b2, 0, none⟩) (xs.set (p.outs[((k : Nat) : Int).toNat]?.getD default).toNat true).length R0.length] 95) rfl (by rw [List.length_set]) ?_))
   refine Ar.again ((k + 1, _)) ?_ ?_ rfl ⟨rfl, rfl, rfl, rfl, rfl, rfl, trivial⟩ ⟨rfl, rfl, rfl, trivial⟩
   · exact ⟨by omega, by rw [setAll_step _ _ hlt, hxs], ho1⟩
   · show p.outs.length - (k + 1) < p.outs.length - k
     omega
 · have hk : k = p.outs.length := by omega
   subst hk
   rw [List.take_length] at hxs
   clear hk1 hge
   refine Wc.seq (Wc.region rfl (Wl.q rfl (Qy.lss rfl rfl) (Wl.done (Ar.next (Wc.seq (Wc.condN rfl (by first | assumption | omega) ?_))))))
   refine Wc.exit (Ar.passExit ?_)
   refine Ar.passExit ?_
   refine Ar.here ?_
   refine Ar.next (Wc.seq (Wc.region rfl (Wl.q rfl (Qy.fieldAddr T.fa25_2 rfl) (Wl.q rfl (Qy.load 0 T.one22 rfl rfl rfl) (Wl.q rfl (Qy.len T.sl22 rfl) ?_)))))
   refine Wl.make (α := Bool) 3 rfl T.sl95 T.el4 rfl rfl (by omega) (by omega) (fun b4 => ?_)
   refine Wl.alloc 4 rfl T.zero95 (fun b5 => ?_)
   refine Wl.store 4 T.one95 rfl rfl rfl rfl rfl ?_
   refine Wl.done (Ar.next (Wc.seq (Wc.label (Ar.next (Wc.seq (Wc.seq (Wc.region rfl (Wl.q rfl (Qy.loadAll 0 T.agg25 rfl rfl rfl) ?_))))))))
   refine Wl.call 5 rfl T.fn82 rfl (c82 _ _ _ _ _ _) (tags_of trivial) (fun v1 G1 Ho1 hle1 hp => ?_)
   obtain ⟨bb1, rfl, rfl, hbb1⟩ := hp
   replace hc := hc.up hle1
   replace ho := ho.up hle1
   refine Wl.done (Ar.next (Wc.block ?_))
   generalize hS0 : List.replicate ((p.code.length : Int)).toNat (default : Bool) = S0 at *
   have hS0l : S0.length = p.code.length := by rw [← hS0, List.length_replicate]; omega
   refine Wc.rangeFunc (ι := List Bool × List Bool) 900 901 (fun (A, O) => [(4, some b5, .cells #[.slice (some ⟨b4, 0, none⟩) O.length S0.length] 95), (3, some b4, Row 4 O []), (2, some b3, .cells #[.slice (some ⟨b2, 0, none⟩) A.length R0.length] 95), (1, some b2, Row 4 A []), (0, Option.some b1, Go.Obj.cells #[Go.Value.int Go.IntKind.i64 (PV.ins p), Go.Value.int Go.IntKind.i64 (PV.regs p), Go.Value.slice ac (List.length (PV.code p)) cc, Go.Value.slice ao (List.length (PV.outs p)) co] 25)]) (fun k (A, O) => (A, O) = needTo p k ∧ OwnA (some ⟨b2, 0, none⟩) R0.length A [] ∧ OwnA (some ⟨b4, 0, none⟩) S0.length O []) (fun c (A, O) => False) ((xs, S0)) rfl T.fn98 (fun _ => rfl) rfl (c98R _ p _ _ _ _ _ hc ho (by omega) (by omega) hbb1 hR) (⟨by rw [hxs, ← hR0, ← hS0]; rfl, hox, OwnA.made (by simp only [maxLen]; omega)⟩) (Hp.got ⟨rfl, rfl, rfl, rfl, rfl, trivial⟩) ⟨rfl, fun _ => rfl⟩ (fun k x ⟨A, O⟩ l dd q w0 hx hi => ?_) (fun ⟨A, O⟩ dd hi => ?_) (fun ⟨A, O⟩ dd c hi => ?_)
   · obtain ⟨hn, hoA, hoO⟩ := hi
     have hkl : k < p.code.length := by have := (List.getElem?_eq_some_iff.1 hx).1; rw [backL_len] at this; exact this
     have hxe : x = (((p.code.length - 1 - k : Nat) : Int), p.code[p.code.length - 1 - k]?.getD default) := by rw [backL_get _ hkl] at hx; exact (Option.some.inj hx).symm
     have hx1 : x.1 = ((p.code.length - 1 - k : Nat) : Int) := by rw [hxe]
     have hx2 : x.2 = p.code[p.code.length - 1 - k]?.getD default := by rw [hxe]
     clear hxe
     have hm : mayOk x.2 p.regs = true := by
      rw [hx2]; refine r8 _ ?_
      rw [List.getElem?_eq_getElem (by omega), Option.getD_some]; exact List.getElem_mem _
     have hAl : (A.length : Int) = p.regs := by have := (needTo_len p k).1; rw [← hn] at this; show (A.length : Int) = _; rw [show A.length = p.regs.toNat from this]; omega
     have hOl : O.length = p.code.length := by have := (needTo_len p k).2; rw [← hn] at this; exact this
     have hto : 0 ≤ x.2.to ∧ x.2.to < A.length := by rw [hAl]; rw [mayOk_iff] at hm; exact ⟨hm.1.2.2.1, hm.1.2.2.2.1⟩
     have hx1b : 0 ≤ x.1 ∧ x.1 < O.length := by rw [hx1, hOl]; omega
     have hask : ∀ r ∈ asks x.2, 0 ≤ r ∧ r < A.length := by rw [hAl]; exact asks_in hm
     have hst : needTo p (k + 1) = needStep (A, O) x.1 x.2 := by rw [hx1, hx2, hn]; rfl
     have hasks : (asks x.2).length ≤ 2 := by unfold asks; split <;> (try split) <;> simp
     refine Wc.seq (Wc.region rfl (Wl.q rfl (Qy.assign rfl) (Wl.done (Ar.next (Wc.region rfl ?_)))))
     refine Wl.alloc 902 rfl T.zero55 (fun b6 => ?_)
     refine Wl.storeAll 902 T.size55 rfl rfl rfl rfl rfl rfl ?_
     refine Wl.done (Ar.begin 900 rfl ?_)
     refine Wc.block (Wc.seq (Wc.seq (Wc.region rfl (Wl.q rfl (Qy.load 2 T.one95 rfl rfl rfl) (Wl.q rfl (Qy.fieldAddr T.fa55_1 rfl) (Wl.q rfl (Qy.load 902 T.one3 rfl rfl rfl) (Wl.q rfl (Qy.indexAddrO (α := Bool) T.sl95 rfl rfl (by assumption) (by omega)) ?_)))))))
     refine Wl.q rfl (Qy.loadO 1 0 T.one4 rfl rfl (by assumption) (by omega) rfl rfl) ?_
     refine Wl.q rfl (Qy.not rfl) (Wl.done (Ar.next (Wc.ite rfl (fun hc1 => ?_) (fun hc1 => ?_))))
     refine Wc.exit (Ar.passExit ?_)
     refine Ar.here ?_
     rotate_left
     refine Wc.skip (Ar.next (Wc.seq (Wc.region rfl (Wl.q rfl (Qy.load 4 T.one95 rfl rfl rfl) (Wl.q rfl (Qy.move rfl) (Wl.q rfl (Qy.indexAddrO (α := Bool) T.sl95 rfl rfl (by assumption) (by omega)) ?_))))))
     refine Wl.setO (z := _) 3 T.size4 rfl rfl rfl (by assumption) (by omega) rfl (fun ho1 => ?_)
     refine Wl.done (Ar.next (Wc.seq (Wc.region rfl (Wl.q rfl (Qy.load 2 T.one95 rfl rfl rfl) (Wl.q rfl (Qy.fieldAddr T.fa55_1 rfl) (Wl.q rfl (Qy.load 902 T.one3 rfl rfl rfl) (Wl.q rfl (Qy.indexAddrO (α := Bool) T.sl95 rfl rfl (by assumption) (by omega)) ?_)))))))
     refine Wl.setO (z := _) 1 T.size4 rfl rfl rfl (by assumption) (by omega) rfl (fun ho2 => ?_)
     refine Wl.done (Ar.next (Wc.seq (Wc.region rfl (Wl.q rfl (Qy.loadAll 902 T.agg55 rfl rfl rfl) ?_))))
     refine Wl.call 903 rfl T.fn49 rfl (c49 _ _) (tags_of trivial) (fun v2 G2 Ho2 hle2 hp => ?_)
     obtain ⟨ad2, cd2, junk2, rfl, hoa2, rfl, rfl⟩ := hp
     refine Wl.q rfl (Qy.len T.sl23 rfl) (Wl.q rfl (Qy.move rfl) (Wl.done (Ar.next (Wc.block ?_))))
     rotate_left
     · refine Ar.roundEnd none (.inl ⟨rfl, rfl⟩) 900 rfl ⟨rfl, ((A, O), none), rfl, .inl ⟨rfl, rfl, ?_⟩⟩ (Hp.got ⟨rfl, rfl, rfl, rfl, rfl, rfl, rfl, trivial⟩)
       refine ⟨?_, hoA, hoO⟩
       rw [hst]; unfold needStep
       rw [if_neg (by simpa using hc1)]
     refine Wc.reH 2 (.cells #[.slice (some ⟨b2, 0, none⟩) (A.set x.2.to.toNat false).length R0.length] 95) rfl (by rw [List.length_set]) (Wc.reH 4 (.cells #[.slice (some ⟨b4, 0, none⟩) (O.set x.1.toNat true).length S0.length] 95) rfl (by rw [List.length_set]) ?_)
     refine Wc.loop (ι := Nat × List Bool) (fun (m, B) => ([(49, .int .i64 (m : Int)), (48, Go.Value.int Go.IntKind.i64 (↑(List.length (asks (Prod.snd x))) : Int)), (47, Go.Value.slice ad2 (List.length (asks (Prod.snd x))) cd2), (3, Go.Value.pointer (Option.some (Go.Addr.mk b3 0 Option.none)))], [(2, some b3, .cells #[.slice (some ⟨b2, 0, none⟩) B.length R0.length] 95), (1, some b2, Row 4 B []), (4, Option.some b5, Go.Obj.cells #[Go.Value.slice (Option.some (Go.Addr.mk b4 0 Option.none)) (List.length (List.set O (Int.toNat (Prod.fst x)) Bool.true)) (List.length S0)] 95), (904, Option.map (fun x => Go.Addr.block x) ad2, Go.Sl.Row (α := Int) 3 (asks (Prod.snd x)) (junk2)), (3, Option.map (fun x => Go.Addr.block x) (Option.some (Go.Addr.mk b4 0 Option.none)), Go.Sl.Row (α := Bool) 4 (List.set O (Int.toNat (Prod.fst x)) Bool.true) ([])), (900, Option.some l, Go.Sl.lrec q Go.LoopState.busy Option.none), (902, Option.some b6, Go.Obj.cells (List.toArray (Go.Sl.Cells.enc (Prod.snd x))) 55), (901, Option.some dd, Go.Obj.deferred (Option.some [])), (0, Option.some b1, Go.Obj.cells #[Go.Value.int Go.IntKind.i64 (PV.ins p), Go.Value.int Go.IntKind.i64 (PV.regs p), Go.Value.slice ac (List.length (PV.code p)) cc, Go.Value.slice ao (List.length (PV.outs p)) co] 25)])) (fun (m, B) => m ≤ (asks x.2).length ∧ B = setAll (A.set x.2.to.toNat false) ((asks x.2).take m) ∧ OwnA (some ⟨b2, 0, none⟩) R0.length B []) (fun (m, B) => (asks x.2).length - m) ((0, A.set x.2.to.toNat false)) (⟨Nat.zero_le _, rfl, ho2⟩) ⟨rfl, rfl, rfl, rfl, trivial⟩ ⟨rfl, rfl, rfl, rfl, rfl, rfl, rfl, rfl, rfl, trivial⟩ (fun ⟨m, B⟩ => fun (hk : m ≤ (asks x.2).length ∧ B = setAll (A.set x.2.to.toNat false) ((asks x.2).take m) ∧ OwnA (some ⟨b2, 0, none⟩) R0.length B []) => ?_)
     obtain ⟨hm1, hB, hoB⟩ := hk
     have hBl : B.length = A.length := by rw [hB, setAll_len, List.length_set]
     rcases Nat.lt_or_ge m (asks x.2).length with hlt | hge
     · have hr : 0 ≤ (asks x.2)[((m : Nat) : Int).toNat]?.getD default ∧ (asks x.2)[((m : Nat) : Int).toNat]?.getD default < B.length := by
        rw [hBl]; refine hask _ ?_
        rw [Int.toNat_natCast, List.getElem?_eq_getElem hlt]; simp
       refine Wc.seq (Wc.region rfl (Wl.q rfl (Qy.lss rfl rfl) (Wl.done (Ar.next (Wc.seq (Wc.condP rfl (by first | assumption | omega) ?_))))))
       refine Wc.skip (Ar.next (Wc.seq (Wc.block (Wc.seq (Wc.region rfl (Wl.q rfl (Qy.indexAddrO (α := Int) T.sl23 rfl rfl (by assumption) (by omega)) ?_))))))
       refine Wl.q rfl (Qy.loadO 904 0 T.one3 rfl rfl (by assumption) (by omega) rfl rfl) ?_
       refine Wl.q rfl (Qy.assign rfl) (Wl.done (Ar.next (Wc.region rfl (Wl.q rfl (Qy.load 2 T.one95 rfl rfl rfl) (Wl.q rfl (Qy.move rfl) (Wl.q rfl (Qy.indexAddrO (α := Bool) T.sl95 rfl rfl (by assumption) (by omega)) ?_))))))
       refine Wl.setO (z := _) 1 T.size4 rfl rfl rfl (by assumption) (by omega) rfl (fun ho3 => ?_)
       refine Wl.done ?_
       refine Ar.outNormal ?_
       refine Ar.next (Wc.region rfl (Wl.q rfl (Qy.add rfl rfl (by omega)) ?_))
       refine Wl.q rfl (Qy.move rfl) (Wl.done (Ar.reH 2 (.cells #[.slice (some ⟨b2, 0, none⟩) (B.set ((asks x.2)[((m : Nat) : Int).toNat]?.getD default).toNat true).length R0.length] 95) rfl (by rw [List.length_set]) ?_))
       refine Ar.again ((m + 1, _)) ?_ ?_ rfl ⟨rfl, rfl, rfl, rfl, trivial⟩ ⟨rfl, rfl, rfl, rfl, rfl, rfl, rfl, rfl, rfl, trivial⟩
       · exact ⟨by omega, by rw [setAll_step _ _ hlt, hB], ho3⟩
       · show (asks x.2).length - (m + 1) < (asks x.2).length - m
         omega
     · have hm : m = (asks x.2).length := by omega
       subst hm
       rw [List.take_length] at hB
       refine Wc.seq (Wc.region rfl (Wl.q rfl (Qy.lss rfl rfl) (Wl.done (Ar.next (Wc.seq (Wc.condN rfl (by first | assumption | omega) ?_))))))
       refine Wc.exit (Ar.passExit ?_)
       refine Ar.passExit ?_
       refine Ar.here ?_
       refine Ar.outNormal ?_
       refine Ar.roundEnd none (.inl ⟨rfl, rfl⟩) 900 rfl ⟨rfl, ((B, O.set x.1.toNat true), none), rfl, .inl ⟨rfl, rfl, ?_⟩⟩ (Hp.got ⟨rfl, rfl, rfl, rfl, rfl, rfl, rfl, trivial⟩)
       refine ⟨?_, hoB, ho1⟩
       rw [hst]; unfold needStep
       rw [if_pos (by simpa using hc1), hB]
   · obtain ⟨hn, hoA, hoO⟩ := hi
     rw [backL_len] at hn
     have hO : O = neededP p := congrArg Prod.snd hn
     subst hO
     refine Ar.outNormal ?_
     refine Ar.next (Wc.seq (Wc.region rfl (Wl.q rfl (Qy.load 4 T.one95 rfl rfl rfl) (Wl.q rfl (Qy.assign rfl) (Wl.done (Ar.next (Wc.ret (Ar.scopeR ?_))))))))
     refine Ar.collect (.inr rfl) 901 rfl ?_
     refine Ar.outOf (.inr rfl) ?_
     refine Ar.base (Ar.pick [3] (by decide) (Ar.out1 (.inr rfl) rfl (.tmp rfl) (Hp.sub_self 0 _) ?_))
     exact ⟨_, _, _, rfl, hoO, rfl, rfl⟩
   · exact hi.elim
end Go.Proofs.YtbppmiimeccclaaDoor
namespace Go.Proofs.YtbppmiimeccclaaDoor
open Go Go.Sl
set_option maxRecDepth 100000
set_option maxHeartbeats 2000000
theorem c56 (G : Imm) (i : Sl.Instr) : Does Tryd.prog 56 [.agg (Cells.enc i).toArray] G [] (fun v G' Ho => v = .bool (decide (i.op = 1 ∧ i.to = i.a)) ∧ G' = G ∧ Ho = []) := by
 refine Does.enter Tryd.func56 rfl Tryd.ntmps56 rfl (fun w => ?_)
 refine Wc.seq (Wc.region rfl ?_)
 refine Wl.box 0 rfl rfl rfl (fun b1 => ?_)
 refine Wl.q rfl (Qy.assign rfl) (Wl.done (Ar.next (Wc.seq (Wc.region rfl (Wl.q rfl (Qy.fieldAddr T.fa55_0 rfl) (Wl.q rfl (Qy.load 0 T.one3 rfl rfl rfl) (Wl.q rfl (Qy.eql rfl rfl) (Wl.q rfl (Qy.move rfl) ?_))))))))
 apply Wl.joinAnd 6 6 12 rfl
 intro hg1
 refine Wl.want rfl rfl (Wl.q rfl (Qy.fieldAddr T.fa55_1 rfl) (Wl.want rfl rfl (Wl.q rfl (Qy.load 0 T.one3 rfl rfl rfl) (Wl.want rfl rfl (Wl.q rfl (Qy.fieldAddr T.fa55_2 rfl) (Wl.want rfl rfl (Wl.q rfl (Qy.load 0 T.one3 rfl rfl rfl) (Wl.want rfl rfl (Wl.q rfl (Qy.eql rfl rfl) ?_)))))))))
 refine Wl.q rfl (Qy.pick rfl rfl) ?_
 exact Wl.back 6 0 rfl rfl rfl rfl rfl
 intro hg1
 refine Wl.pass rfl rfl rfl (Wl.pass rfl rfl rfl (Wl.pass rfl rfl rfl (Wl.pass rfl rfl rfl (Wl.pass rfl rfl rfl (Wl.q rfl (Qy.pick rfl rfl) ?_)))))
 exact Wl.back 6 0 rfl rfl rfl rfl rfl
 refine Wl.q rfl (Qy.assign rfl) (Wl.done (Ar.next (Wc.ret ?_)))
 refine Ar.out1 (.inr rfl) (Ho := Hp.only _ []) rfl (.tmp rfl) (Hp.sub_only _ _) ?_
 exact ⟨rfl, rfl, rfl⟩
def keepTo (p : PV) : Nat → List Sl.Instr
 | 0 => []
 | k + 1 => if (neededP p)[((k : Nat) : Int).toNat]?.getD default = true ∧ ¬ ((p.code[((k : Nat) : Int).toNat]?.getD default).op = 1 ∧ (p.code[((k : Nat) : Int).toNat]?.getD default).to = (p.code[((k : Nat) : Int).toNat]?.getD default).a)
  then keepTo p k ++ [p.code[((k : Nat) : Int).toNat]?.getD default] else keepTo p k
theorem keepTo_len (p : PV) (k : Nat) : (keepTo p k).length ≤ k := by
 induction k with
 | zero => simp [keepTo]
 | succ k ih =>
   simp only [keepTo]
   split
   · rw [List.length_append]; simp only [List.length_cons, List.length_nil]; omega
   · omega
def deadP (p : PV) : PV := ⟨p.ins, p.regs, keepTo p p.code.length, p.outs⟩
theorem c25R (G : Imm) (p : PV) (ac ao : Option Addr) (cc co : Nat) (hc : Arr G ac p.code) (ho : Arr G ao p.outs) (h1 : p.code.length ≤ 1099511627776) (h2 : p.outs.length ≤ 1099511627776) (hR : rightP p = true) :
 Does Tryd.prog 25 [.agg #[.int .i64 p.ins, .int .i64 p.regs, .slice ac p.code.length cc, .slice ao p.outs.length co]] G [] (fun v G' Ho =>
  ∃ bc bo dc do_ j1 j2, v = .tuple #[.agg #[.int .i64 p.ins, .int .i64 p.regs, .slice bc (deadP p).code.length dc, .slice bo p.outs.length do_], .int .i64 0] ∧
   OwnA bc dc (deadP p).code j1 ∧ OwnA bo do_ p.outs j2 ∧ Ho = [(0, bc.map (·.block), Row 55 (deadP p).code j1), (1, bo.map (·.block), Row 3 p.outs j2)] ∧ G' = G) := by
 obtain ⟨r1, r2, r3, r4, r5, r6, r7, r8⟩ := right_facts hR
 have hcheck : (checkP p).2 = false := by simpa [rightP] using hR
 refine Does.enter Tryd.func25 rfl Tryd.ntmps25 rfl (fun w => ?_)
 refine Wc.nilRow 0 (Row 55 ([] : List Sl.Instr) []) ?_
 refine Wc.seq (Wc.region rfl ?_)
 refine Wl.box 1 rfl rfl rfl (fun b1 => ?_)
 refine Wl.alloc 2 rfl T.zero25 (fun b2 => ?_)
 refine Wl.q rfl (Qy.assign rfl) (Wl.done (Ar.next (Wc.seq (Wc.region rfl (Wl.q rfl (Qy.loadAll 1 T.agg25 rfl rfl rfl) ?_)))))
 refine Wl.call0 rfl T.fn8 rfl (c8 _ _ _ _ _ _ (by assumption) (by assumption) (by omega) (by omega)) ?_
 refine Wl.q rfl (Qy.move rfl) (Wl.q rfl (Qy.extract rfl rfl) (Wl.q rfl (Qy.extract rfl rfl) (Wl.q rfl (Qy.assign rfl) (Wl.q rfl (Qy.assign rfl) (Wl.done (Ar.next (Wc.seq (Wc.seq (Wc.region rfl (Wl.q rfl (Qy.move rfl) (Wl.q rfl (Qy.neq rfl rfl) (Wl.done (Ar.next ?_)))))))))))))
 refine Wc.cond rfl (fun hc1 => ?_) (fun hc1 => ?_)
 refine Wc.seq (Wc.region rfl (Wl.q rfl (Qy.build (cs := [_, _, _, _]) T.st25 rfl rfl rfl) ?_))
 refine Wl.q rfl (Qy.move rfl) ?_
 refine Wl.storeAll 2 T.size25 rfl rfl rfl rfl rfl rfl ?_
 refine Wl.q rfl (Qy.assign rfl) (Wl.done (Ar.next (Wc.ret (Ar.passRet ?_))))
 rotate_left
 refine Wc.skip (Ar.next (Wc.seq (Wc.region rfl (Wl.q rfl (Qy.assign rfl) (Wl.done (Ar.next (Wc.seq (Wc.seq (Wc.region rfl (Wl.q rfl (Qy.loadAll 1 T.agg25 rfl rfl rfl) ?_))))))))))
 refine Wl.call 3 rfl T.fn55 rfl (c55 _ _ _ _ _ _ (by assumption) (by assumption) (by omega) (by omega) (by assumption)) (tags_of trivial) (fun v1 G1 Ho1 hle1 hp => ?_)
 obtain ⟨nb1, nc1, nj1, rfl, hnb1, rfl, rfl⟩ := hp
 refine Wl.q rfl (Qy.len T.sl95 rfl) (Wl.q rfl (Qy.move rfl) (Wl.done (Ar.next (Wc.block ?_))))
 rotate_left
 · rw [hcheck] at hc1; exact absurd rfl hc1
 have hnl : (neededP p).length = p.code.length := (needTo_len p _).2
 refine Wc.loop (ι := Nat × List Sl.Instr × (Option Addr × Nat × List Value)) (fun (k, xs, (b, d, j)) => ([(21, .int .i64 (k : Int)), (6, .slice b xs.length d), (20, Go.Value.int Go.IntKind.i64 (↑(List.length (neededP p)) : Int)), (19, Go.Value.slice nb1 (List.length (neededP p)) nc1), (3, Go.Value.int Go.IntKind.i64 0), (2, Go.Value.pointer (Option.some (Go.Addr.mk b2 0 Option.none))), (1, Go.Value.pointer (Option.some (Go.Addr.mk b1 0 Option.none)))], [(0, b.map (·.block), Row 55 xs j), (3, Option.map (fun x => Go.Addr.block x) nb1, Go.Sl.Row (α := Bool) 4 (neededP p) (nj1)), (2, Option.some b2, Go.Obj.cells #[Go.Value.int Go.IntKind.i64 0, Go.Value.int Go.IntKind.i64 0, Go.Value.slice Option.none 0 0, Go.Value.slice Option.none 0 0] 25), (1, Option.some b1, Go.Obj.cells #[Go.Value.int Go.IntKind.i64 (PV.ins p), Go.Value.int Go.IntKind.i64 (PV.regs p), Go.Value.slice ac (List.length (PV.code p)) cc, Go.Value.slice ao (List.length (PV.outs p)) co] 25)])) (fun (k, xs, (b, d, j)) => k ≤ p.code.length ∧ xs = keepTo p k ∧ OwnA b d xs j) (fun (k, xs, (b, d, j)) => p.code.length - k) ((0, [], (none, 0, []))) (⟨Nat.zero_le _, rfl, OwnA.nil⟩) ⟨rfl, rfl, rfl, rfl, rfl, rfl, rfl, trivial⟩ ⟨rfl, rfl, rfl, rfl, trivial⟩ (fun ⟨k, xs, (b, d, j)⟩ => fun (hk : k ≤ p.code.length ∧ xs = keepTo p k ∧ OwnA b d xs j) => ?_)
 obtain ⟨hk1, hxs, hob⟩ := hk
 have hxl : xs.length ≤ k := by rw [hxs]; exact keepTo_len p k
 rcases Nat.lt_or_ge k p.code.length with hlt | hge
 · have hst : keepTo p (k + 1) = if (neededP p)[((k : Nat) : Int).toNat]?.getD default = true ∧ ¬ ((p.code[((k : Nat) : Int).toNat]?.getD default).op = 1 ∧ (p.code[((k : Nat) : Int).toNat]?.getD default).to = (p.code[((k : Nat) : Int).toNat]?.getD default).a)
    then keepTo p k ++ [p.code[((k : Nat) : Int).toNat]?.getD default] else keepTo p k := rfl
   refine Wc.seq (Wc.region rfl (Wl.q rfl (Qy.lss rfl rfl) (Wl.done (Ar.next (Wc.seq (Wc.condP rfl (by first | assumption | omega) ?_))))))
   refine Wc.skip (Ar.next (Wc.seq (Wc.block (Wc.seq (Wc.region rfl (Wl.q rfl (Qy.move rfl) (Wl.q rfl (Qy.indexAddrO (α := Bool) T.sl95 rfl rfl (by assumption) (by omega)) ?_)))))))
   refine Wl.q rfl (Qy.loadO 3 0 T.one4 rfl rfl (by assumption) (by omega) rfl rfl) ?_
   refine Wl.q rfl (Qy.assign rfl) (Wl.q rfl (Qy.assign rfl) (Wl.done (Ar.next (Wc.seq (Wc.region rfl (Wl.q rfl (Qy.move rfl) (Wl.q rfl (Qy.move rfl) ?_)))))))
   refine Wl.casesB 27 rfl (fun hg1 => ?_) (fun hg1 => ?_)
   refine Wl.want rfl rfl (Wl.q rfl (Qy.fieldAddr T.fa25_2 rfl) (Wl.want rfl rfl (Wl.q rfl (Qy.load 1 T.one22 rfl rfl rfl) (Wl.want rfl rfl (Wl.q rfl (Qy.move rfl) (Wl.want rfl rfl (Wl.q rfl (Qy.at (α := Instr) T.sl22 rfl rfl (by assumption) (by omega)) ?_)))))))
   refine Wl.want rfl rfl (Wl.q rfl (Qy.loadsG T.agg55 rfl (Arr.elem (by assumption) (by omega)) rfl) ?_)
   refine Wl.want rfl rfl ?_
   refine Wl.call0 rfl T.fn56 rfl (c56 _ _) ?_
   refine Wl.want rfl rfl (Wl.q rfl (Qy.notD rfl) (Wl.q rfl (Qy.pick rfl rfl) (Wl.done (Ar.next ?_))))
   refine Wc.cond rfl (fun hc2 => ?_) (fun hc2 => ?_)
   refine Wc.region rfl (Wl.q rfl (Qy.move rfl) (Wl.q rfl (Qy.fieldAddr T.fa25_2 rfl) (Wl.q rfl (Qy.load 1 T.one22 rfl rfl rfl) (Wl.q rfl (Qy.move rfl) (Wl.q rfl (Qy.at (α := Instr) T.sl22 rfl rfl (by assumption) (by omega)) ?_)))))
   refine Wl.q rfl (Qy.loadsG T.agg55 rfl (Arr.elem (by assumption) (by omega)) rfl) ?_
   refine Wl.lit (α := Instr) 4 [(Option.getD (PV.code p)[Int.toNat (↑k : Int)]? Inhabited.default)] rfl T.sl22 T.el55 rfl rfl rfl rfl rfl (fun b3 => ?_)
   refine Wl.append (α := Instr) 0 rfl T.sl22 T.el55 rfl rfl rfl (by first | assumption | exact OwnA.nil | exact OwnA.made (by simp)) (Src.row 4 rfl) (by first | omega | (simp only [List.length_append, List.length_cons, List.length_nil, maxLen]; omega)) (by first | omega | (simp only [List.length_append, List.length_cons, List.length_nil, maxLen]; omega)) (fun a1 c1 junk1 ho1 => ?_)
   refine Wl.q rfl (Qy.assign rfl) (Wl.done ?_)
   refine Ar.outNormal ?_
   refine Ar.next (Wc.region rfl (Wl.q rfl (Qy.add rfl rfl (by omega)) ?_))
   refine Wl.q rfl (Qy.move rfl) (Wl.done ?_)
   rotate_left
   refine Wc.skip ?_
   refine Ar.outNormal ?_
   refine Ar.next (Wc.region rfl (Wl.q rfl (Qy.add rfl rfl (by omega)) ?_))
   refine Wl.q rfl (Qy.move rfl) (Wl.done ?_)
   rotate_left
   refine Wl.pass rfl rfl rfl (Wl.pass rfl rfl rfl (Wl.pass rfl rfl rfl (Wl.pass rfl rfl rfl (Wl.pass rfl rfl rfl (Wl.pass rfl rfl rfl (Wl.pass rfl rfl rfl (Wl.q rfl (Qy.pick rfl rfl) (Wl.done (Ar.next (Wc.condF rfl ?_))))))))))
   refine Wc.skip ?_
   refine Ar.outNormal ?_
   refine Ar.next (Wc.region rfl (Wl.q rfl (Qy.add rfl rfl (by omega)) ?_))
   refine Wl.q rfl (Qy.move rfl) (Wl.done ?_)
   rotate_left
   · refine Ar.again ((k + 1, _, (a1, c1, junk1))) ?_ ?_ rfl ⟨rfl, rfl, rfl, rfl, rfl, rfl, rfl, trivial⟩ ⟨rfl, rfl, rfl, rfl, trivial⟩
     · exact ⟨by omega, by rw [hst, if_pos ⟨hg1, hc2⟩, hxs], ho1⟩
     · show p.code.length - (k + 1) < p.code.length - k
       omega
   · refine Ar.again ((k + 1, xs, (b, d, j))) ?_ ?_ rfl ⟨rfl, rfl, rfl, rfl, rfl, rfl, rfl, trivial⟩ ⟨rfl, rfl, rfl, rfl, trivial⟩
     · exact ⟨by omega, by rw [hst, if_neg (fun h => hc2 h.2), hxs], hob⟩
     · show p.code.length - (k + 1) < p.code.length - k
       omega
   · refine Ar.again ((k + 1, xs, (b, d, j))) ?_ ?_ rfl ⟨rfl, rfl, rfl, rfl, rfl, rfl, rfl, trivial⟩ ⟨rfl, rfl, rfl, rfl, trivial⟩
     · exact ⟨by omega, by rw [hst, if_neg (fun h => by rw [hg1] at h; cases h.1), hxs], hob⟩
     · show p.code.length - (k + 1) < p.code.length - k
       omega
 · have hk : k = p.code.length := by omega
   subst hk
   have hxs' : xs = (deadP p).code := hxs
   rw [hxs'] at hob ⊢
   refine Wc.seq (Wc.region rfl (Wl.q rfl (Qy.lss rfl rfl) (Wl.done (Ar.next (Wc.seq (Wc.condN rfl (by first | assumption | omega) ?_))))))
   refine Wc.exit (Ar.passExit ?_)
   refine Ar.passExit ?_
   refine Ar.here ?_
   refine Ar.next (Wc.seq (Wc.draw [1, 2, 3, 0] [(2, 9)] T.mixed rfl ?_))
   refine Gm.q 0 [] (by kernel_rfl) rfl rfl (Qy.fieldAddr T.fa25_0 rfl) (Gm.q 1 [1] (by kernel_rfl) rfl rfl (Qy.load 1 T.one3 rfl rfl rfl) (Gm.q 2 [] (by kernel_rfl) rfl rfl (Qy.fieldAddr T.fa25_1 rfl) (Gm.q 3 [1] (by kernel_rfl) rfl rfl (Qy.load 1 T.one3 rfl rfl rfl) ?_)))
   refine Gm.q 4 [] (by kernel_rfl) rfl rfl (Qy.move rfl) (Gm.q 5 [] (by kernel_rfl) rfl rfl (Qy.fieldAddr T.fa25_3 rfl) (Gm.q 6 [1] (by kernel_rfl) rfl rfl (Qy.load 1 T.one23 rfl rfl rfl) (Gm.one 7 ⟨rfl, rfl, rfl, rfl, trivial⟩ (by first | exact Imm.le_refl _ | assumption) (by kernel_rfl) rfl ?_)))
   refine Wl.call 4 rfl T.fn32 rfl (c32 _ _ _ _ (by assumption) (by omega)) (tags_of trivial) (fun v2 G2 Ho2 hle2 hp => ?_)
   obtain ⟨lb2, ld2, lj2, rfl, hlb2, rfl, rfl⟩ := hp
   refine Wl.on0 ?_
   refine Gm.q 8 [] (by kernel_rfl) rfl rfl (Qy.build (cs := [_, _, _, _]) T.st25 rfl rfl rfl) ?_
   refine Gm.one 9 ⟨rfl, rfl, rfl, rfl, trivial⟩ (by first | exact Imm.le_refl _ | assumption) (by kernel_rfl) rfl ?_
   refine Wl.storeAll 2 T.size25 rfl rfl rfl rfl rfl rfl ?_
   refine Wl.on0 ?_
   refine Gm.q 10 [] (by kernel_rfl) rfl rfl (Qy.assign rfl) (Gm.doneA (by kernel_rfl) ⟨rfl, rfl, rfl, trivial⟩ (by first | exact Imm.le_refl _ | assumption) ?_)
   refine Ar.next (Wc.ret (Ar.pick [0, 4, 2] (by decide) (Ar.out2 (.inr rfl) (Ho := Hp.only _ [0, 1]) rfl (.agg 2 rfl rfl T.agg25) (.tmp rfl) (Hp.sub_only _ _) ?_)))
   exact ⟨_, _, _, _, _, _, rfl, hob, hlb2, rfl, rfl⟩
end Go.Proofs.YtbppmiimeccclaaDoor
namespace Go.Proofs.YtbppmiimeccclaaDoor
open Go Go.Sl
set_option maxRecDepth 100000
set_option maxHeartbeats 2000000
def doesNothing (i : Sl.Instr) : Prop := i.op = 1 ∧ i.to = i.a
instance (i : Sl.Instr) : Decidable (doesNothing i) := inferInstanceAs (Decidable (_ ∧ _))
end Go.Proofs.YtbppmiimeccclaaDoor
namespace Go.Proofs.YtbppmiimeccclaaDoor
open Go Go.Sl
set_option maxRecDepth 100000
set_option maxHeartbeats 2000000
theorem keepTo_mem (p : PV) : ∀ k, k ≤ p.code.length → ∀ i ∈ keepTo p k, i ∈ p.code
 | 0, _, i, h => by simp [keepTo] at h
 | k + 1, hk, i, h => by
   have hlt : k < p.code.length := by omega
   have hel : p.code[((k : Nat) : Int).toNat]?.getD default ∈ p.code := by rw [Int.toNat_natCast, List.getElem?_eq_getElem hlt, Option.getD_some]; exact List.getElem_mem _
   simp only [keepTo] at h
   split at h
   · rw [List.mem_append, List.mem_singleton] at h
     rcases h with h | h
     · exact keepTo_mem p k (by omega) i h
     · rw [h]; exact hel
   · exact keepTo_mem p k (by omega) i h
theorem right_ofN {q : PV} (h : 1 ≤ q.ins ∧ q.ins ≤ q.regs ∧ q.regs ≤ 128 ∧ q.code.length ≤ 16384 ∧ 1 ≤ q.outs.length ∧ q.outs.length ≤ 128) (ho : ∀ r ∈ q.outs, 0 ≤ r ∧ r < q.regs) (hc : ∀ i ∈ q.code, mayOk i q.regs = true) : rightP q = true := by
 have h1 : headOk q = true := by
  unfold headOk
  rw [Bool.and_eq_true, decide_eq_true_eq, List.all_eq_true]
  exact ⟨by omega, fun r hr => by rw [decide_eq_true_eq]; exact ho r hr⟩
 have h2 : badAt q = none := by
  unfold badAt
  rw [List.findIdx?_eq_none_iff]
  intro i hi
  rw [hc i hi]; rfl
 unfold rightP checkP
 rw [if_neg (by rw [h1]; decide), h2]; rfl
theorem dead_right {p : PV} (h : rightP p = true) : rightP (deadP p) = true := by
 obtain ⟨r1, r2, r3, r4, r5, r6, r7, r8⟩ := right_facts h
 have hl := keepTo_len p p.code.length
 exact right_ofN ⟨r1, r2, r3, by show (keepTo p p.code.length).length ≤ 16384; omega, r5, r6⟩ r7 (fun i hi => r8 i (keepTo_mem p _ (Nat.le_refl _) i hi))
end Go.Proofs.YtbppmiimeccclaaDoor
namespace Go.Proofs.YtbppmiimeccclaaDoor
open Go Go.Sl
set_option linter.unusedVariables false
def nf (p : PV) : List Sl.Instr → List Bool × List Bool
 | [] => (setAll (List.replicate p.regs.toNat false) p.outs, [])
 | i :: l => if (nf p l).1[i.to.toNat]?.getD default = true then (setAll ((nf p l).1.set i.to.toNat false) (asks i), true :: (nf p l).2) else ((nf p l).1, false :: (nf p l).2)
theorem nf_len (p : PV) (l : List Sl.Instr) : (nf p l).1.length = p.regs.toNat ∧ (nf p l).2.length = l.length := by
 induction l with
 | nil => simp [nf, setAll_len]
 | cons i l ih =>
   simp only [nf]
   split
   · simp [setAll_len, ih]
   · simp [ih]
theorem needTo_nf (p : PV) : ∀ j, j ≤ p.code.length → needTo p j = ((nf p (p.code.drop (p.code.length - j))).1, List.replicate (p.code.length - j) false ++ (nf p (p.code.drop (p.code.length - j))).2)
 | 0, _ => by simp [needTo, nf]
 | j + 1, hj => by
   have ih := needTo_nf p j (by omega)
   obtain ⟨k, hk⟩ : ∃ k, k = p.code.length - (j + 1) := ⟨_, rfl⟩
   have hk1 : p.code.length - j = k + 1 := by omega
   have hk2 : p.code.length - 1 - j = k := by omega
   have hlt : k < p.code.length := by omega
   rw [hk1] at ih
   rw [← hk]
   have hd : p.code.drop k = p.code[k]?.getD default :: p.code.drop (k + 1) := by
    rw [List.getElem?_eq_getElem hlt, Option.getD_some]; exact List.drop_eq_getElem_cons hlt
   show needStep (needTo p j) ((p.code.length - 1 - j : Nat) : Int) (p.code[p.code.length - 1 - j]?.getD default) = _
   rw [hk2, ih, hd]
   generalize p.code[k]?.getD default = i
   generalize p.code.drop (k + 1) = l
   unfold needStep
   simp only [nf]
   rw [List.replicate_succ']
   split
   · simp only [Int.toNat_natCast]
     rw [List.append_assoc, List.set_append_right _ _ (by simp)]
     simp
   · simp
theorem needed_nf (p : PV) : neededP p = (nf p p.code).2 := by
 unfold neededP
 rw [needTo_nf p p.code.length (Nat.le_refl _)]
 simp
def leaves (x : Sl.Instr × Bool) : Option Sl.Instr := if x.2 = true ∧ ¬ doesNothing x.1 then some x.1 else none
theorem leaves_pos {i : Sl.Instr} {b : Bool} (h : b = true ∧ ¬ doesNothing i) : leaves (i, b) = some i := if_pos h
theorem leaves_neg {i : Sl.Instr} {b : Bool} (h : ¬ (b = true ∧ ¬ doesNothing i)) : leaves (i, b) = none := if_neg h
def keepF (p : PV) (l : List Sl.Instr) : List Sl.Instr := (l.zip (nf p l).2).filterMap leaves
theorem keepTo_zip (p : PV) : ∀ k, k ≤ p.code.length → keepTo p k = ((p.code.take k).zip ((neededP p).take k)).filterMap leaves
 | 0, _ => by simp [keepTo]
 | k + 1, hk => by
   have hlt : k < p.code.length := by omega
   have hnl : (neededP p).length = p.code.length := (needTo_len p _).2
   have hlt2 : k < (neededP p).length := by omega
   have e1 : p.code.take (k + 1) = p.code.take k ++ [p.code[((k : Nat) : Int).toNat]?.getD default] := by
    rw [List.take_add_one, Int.toNat_natCast, List.getElem?_eq_getElem hlt]; rfl
   have e2 : (neededP p).take (k + 1) = (neededP p).take k ++ [(neededP p)[((k : Nat) : Int).toNat]?.getD default] := by
    rw [List.take_add_one, Int.toNat_natCast, List.getElem?_eq_getElem hlt2]; rfl
   rw [e1, e2, List.zip_append (by simp; omega), List.filterMap_append, ← keepTo_zip p k (by omega)]
   simp only [List.zip_cons_cons, List.zip_nil_right, List.filterMap_cons, List.filterMap_nil]
   by_cases h : (neededP p)[((k : Nat) : Int).toNat]?.getD default = true ∧ ¬ doesNothing (p.code[((k : Nat) : Int).toNat]?.getD default)
   · rw [leaves_pos h]; exact if_pos h
   · rw [leaves_neg h]
     show keepTo p (k + 1) = keepTo p k ++ []
     rw [List.append_nil]; exact if_neg h
theorem dead_code (p : PV) : (deadP p).code = keepF p p.code := by
 show keepTo p p.code.length = _
 have hnl : (neededP p).length = p.code.length := (needTo_len p _).2
 rw [keepTo_zip p _ (Nat.le_refl _), List.take_length, ← hnl, List.take_length, needed_nf]
 rfl
end Go.Proofs.YtbppmiimeccclaaDoor
namespace Go.Proofs.YtbppmiimeccclaaDoor
open Go Go.Sl
set_option linter.unusedVariables false
def asksFrom (outs : List Int) (r : Int) : List (Sl.Instr × Bool) → Bool
 | [] => decide (r ∈ outs)
 | (i, b) :: l => (b && decide (r ∈ asks i)) || (!decide (i.to = r) && asksFrom outs r l)
theorem setAll_get : ∀ (rs : List Int) (l : List Bool) (k : Nat), k < l.length → (∀ r ∈ rs, 0 ≤ r) → (setAll l rs)[k]?.getD default = (l[k]?.getD default || decide ((k : Int) ∈ rs))
 | [], l, k, hk, _ => by simp [setAll]
 | r :: rs, l, k, hk, hr => by
   have ih := setAll_get rs (l.set r.toNat true) k (by simpa using hk) (fun x hx => hr x (by simp [hx]))
   have e : setAll l (r :: rs) = setAll (l.set r.toNat true) rs := rfl
   rw [e, ih, List.getElem?_set]
   have h0 := hr r (by simp)
   by_cases h : r.toNat = k
   · have h1 : (k : Int) = r := by omega
     have h2 : (k : Int) ∈ r :: rs := by rw [h1]; simp
     rw [if_pos h, if_pos (by omega), decide_eq_true h2]
     simp
   · have h1 : (k : Int) ≠ r := by omega
     rw [if_neg h]
     simp [h1]
theorem asks_pos {i : Sl.Instr} {regs : Int} (h : mayOk i regs = true) : ∀ r ∈ asks i, 0 ≤ r := fun r hr => (asks_in h r hr).1
theorem step_get {A : List Bool} {i : Sl.Instr} {regs : Int} (hA : (A.length : Int) = regs) (hm : mayOk i regs = true) {r : Int} (hr : 0 ≤ r ∧ r < regs) :
 (setAll (A.set i.to.toNat false) (asks i))[r.toNat]?.getD default = (decide (r ∈ asks i) || (!decide (i.to = r) && A[r.toNat]?.getD default)) := by
 have hto : 0 ≤ i.to ∧ i.to < regs := by rw [mayOk_iff] at hm; exact ⟨hm.1.2.2.1, hm.1.2.2.2.1⟩
 rw [setAll_get _ _ _ (by rw [List.length_set]; omega) (asks_pos hm), List.getElem?_set]
 have e1 : ((r.toNat : Nat) : Int) = r := by omega
 rw [e1]
 by_cases h : i.to = r
 · subst h
   rw [if_pos rfl, if_pos (by omega)]
   simp
 · rw [if_neg (by omega)]
   simp [h, Bool.or_comm]
theorem start_get {regs : Int} (h0 : 0 ≤ regs) {outs : List Int} (ho : ∀ r ∈ outs, 0 ≤ r ∧ r < regs) {r : Int} (hr : 0 ≤ r ∧ r < regs) : (setAll (List.replicate regs.toNat false) outs)[r.toNat]?.getD default = decide (r ∈ outs) := by
 rw [setAll_get _ _ _ (by simp; omega) (fun x hx => (ho x hx).1)]
 have e1 : ((r.toNat : Nat) : Int) = r := by omega
 rw [e1]
 have : (List.replicate regs.toNat false)[r.toNat]?.getD default = false := by
  rw [List.getElem?_replicate]; split <;> rfl
 rw [this, Bool.false_or]
theorem nf_get {p : PV} (h0 : 0 ≤ p.regs) (ho : ∀ r ∈ p.outs, 0 ≤ r ∧ r < p.regs) : ∀ (l : List Sl.Instr), (∀ i ∈ l, mayOk i p.regs = true) → ∀ r, 0 ≤ r ∧ r < p.regs → (nf p l).1[r.toNat]?.getD default = asksFrom p.outs r (l.zip (nf p l).2)
 | [], _, r, hr => by simpa [nf, asksFrom] using start_get h0 ho hr
 | i :: l, hl, r, hr => by
   have ih := nf_get h0 ho l (fun j hj => hl j (by simp [hj]))
   have hm := hl i (by simp)
   have hto : 0 ≤ i.to ∧ i.to < p.regs := by rw [mayOk_iff] at hm; exact ⟨hm.1.2.2.1, hm.1.2.2.2.1⟩
   have hlen : ((nf p l).1.length : Int) = p.regs := by rw [(nf_len p l).1]; omega
   by_cases h : (nf p l).1[i.to.toNat]?.getD default = true
   · have e : nf p (i :: l) = (setAll ((nf p l).1.set i.to.toNat false) (asks i), true :: (nf p l).2) := by simp only [nf]; rw [if_pos h]
     rw [e, step_get hlen hm hr, ih r hr]
     simp [asksFrom]
   · have e : nf p (i :: l) = ((nf p l).1, false :: (nf p l).2) := by simp only [nf]; rw [if_neg h]
     rw [e]
     show (nf p l).1[r.toNat]?.getD default = asksFrom p.outs r ((i, false) :: l.zip (nf p l).2)
     simp only [asksFrom, Bool.false_and, Bool.false_or]
     by_cases ht : i.to = r
     · subst ht
       simpa using h
     · rw [ih r hr]; simp [ht]
def rf (p : PV) : List Sl.Instr → List Bool
 | [] => []
 | i :: l => asksFrom p.outs i.to (l.zip (rf p l)) :: rf p l
theorem rf_nf {p : PV} (h0 : 0 ≤ p.regs) (ho : ∀ r ∈ p.outs, 0 ≤ r ∧ r < p.regs) : ∀ (l : List Sl.Instr), (∀ i ∈ l, mayOk i p.regs = true) → rf p l = (nf p l).2
 | [], _ => by simp [rf, nf]
 | i :: l, hl => by
   have ih := rf_nf h0 ho l (fun j hj => hl j (by simp [hj]))
   have hm := hl i (by simp)
   have hto : 0 ≤ i.to ∧ i.to < p.regs := by rw [mayOk_iff] at hm; exact ⟨hm.1.2.2.1, hm.1.2.2.2.1⟩
   have hg := nf_get h0 ho l (fun j hj => hl j (by simp [hj])) i.to hto
   simp only [rf]
   rw [ih, ← hg]
   by_cases h : (nf p l).1[i.to.toNat]?.getD default = true
   · have e : nf p (i :: l) = (setAll ((nf p l).1.set i.to.toNat false) (asks i), true :: (nf p l).2) := by simp only [nf]; rw [if_pos h]
     rw [e, h]
   · have e : nf p (i :: l) = ((nf p l).1, false :: (nf p l).2) := by simp only [nf]; rw [if_neg h]
     have h' : (nf p l).1[i.to.toNat]?.getD default = false := by simpa using h
     rw [e, h']
theorem needed_rf {p : PV} (h : rightP p = true) : neededP p = rf p p.code := by
 obtain ⟨r1, r2, r3, r4, r5, r6, r7, r8⟩ := right_facts h
 rw [needed_nf, rf_nf (by omega) r7 p.code r8]
theorem rf_drop (p : PV) : ∀ (l : List Sl.Instr) (m : Nat), (rf p l).drop m = rf p (l.drop m)
 | [], m => by simp [rf]
 | i :: l, 0 => by simp
 | i :: l, m + 1 => by
   show (_ :: rf p l).drop (m + 1) = rf p ((i :: l).drop (m + 1))
   rw [List.drop_succ_cons, List.drop_succ_cons]
   exact rf_drop p l m
def fromAt (p : PV) (r : Int) (j : Nat) : Bool := asksFrom p.outs r ((p.code.drop j).zip (rf p (p.code.drop j)))
theorem fromAt_end (p : PV) (r : Int) {j : Nat} (h : p.code.length ≤ j) : fromAt p r j = decide (r ∈ p.outs) := by
 unfold fromAt; rw [List.drop_eq_nil_of_le h]; rfl
theorem rf_at (p : PV) {j : Nat} (h : j < p.code.length) : rf p (p.code.drop j) = fromAt p (p.code[j]?.getD default).to (j + 1) :: rf p (p.code.drop (j + 1)) := by
 rw [List.drop_eq_getElem_cons h, List.getElem?_eq_getElem h, Option.getD_some]; rfl
theorem fromAt_step (p : PV) (r : Int) {j : Nat} (h : j < p.code.length) : fromAt p r j = ((fromAt p (p.code[j]?.getD default).to (j + 1) && decide (r ∈ asks (p.code[j]?.getD default))) || (!decide ((p.code[j]?.getD default).to = r) && fromAt p r (j + 1))) := by
 have h1 := rf_at p h
 unfold fromAt
 rw [h1, List.drop_eq_getElem_cons h, List.zip_cons_cons, List.getElem?_eq_getElem h, Option.getD_some]
 rfl
end Go.Proofs.YtbppmiimeccclaaDoor
namespace Go.Proofs.YtbppmiimeccclaaDoor
open Go Go.Sl
set_option maxRecDepth 100000
set_option maxHeartbeats 2000000
theorem c79 (G : Imm) (p : PV) (ac ao : Option Addr) (cc co : Nat) (hc : Arr G ac p.code) (ho : Arr G ao p.outs) (h1 : p.code.length ≤ 1099511627776) (h2 : p.outs.length ≤ 1099511627776) (hR : rightP p = true) :
 Does Tryd.prog 79 [.agg #[.int .i64 p.ins, .int .i64 p.regs, .slice ac p.code.length cc, .slice ao p.outs.length co]] G [] (fun v G' Ho => ∃ b c j, v = .tuple #[.slice b (neededP p).length c, .int .i64 0] ∧ OwnA b c (neededP p) j ∧ Ho = [(0, b.map (·.block), Row 4 (neededP p) j)] ∧ G' = G) := by
 obtain ⟨r1, r2, r3, r4, r5, r6, r7, r8⟩ := right_facts hR
 refine Does.enterM Tryd.func79 rfl Tryd.ntmps79 rfl (fun w => ?_)
 refine Wc.seq (Wc.region rfl ?_)
 refine Wl.box 0 rfl rfl rfl (fun b1 => ?_)
 refine Wl.q rfl (Qy.assign rfl) (Wl.q rfl (Qy.assign rfl) (Wl.done (Ar.next (Wc.seq (Wc.seq (Wc.region rfl (Wl.q rfl (Qy.loadAll 0 T.agg25 rfl rfl rfl) ?_)))))))
 refine Wl.call0 rfl T.fn97 rfl (c97 _ _ _ _ _ _ (by assumption) (by assumption) (by omega) (by omega)) ?_
 refine Wl.q rfl (Qy.notD rfl) (Wl.done (Ar.next ?_))
 refine Wc.cond rfl (fun hc1 => ?_) (fun hc1 => ?_)
 refine Wc.seq (Wc.region rfl (Wl.q rfl (Qy.assign rfl) (Wl.q rfl (Qy.assign rfl) (Wl.done (Ar.next (Wc.ret (Ar.passRet ?_)))))))
 refine Ar.outOf (.inr rfl) ?_
 rotate_left
 refine Wc.skip (Ar.next (Wc.seq (Wc.region rfl (Wl.q rfl (Qy.fieldAddr T.fa25_2 rfl) (Wl.q rfl (Qy.load 0 T.one22 rfl rfl rfl) (Wl.q rfl (Qy.len T.sl22 rfl) ?_))))))
 refine Wl.make (α := Bool) 1 rfl T.sl95 T.el4 rfl rfl (by omega) (by omega) (fun b2 => ?_)
 refine Wl.alloc 2 rfl T.zero95 (fun b3 => ?_)
 refine Wl.store 2 T.one95 rfl rfl rfl rfl rfl ?_
 refine Wl.done (Ar.next (Wc.seq (Wc.region rfl (Wl.q rfl (Qy.fieldAddr T.fa25_1 rfl) (Wl.q rfl (Qy.load 0 T.one3 rfl rfl rfl) ?_)))))
 refine Wl.make (α := Bool) 3 rfl T.sl95 T.el4 rfl rfl (by omega) (by omega) (fun b4 => ?_)
 refine Wl.alloc 4 rfl T.zero95 (fun b5 => ?_)
 refine Wl.store 4 T.one95 rfl rfl rfl rfl rfl ?_
 refine Wl.done (Ar.next (Wc.seq (Wc.seq (Wc.region rfl (Wl.q rfl (Qy.fieldAddr T.fa25_3 rfl) (Wl.q rfl (Qy.load 0 T.one23 rfl rfl rfl) (Wl.q rfl (Qy.len T.sl23 rfl) (Wl.q rfl (Qy.move rfl) (Wl.done (Ar.next (Wc.block ?_)))))))))))
 rotate_left
 · exact absurd hR hc1
 generalize hR0 : List.replicate p.regs.toNat (default : Bool) = R0 at *
 have hR0l : (R0.length : Int) = p.regs := by rw [← hR0, List.length_replicate]; omega
 generalize hS0 : List.replicate ((p.code.length : Int)).toNat (default : Bool) = S0 at *
 have hS0l : S0.length = p.code.length := by rw [← hS0, List.length_replicate]; omega
 refine Wc.loop (ι := Nat × List Bool) (fun (k, xs) => ([(25, .int .i64 (k : Int)), (24, Go.Value.int Go.IntKind.i64 (↑(List.length (PV.outs p)) : Int)), (23, Go.Value.slice ao (List.length (PV.outs p)) co), (5, Go.Value.pointer (Option.some (Go.Addr.mk b5 0 Option.none))), (4, Go.Value.pointer (Option.some (Go.Addr.mk b3 0 Option.none))), (3, Go.Value.int Go.IntKind.i64 0), (2, Go.Value.slice Option.none 0 0), (1, Go.Value.pointer (Option.some (Go.Addr.mk b1 0 Option.none)))], [(4, some b5, .cells #[.slice (some ⟨b4, 0, none⟩) xs.length R0.length] 95), (3, some b4, Row 4 xs []), (2, Option.some b3, Go.Obj.cells (List.toArray (List.set [Go.Value.slice Option.none 0 0] 0 (Go.Value.slice (Option.some (Go.Addr.mk b2 0 Option.none)) (List.length S0) (List.length S0)))) 95), (1, Option.some b2, Go.Sl.Row (α := Bool) 4 (S0) ([])), (0, Option.some b1, Go.Obj.cells #[Go.Value.int Go.IntKind.i64 (PV.ins p), Go.Value.int Go.IntKind.i64 (PV.regs p), Go.Value.slice ac (List.length (PV.code p)) cc, Go.Value.slice ao (List.length (PV.outs p)) co] 25)])) (fun (k, xs) => k ≤ p.outs.length ∧ xs = setAll R0 (p.outs.take k) ∧ OwnA (some ⟨b4, 0, none⟩) R0.length xs []) (fun (k, xs) => p.outs.length - k) ((0, R0)) (⟨Nat.zero_le _, rfl, OwnA.made (by simp only [maxLen]; omega)⟩) ⟨rfl, rfl, rfl, rfl, rfl, rfl, rfl, rfl, trivial⟩ ⟨rfl, rfl, rfl, rfl, rfl, trivial⟩ (fun ⟨k, xs⟩ => fun (hk : k ≤ p.outs.length ∧ xs = setAll R0 (p.outs.take k) ∧ OwnA (some ⟨b4, 0, none⟩) R0.length xs []) => ?_)
 obtain ⟨hk1, hxs, hox⟩ := hk
 have hxl : (xs.length : Int) = p.regs := by rw [hxs, setAll_len]; exact hR0l
 rcases Nat.lt_or_ge k p.outs.length with hlt | hge
 · have hr : 0 ≤ p.outs[((k : Nat) : Int).toNat]?.getD default ∧ p.outs[((k : Nat) : Int).toNat]?.getD default < xs.length := by
    rw [hxl]; refine r7 _ ?_
    rw [Int.toNat_natCast, List.getElem?_eq_getElem hlt]; simp
   refine Wc.seq (Wc.region rfl (Wl.q rfl (Qy.lss rfl rfl) (Wl.done (Ar.next (Wc.seq (Wc.condP rfl (by first | assumption | omega) ?_))))))
   refine Wc.skip (Ar.next (Wc.seq (Wc.block (Wc.seq (Wc.region rfl (Wl.q rfl (Qy.at (α := Int) T.sl23 rfl rfl (by assumption) (by omega)) ?_))))))
   refine Wl.q rfl (Qy.loadG T.one3 rfl (Arr.cell (by assumption) (by omega) 0 rfl rfl)) ?_
   refine Wl.q rfl (Qy.assign rfl) (Wl.done (Ar.next (Wc.region rfl (Wl.q rfl (Qy.load 4 T.one95 rfl rfl rfl) (Wl.q rfl (Qy.move rfl) (Wl.q rfl (Qy.indexAddrO (α := Bool) T.sl95 rfl rfl (by assumption) (by omega)) ?_))))))
   refine Wl.setO (z := _) 3 T.size4 rfl rfl rfl (by assumption) (by omega) rfl (fun ho1 => ?_)
   refine Wl.done ?_
   refine Ar.outNormal ?_
   refine Ar.next (Wc.region rfl (Wl.q rfl (Qy.add rfl rfl (by omega)) ?_))
   refine Wl.q rfl (Qy.move rfl) (Wl.done (Ar.reH 4 (.cells #[.slice (some ⟨b4, 0, none⟩) (xs.set (p.outs[((k : Nat) : Int).toNat]?.getD default).toNat true).length R0.length] 95) rfl (by rw [List.length_set]) ?_))
   refine Ar.again ((k + 1, _)) ?_ ?_ rfl ⟨rfl, rfl, rfl, rfl, rfl, rfl, rfl, rfl, trivial⟩ ⟨rfl, rfl, rfl, rfl, rfl, trivial⟩
   · exact ⟨by omega, by rw [setAll_step _ _ hlt, hxs], ho1⟩
   · show p.outs.length - (k + 1) < p.outs.length - k
     omega
 · have hk : k = p.outs.length := by omega
   subst hk
   rw [List.take_length] at hxs
   clear hk1 hge
   refine Wc.seq (Wc.region rfl (Wl.q rfl (Qy.lss rfl rfl) (Wl.done (Ar.next (Wc.seq (Wc.condN rfl (by first | assumption | omega) ?_))))))
   refine Wc.exit (Ar.passExit ?_)
   refine Ar.passExit ?_
   refine Ar.here ?_
   refine Ar.next (Wc.seq (Wc.seq (Wc.region rfl (Wl.q rfl (Qy.loadAll 0 T.agg25 rfl rfl rfl) ?_))))
   refine Wl.call 5 rfl T.fn82 rfl (c82 _ _ _ _ _ _) (tags_of trivial) (fun v1 G1 Ho1 hle1 hp => ?_)
   obtain ⟨bb1, rfl, rfl, hbb1⟩ := hp
   replace hc := hc.up hle1
   replace ho := ho.up hle1
   refine Wl.done (Ar.next (Wc.block ?_))
   refine Wc.rangeFunc (ι := List Bool × List Bool) 900 901 (fun (A, O) => [(2, some b3, .cells #[.slice (some ⟨b2, 0, none⟩) O.length S0.length] 95), (1, some b2, Row 4 O []), (4, some b5, .cells #[.slice (some ⟨b4, 0, none⟩) A.length R0.length] 95), (3, some b4, Row 4 A []), (0, Option.some b1, Go.Obj.cells #[Go.Value.int Go.IntKind.i64 (PV.ins p), Go.Value.int Go.IntKind.i64 (PV.regs p), Go.Value.slice ac (List.length (PV.code p)) cc, Go.Value.slice ao (List.length (PV.outs p)) co] 25)]) (fun k (A, O) => (A, O) = needTo p k ∧ OwnA (some ⟨b4, 0, none⟩) R0.length A [] ∧ OwnA (some ⟨b2, 0, none⟩) S0.length O []) (fun c (A, O) => False) ((xs, S0)) rfl T.fn98 (fun _ => rfl) rfl (c98R _ p _ _ _ _ _ hc ho (by omega) (by omega) hbb1 hR) (⟨by rw [hxs, ← hR0, ← hS0]; rfl, hox, OwnA.made (by simp only [maxLen]; omega)⟩) (Hp.got ⟨rfl, rfl, rfl, rfl, rfl, trivial⟩) ⟨rfl, fun _ => rfl⟩ (fun k x ⟨A, O⟩ l dd q w0 hx hi => ?_) (fun ⟨A, O⟩ dd hi => ?_) (fun ⟨A, O⟩ dd c hi => ?_)
   · obtain ⟨hn, hoA, hoO⟩ := hi
     have hkl : k < p.code.length := by have := (List.getElem?_eq_some_iff.1 hx).1; rw [backL_len] at this; exact this
     have hxe : x = (((p.code.length - 1 - k : Nat) : Int), p.code[p.code.length - 1 - k]?.getD default) := by rw [backL_get _ hkl] at hx; exact (Option.some.inj hx).symm
     have hx1 : x.1 = ((p.code.length - 1 - k : Nat) : Int) := by rw [hxe]
     have hx2 : x.2 = p.code[p.code.length - 1 - k]?.getD default := by rw [hxe]
     clear hxe
     have hm : mayOk x.2 p.regs = true := by
      rw [hx2]; refine r8 _ ?_
      rw [List.getElem?_eq_getElem (by omega), Option.getD_some]; exact List.getElem_mem _
     have hAl : (A.length : Int) = p.regs := by have := (needTo_len p k).1; rw [← hn] at this; show (A.length : Int) = _; rw [show A.length = p.regs.toNat from this]; omega
     have hOl : O.length = p.code.length := by have := (needTo_len p k).2; rw [← hn] at this; exact this
     have hto : 0 ≤ x.2.to ∧ x.2.to < A.length := by rw [hAl]; rw [mayOk_iff] at hm; exact ⟨hm.1.2.2.1, hm.1.2.2.2.1⟩
     have hx1b : 0 ≤ x.1 ∧ x.1 < O.length := by rw [hx1, hOl]; omega
     have hask : ∀ r ∈ asks x.2, 0 ≤ r ∧ r < A.length := by rw [hAl]; exact asks_in hm
     have hst : needTo p (k + 1) = needStep (A, O) x.1 x.2 := by rw [hx1, hx2, hn]; rfl
     have hasks : (asks x.2).length ≤ 2 := by unfold asks; split <;> (try split) <;> simp
     refine Wc.seq (Wc.region rfl (Wl.q rfl (Qy.assign rfl) (Wl.done (Ar.next (Wc.region rfl ?_)))))
     refine Wl.alloc 902 rfl T.zero55 (fun b6 => ?_)
     refine Wl.storeAll 902 T.size55 rfl rfl rfl rfl rfl rfl ?_
     refine Wl.done (Ar.begin 900 rfl ?_)
     refine Wc.block (Wc.seq (Wc.seq (Wc.region rfl (Wl.q rfl (Qy.load 4 T.one95 rfl rfl rfl) (Wl.q rfl (Qy.fieldAddr T.fa55_1 rfl) (Wl.q rfl (Qy.load 902 T.one3 rfl rfl rfl) (Wl.q rfl (Qy.indexAddrO (α := Bool) T.sl95 rfl rfl (by assumption) (by omega)) ?_)))))))
     refine Wl.q rfl (Qy.loadO 3 0 T.one4 rfl rfl (by assumption) (by omega) rfl rfl) ?_
     refine Wl.q rfl (Qy.not rfl) (Wl.done (Ar.next (Wc.ite rfl (fun hc2 => ?_) (fun hc2 => ?_))))
     refine Wc.exit (Ar.passExit ?_)
     refine Ar.here ?_
     rotate_left
     refine Wc.skip (Ar.next (Wc.seq (Wc.draw [0, 3, 4, 1, 2, 901, 902, 900] [(900, 8), (902, 8), (901, 8), (2, 8), (1, 8), (4, 8), (3, 8), (0, 8), (900, 6), (902, 6), (901, 6), (2, 6), (1, 6), (4, 6), (3, 6), (0, 6)] T.mixed rfl ?_)))
     refine Gm.q 0 [2] (by kernel_rfl) rfl rfl (Qy.load 2 T.one95 rfl rfl rfl) (Gm.q 1 [] (by kernel_rfl) rfl rfl (Qy.move rfl) (Gm.q 3 [] (by kernel_rfl) rfl rfl (Qy.fieldAddr T.fa55_1 rfl) (Gm.q 5 [] (by kernel_rfl) rfl rfl (Qy.indexAddrO (α := Bool) T.sl95 rfl rfl (by assumption) (by omega)) ?_)))
     refine Gm.three 2 4 6 ⟨rfl, rfl, rfl, rfl, rfl, rfl, rfl, rfl, trivial⟩ (by first | exact Imm.le_refl _ | assumption) (by kernel_rfl) rfl rfl rfl ?_ ?_ ?_
     refine Wl.q rfl (Qy.load 4 T.one95 rfl rfl rfl) (Wl.on0 ?_)
     refine Gm.two 4 6 ⟨rfl, rfl, rfl, rfl, rfl, rfl, rfl, rfl, trivial⟩ (by first | exact Imm.le_refl _ | assumption) (by kernel_rfl) rfl rfl ?_ ?_
     refine Wl.q rfl (Qy.load 902 T.one3 rfl rfl rfl) (Wl.on0 ?_)
     refine Gm.one 6 ⟨rfl, rfl, rfl, rfl, rfl, rfl, rfl, rfl, trivial⟩ (by first | exact Imm.le_refl _ | assumption) (by kernel_rfl) rfl ?_
     refine Wl.setO (z := _) 1 T.size4 rfl rfl rfl (by assumption) (by omega) rfl (fun ho1 => ?_)
     refine Wl.on0 ?_
     refine Gm.q 7 [] (by kernel_rfl) rfl rfl (Qy.indexAddrO (α := Bool) T.sl95 rfl rfl (by assumption) (by omega)) ?_
     refine Gm.one 8 trivial (by first | exact Imm.le_refl _ | assumption) (by kernel_rfl) rfl ?_
     refine Wl.setO (z := _) 3 T.size4 rfl rfl rfl (by assumption) (by omega) rfl (fun ho2 => ?_)
     refine Wl.on0 ?_
     refine Gm.doneA (by kernel_rfl) trivial (by first | exact Imm.le_refl _ | assumption) ?_
     refine Ar.next (Wc.seq (Wc.region rfl (Wl.q rfl (Qy.loadAll 902 T.agg55 rfl rfl rfl) ?_)))
     refine Wl.call 903 rfl T.fn49 rfl (c49 _ _) (tags_of trivial) (fun v2 G2 Ho2 hle2 hp => ?_)
     obtain ⟨ad2, cd2, junk2, rfl, hoa2, rfl, rfl⟩ := hp
     refine Wl.q rfl (Qy.len T.sl23 rfl) (Wl.q rfl (Qy.move rfl) (Wl.done (Ar.next (Wc.block ?_))))
     rotate_left
     refine Wl.setO (z := _) 1 T.size4 rfl rfl rfl (by assumption) (by omega) rfl (fun ho1 => ?_)
     refine Wl.on0 ?_
     refine Gm.one 4 trivial (by first | exact Imm.le_refl _ | assumption) (by kernel_rfl) rfl ?_
     refine Wl.q rfl (Qy.load 902 T.one3 rfl rfl rfl) (Wl.on0 ?_)
     refine Gm.q 7 [] (by kernel_rfl) rfl rfl (Qy.indexAddrO (α := Bool) T.sl95 rfl rfl (by assumption) (by omega)) ?_
     refine Gm.one 8 trivial (by first | exact Imm.le_refl _ | assumption) (by kernel_rfl) rfl ?_
     refine Wl.setO (z := _) 3 T.size4 rfl rfl rfl (by assumption) (by omega) rfl (fun ho2 => ?_)
     refine Wl.on0 ?_
     refine Gm.doneA (by kernel_rfl) trivial (by first | exact Imm.le_refl _ | assumption) ?_
     refine Ar.next (Wc.seq (Wc.region rfl (Wl.q rfl (Qy.loadAll 902 T.agg55 rfl rfl rfl) ?_)))
     refine Wl.call 903 rfl T.fn49 rfl (c49 _ _) (tags_of trivial) (fun v2 G2 Ho2 hle2 hp => ?_)
     obtain ⟨ad2, cd2, junk2, rfl, hoa2, rfl, rfl⟩ := hp
     refine Wl.q rfl (Qy.len T.sl23 rfl) (Wl.q rfl (Qy.move rfl) (Wl.done (Ar.next (Wc.block ?_))))
     rotate_left
     refine Wl.q rfl (Qy.load 902 T.one3 rfl rfl rfl) (Wl.on0 ?_)
     refine Gm.two 2 6 ⟨rfl, rfl, rfl, rfl, rfl, rfl, rfl, rfl, trivial⟩ (by first | exact Imm.le_refl _ | assumption) (by kernel_rfl) rfl rfl ?_ ?_
     refine Wl.q rfl (Qy.load 4 T.one95 rfl rfl rfl) (Wl.on0 ?_)
     refine Gm.one 6 ⟨rfl, rfl, rfl, rfl, rfl, rfl, rfl, rfl, trivial⟩ (by first | exact Imm.le_refl _ | assumption) (by kernel_rfl) rfl ?_
     refine Wl.setO (z := _) 1 T.size4 rfl rfl rfl (by assumption) (by omega) rfl (fun ho1 => ?_)
     refine Wl.on0 ?_
     refine Gm.q 7 [] (by kernel_rfl) rfl rfl (Qy.indexAddrO (α := Bool) T.sl95 rfl rfl (by assumption) (by omega)) ?_
     refine Gm.one 8 trivial (by first | exact Imm.le_refl _ | assumption) (by kernel_rfl) rfl ?_
     refine Wl.setO (z := _) 3 T.size4 rfl rfl rfl (by assumption) (by omega) rfl (fun ho2 => ?_)
     refine Wl.on0 ?_
     refine Gm.doneA (by kernel_rfl) trivial (by first | exact Imm.le_refl _ | assumption) ?_
     refine Ar.next (Wc.seq (Wc.region rfl (Wl.q rfl (Qy.loadAll 902 T.agg55 rfl rfl rfl) ?_)))
     refine Wl.call 903 rfl T.fn49 rfl (c49 _ _) (tags_of trivial) (fun v2 G2 Ho2 hle2 hp => ?_)
     obtain ⟨ad2, cd2, junk2, rfl, hoa2, rfl, rfl⟩ := hp
     refine Wl.q rfl (Qy.len T.sl23 rfl) (Wl.q rfl (Qy.move rfl) (Wl.done (Ar.next (Wc.block ?_))))
     rotate_left
     refine Wl.setO (z := _) 1 T.size4 rfl rfl rfl (by assumption) (by omega) rfl (fun ho1 => ?_)
     refine Wl.on0 ?_
     refine Gm.one 2 trivial (by first | exact Imm.le_refl _ | assumption) (by kernel_rfl) rfl ?_
     refine Wl.q rfl (Qy.load 4 T.one95 rfl rfl rfl) (Wl.on0 ?_)
     refine Gm.q 7 [] (by kernel_rfl) rfl rfl (Qy.indexAddrO (α := Bool) T.sl95 rfl rfl (by assumption) (by omega)) ?_
     refine Gm.one 8 trivial (by first | exact Imm.le_refl _ | assumption) (by kernel_rfl) rfl ?_
     refine Wl.setO (z := _) 3 T.size4 rfl rfl rfl (by assumption) (by omega) rfl (fun ho2 => ?_)
     refine Wl.on0 ?_
     refine Gm.doneA (by kernel_rfl) trivial (by first | exact Imm.le_refl _ | assumption) ?_
     refine Ar.next (Wc.seq (Wc.region rfl (Wl.q rfl (Qy.loadAll 902 T.agg55 rfl rfl rfl) ?_)))
     refine Wl.call 903 rfl T.fn49 rfl (c49 _ _) (tags_of trivial) (fun v2 G2 Ho2 hle2 hp => ?_)
     obtain ⟨ad2, cd2, junk2, rfl, hoa2, rfl, rfl⟩ := hp
     refine Wl.q rfl (Qy.len T.sl23 rfl) (Wl.q rfl (Qy.move rfl) (Wl.done (Ar.next (Wc.block ?_))))
     rotate_left
     refine Wl.setO (z := _) 1 T.size4 rfl rfl rfl (by assumption) (by omega) rfl (fun ho1 => ?_)
     refine Wl.on0 ?_
     refine Gm.two 2 4 trivial (by first | exact Imm.le_refl _ | assumption) (by kernel_rfl) rfl rfl ?_ ?_
     refine Wl.q rfl (Qy.load 4 T.one95 rfl rfl rfl) (Wl.on0 ?_)
     refine Gm.one 4 trivial (by first | exact Imm.le_refl _ | assumption) (by kernel_rfl) rfl ?_
     refine Wl.q rfl (Qy.load 902 T.one3 rfl rfl rfl) (Wl.on0 ?_)
     refine Gm.q 7 [] (by kernel_rfl) rfl rfl (Qy.indexAddrO (α := Bool) T.sl95 rfl rfl (by assumption) (by omega)) ?_
     refine Gm.one 8 trivial (by first | exact Imm.le_refl _ | assumption) (by kernel_rfl) rfl ?_
     refine Wl.setO (z := _) 3 T.size4 rfl rfl rfl (by assumption) (by omega) rfl (fun ho2 => ?_)
     refine Wl.on0 ?_
     refine Gm.doneA (by kernel_rfl) trivial (by first | exact Imm.le_refl _ | assumption) ?_
     refine Ar.next (Wc.seq (Wc.region rfl (Wl.q rfl (Qy.loadAll 902 T.agg55 rfl rfl rfl) ?_)))
     refine Wl.call 903 rfl T.fn49 rfl (c49 _ _) (tags_of trivial) (fun v2 G2 Ho2 hle2 hp => ?_)
     obtain ⟨ad2, cd2, junk2, rfl, hoa2, rfl, rfl⟩ := hp
     refine Wl.q rfl (Qy.len T.sl23 rfl) (Wl.q rfl (Qy.move rfl) (Wl.done (Ar.next (Wc.block ?_))))
     rotate_left
     refine Wl.q rfl (Qy.load 902 T.one3 rfl rfl rfl) (Wl.on0 ?_)
     refine Gm.one 2 trivial (by first | exact Imm.le_refl _ | assumption) (by kernel_rfl) rfl ?_
     refine Wl.q rfl (Qy.load 4 T.one95 rfl rfl rfl) (Wl.on0 ?_)
     refine Gm.q 7 [] (by kernel_rfl) rfl rfl (Qy.indexAddrO (α := Bool) T.sl95 rfl rfl (by assumption) (by omega)) ?_
     refine Gm.one 8 trivial (by first | exact Imm.le_refl _ | assumption) (by kernel_rfl) rfl ?_
     refine Wl.setO (z := _) 3 T.size4 rfl rfl rfl (by assumption) (by omega) rfl (fun ho2 => ?_)
     refine Wl.on0 ?_
     refine Gm.doneA (by kernel_rfl) trivial (by first | exact Imm.le_refl _ | assumption) ?_
     refine Ar.next (Wc.seq (Wc.region rfl (Wl.q rfl (Qy.loadAll 902 T.agg55 rfl rfl rfl) ?_)))
     refine Wl.call 903 rfl T.fn49 rfl (c49 _ _) (tags_of trivial) (fun v2 G2 Ho2 hle2 hp => ?_)
     obtain ⟨ad2, cd2, junk2, rfl, hoa2, rfl, rfl⟩ := hp
     refine Wl.q rfl (Qy.len T.sl23 rfl) (Wl.q rfl (Qy.move rfl) (Wl.done (Ar.next (Wc.block ?_))))
     rotate_left
     · refine Ar.roundEnd none (.inl ⟨rfl, rfl⟩) 900 rfl ⟨rfl, ((A, O), none), rfl, .inl ⟨rfl, rfl, ?_⟩⟩ (Hp.got ⟨rfl, rfl, rfl, rfl, rfl, rfl, rfl, trivial⟩)
       refine ⟨?_, hoA, hoO⟩
       rw [hst]; unfold needStep
       rw [if_neg (by simpa using hc2)]
     all_goals
      have hoO' : OwnA (some ⟨b2, 0, none⟩) S0.length (O.set x.1.toNat true) [] := by assumption
      have hoA' : OwnA (some ⟨b4, 0, none⟩) R0.length (A.set x.2.to.toNat false) [] := by assumption
      refine Wc.reH 4 (.cells #[.slice (some ⟨b4, 0, none⟩) (A.set x.2.to.toNat false).length R0.length] 95) rfl (by rw [List.length_set]) (Wc.reH 2 (.cells #[.slice (some ⟨b2, 0, none⟩) (O.set x.1.toNat true).length S0.length] 95) rfl (by rw [List.length_set]) ?_)
      refine Wc.loop (ι := Nat × List Bool) (fun (m, B) => ([(53, .int .i64 (m : Int)), (52, Go.Value.int Go.IntKind.i64 (↑(List.length (asks (Prod.snd x))) : Int)), (51, Go.Value.slice ad2 (List.length (asks (Prod.snd x))) cd2), (5, Go.Value.pointer (Option.some (Go.Addr.mk b5 0 Option.none)))], [(4, some b5, .cells #[.slice (some ⟨b4, 0, none⟩) B.length R0.length] 95), (3, some b4, Row 4 B []), (2, Option.some b3, Go.Obj.cells #[Go.Value.slice (Option.some (Go.Addr.mk b2 0 Option.none)) (List.length (List.set O (Int.toNat (Prod.fst x)) Bool.true)) (List.length S0)] 95), (904, Option.map (fun x => Go.Addr.block x) ad2, Go.Sl.Row (α := Int) 3 (asks (Prod.snd x)) (junk2)), (1, Option.map (fun x => Go.Addr.block x) (Option.some (Go.Addr.mk b2 0 Option.none)), Go.Sl.Row (α := Bool) 4 (List.set O (Int.toNat (Prod.fst x)) Bool.true) ([])), (900, Option.some l, Go.Sl.lrec q Go.LoopState.busy Option.none), (902, Option.some b6, Go.Obj.cells (List.toArray (Go.Sl.Cells.enc (Prod.snd x))) 55), (901, Option.some dd, Go.Obj.deferred (Option.some [])), (0, Option.some b1, Go.Obj.cells #[Go.Value.int Go.IntKind.i64 (PV.ins p), Go.Value.int Go.IntKind.i64 (PV.regs p), Go.Value.slice ac (List.length (PV.code p)) cc, Go.Value.slice ao (List.length (PV.outs p)) co] 25)])) (fun (m, B) => m ≤ (asks x.2).length ∧ B = setAll (A.set x.2.to.toNat false) ((asks x.2).take m) ∧ OwnA (some ⟨b4, 0, none⟩) R0.length B []) (fun (m, B) => (asks x.2).length - m) ((0, A.set x.2.to.toNat false)) (⟨Nat.zero_le _, rfl, hoA'⟩) ⟨rfl, rfl, rfl, rfl, trivial⟩ ⟨rfl, rfl, rfl, rfl, rfl, rfl, rfl, rfl, rfl, trivial⟩ (fun ⟨m, B⟩ => fun (hk : m ≤ (asks x.2).length ∧ B = setAll (A.set x.2.to.toNat false) ((asks x.2).take m) ∧ OwnA (some ⟨b4, 0, none⟩) R0.length B []) => ?_)
      obtain ⟨hm1, hB, hoB⟩ := hk
      have hBl : B.length = A.length := by rw [hB, setAll_len, List.length_set]
      rcases Nat.lt_or_ge m (asks x.2).length with hlt | hge
      · have hr : 0 ≤ (asks x.2)[((m : Nat) : Int).toNat]?.getD default ∧ (asks x.2)[((m : Nat) : Int).toNat]?.getD default < B.length := by
         rw [hBl]; refine hask _ ?_
         rw [Int.toNat_natCast, List.getElem?_eq_getElem hlt]; simp
        refine Wc.seq (Wc.region rfl (Wl.q rfl (Qy.lss rfl rfl) (Wl.done (Ar.next (Wc.seq (Wc.condP rfl (by first | assumption | omega) ?_))))))
        refine Wc.skip (Ar.next (Wc.seq (Wc.block (Wc.seq (Wc.region rfl (Wl.q rfl (Qy.indexAddrO (α := Int) T.sl23 rfl rfl (by assumption) (by omega)) ?_))))))
        refine Wl.q rfl (Qy.loadO 904 0 T.one3 rfl rfl (by assumption) (by omega) rfl rfl) ?_
        refine Wl.q rfl (Qy.assign rfl) (Wl.done (Ar.next (Wc.region rfl (Wl.q rfl (Qy.load 4 T.one95 rfl rfl rfl) (Wl.q rfl (Qy.move rfl) (Wl.q rfl (Qy.indexAddrO (α := Bool) T.sl95 rfl rfl (by assumption) (by omega)) ?_))))))
        refine Wl.setO (z := _) 3 T.size4 rfl rfl rfl (by assumption) (by omega) rfl (fun ho3 => ?_)
        refine Wl.done ?_
        refine Ar.outNormal ?_
        refine Ar.next (Wc.region rfl (Wl.q rfl (Qy.add rfl rfl (by omega)) ?_))
        refine Wl.q rfl (Qy.move rfl) (Wl.done (Ar.reH 4 (.cells #[.slice (some ⟨b4, 0, none⟩) (B.set ((asks x.2)[((m : Nat) : Int).toNat]?.getD default).toNat true).length R0.length] 95) rfl (by rw [List.length_set]) ?_))
        refine Ar.again ((m + 1, _)) ?_ ?_ rfl ⟨rfl, rfl, rfl, rfl, trivial⟩ ⟨rfl, rfl, rfl, rfl, rfl, rfl, rfl, rfl, rfl, trivial⟩
        · exact ⟨by omega, by rw [setAll_step _ _ hlt, hB], by assumption⟩
        · show (asks x.2).length - (m + 1) < (asks x.2).length - m
          omega
      · have hm : m = (asks x.2).length := by omega
        subst hm
        rw [List.take_length] at hB
        refine Wc.seq (Wc.region rfl (Wl.q rfl (Qy.lss rfl rfl) (Wl.done (Ar.next (Wc.seq (Wc.condN rfl (by first | assumption | omega) ?_))))))
        refine Wc.exit (Ar.passExit ?_)
        refine Ar.passExit ?_
        refine Ar.here ?_
        refine Ar.outNormal ?_
        refine Ar.roundEnd none (.inl ⟨rfl, rfl⟩) 900 rfl ⟨rfl, ((B, O.set x.1.toNat true), none), rfl, .inl ⟨rfl, rfl, ?_⟩⟩ (Hp.got ⟨rfl, rfl, rfl, rfl, rfl, rfl, rfl, trivial⟩)
        refine ⟨?_, hoB, hoO'⟩
        rw [hst]; unfold needStep
        rw [if_pos (by simpa using hc2), hB]
   · obtain ⟨hn, hoA, hoO⟩ := hi
     rw [backL_len] at hn
     have hO : O = neededP p := congrArg Prod.snd hn
     subst hO
     refine Ar.outNormal ?_
     refine Ar.next (Wc.seq (Wc.region rfl (Wl.q rfl (Qy.load 2 T.one95 rfl rfl rfl) (Wl.q rfl (Qy.assign rfl) (Wl.q rfl (Qy.assign rfl) (Wl.done (Ar.next (Wc.ret (Ar.collect (.inr rfl) 901 rfl ?_)))))))))
     refine Ar.outOf (.inr rfl) ?_
     refine Ar.base (Ar.pick [1] (by decide) (Ar.out2 (.inr rfl) rfl (.tmp rfl) (.tmp rfl) (Hp.sub_self 0 _) ?_))
     exact ⟨_, _, _, rfl, hoO, rfl, rfl⟩
   · exact hi.elim
end Go.Proofs.YtbppmiimeccclaaDoor
set_option linter.unusedVariables false
namespace Go.Proofs.YtbppmiimeccclaaDoor
open Go Go.Sl
structure Life where
 a : List Int
 b : List Int
 sets : List Int
 outs : List Int
 till : List Int
 held : List Int
def cAt (p : PV) (k : Nat) : Sl.Instr := p.code[((k : Nat) : Int).toNat]?.getD default
def nAt (p : PV) (k : Nat) : Bool := (neededP p)[((k : Nat) : Int).toNat]?.getD default
def vA (l : Life) (i : Sl.Instr) : Int := l.held[i.a.toNat]?.getD default
def vB (l : Life) (i : Sl.Instr) : Int := if 1 < (asks i).length then l.held[i.b.toNat]?.getD default else vA l i
def lifeStep (l : Life) (k : Nat) (i : Sl.Instr) : Life :=
 ⟨l.a.set k (vA l i), l.b.set k (vB l i), l.sets.set k l.till.length, l.outs, ((l.till.set (vA l i).toNat k).set (vB l i).toNat k) ++ [-1], l.held.set i.to.toNat l.till.length⟩
def life0 (p : PV) : Life :=
 ⟨List.replicate p.code.length 0, List.replicate p.code.length 0, List.replicate p.code.length 0, [], List.replicate (p.ins.toNat + 1) (-1), (List.range p.regs.toNat).map fun (r : Nat) => min (r : Int) p.ins⟩
def lifeTo (p : PV) : Nat → Life
 | 0 => life0 p
 | k + 1 => if nAt p k = true then lifeStep (lifeTo p k) k (cAt p k) else lifeTo p k
def outStep (p : PV) (l : Life) (r : Int) : Life :=
 { l with outs := l.outs ++ [l.held[r.toNat]?.getD default], till := l.till.set (l.held[r.toNat]?.getD default).toNat p.code.length }
def outTo (p : PV) : Nat → Life
 | 0 => lifeTo p p.code.length
 | j + 1 => outStep p (outTo p j) (p.outs[((j : Nat) : Int).toNat]?.getD default)
def lifeP (p : PV) : Life := outTo p p.outs.length
structure LifeOk (p : PV) (k : Nat) (l : Life) : Prop where
 al : l.a.length = p.code.length
 bl : l.b.length = p.code.length
 sl : l.sets.length = p.code.length
 hl : (l.held.length : Int) = p.regs
 t0 : p.ins + 1 ≤ l.till.length
 t1 : (l.till.length : Int) ≤ p.ins + 1 + k
 hb : ∀ v ∈ l.held, 0 ≤ v ∧ v < l.till.length
 ab : ∀ v ∈ l.a, 0 ≤ v ∧ v < l.till.length
 bb : ∀ v ∈ l.b, 0 ≤ v ∧ v < l.till.length
 sb : ∀ v ∈ l.sets, 0 ≤ v ∧ v < l.till.length
 ob : ∀ v ∈ l.outs, 0 ≤ v ∧ v < l.till.length
theorem vA_ok {p : PV} {k : Nat} {l : Life} {i : Sl.Instr} (h : LifeOk p k l) (hm : mayOk i p.regs = true) : 0 ≤ vA l i ∧ vA l i < l.till.length := by
 have h1 := (may_facts hm).2.2.1
 exact h.hb _ (get_mem (by rw [h.hl]; exact h1))
theorem two_op {i : Sl.Instr} (h : 1 < (asks i).length) : i.op = 3 ∨ i.op = 4 := by
 unfold asks at h
 split at h
 · assumption
 · split at h <;> simp at h
theorem two_iff (i : Sl.Instr) : 1 < (asks i).length ↔ i.op = 3 ∨ i.op = 4 := ⟨two_op, fun h => by unfold asks; rw [if_pos h]; simp⟩
theorem vB_ok {p : PV} {k : Nat} {l : Life} {i : Sl.Instr} (h : LifeOk p k l) (hm : mayOk i p.regs = true) : 0 ≤ vB l i ∧ vB l i < l.till.length := by
 unfold vB
 split
 · rename_i h2
   have h1 := (may_facts hm).2.2.2.1 (two_op h2)
   exact h.hb _ (get_mem (by rw [h.hl]; exact h1))
 · exact vA_ok h hm
theorem life0_ok {p : PV} (h : 1 ≤ p.ins ∧ p.ins ≤ p.regs) : LifeOk p 0 (life0 p) := by
 have ht : (life0 p).till.length = p.ins.toNat + 1 := List.length_replicate
 refine ⟨List.length_replicate, List.length_replicate, List.length_replicate, ?_, by rw [ht]; omega, by rw [ht]; omega, ?_, ?_, ?_, ?_, ?_⟩
 · show (((List.range p.regs.toNat).map _).length : Int) = p.regs
   rw [List.length_map, List.length_range]; omega
 · intro v hv
   obtain ⟨r, hr, rfl⟩ := List.mem_map.1 (show v ∈ (List.range p.regs.toNat).map _ from hv)
   rw [ht]; omega
 all_goals intro v hv
 · rw [List.eq_of_mem_replicate (show v ∈ List.replicate _ _ from hv), ht]; omega
 · rw [List.eq_of_mem_replicate (show v ∈ List.replicate _ _ from hv), ht]; omega
 · rw [List.eq_of_mem_replicate (show v ∈ List.replicate _ _ from hv), ht]; omega
 · cases hv
theorem step_till_len (l : Life) (k : Nat) (i : Sl.Instr) : (lifeStep l k i).till.length = l.till.length + 1 := by
 show (((l.till.set _ _).set _ _) ++ [-1]).length = _
 rw [List.length_append, List.length_set, List.length_set]; rfl
theorem lifeStep_ok {p : PV} {k : Nat} {l : Life} {i : Sl.Instr} (h : LifeOk p k l) (hm : mayOk i p.regs = true) : LifeOk p (k + 1) (lifeStep l k i) := by
 have ha := vA_ok h hm
 have hb := vB_ok h hm
 have ht := step_till_len l k i
 have h0 := h.t0
 have h1 := h.t1
 refine ⟨by show (l.a.set _ _).length = _; rw [List.length_set]; exact h.al, by show (l.b.set _ _).length = _; rw [List.length_set]; exact h.bl, by show (l.sets.set _ _).length = _; rw [List.length_set]; exact h.sl, by show ((l.held.set _ _).length : Int) = _; rw [List.length_set]; exact h.hl, by rw [ht]; omega, by rw [ht]; omega, ?_, ?_, ?_, ?_, ?_⟩
 all_goals intro v hv; rw [ht]
 · rcases List.mem_or_eq_of_mem_set (show v ∈ l.held.set _ _ from hv) with h2 | h2
   · have := h.hb v h2; omega
   · omega
 · rcases List.mem_or_eq_of_mem_set (show v ∈ l.a.set _ _ from hv) with h2 | h2
   · have := h.ab v h2; omega
   · omega
 · rcases List.mem_or_eq_of_mem_set (show v ∈ l.b.set _ _ from hv) with h2 | h2
   · have := h.bb v h2; omega
   · omega
 · rcases List.mem_or_eq_of_mem_set (show v ∈ l.sets.set _ _ from hv) with h2 | h2
   · have := h.sb v h2; omega
   · omega
 · have := h.ob v hv; omega
theorem LifeOk.next {p : PV} {k : Nat} {l : Life} (h : LifeOk p k l) : LifeOk p (k + 1) l := ⟨h.al, h.bl, h.sl, h.hl, h.t0, by have := h.t1; omega, h.hb, h.ab, h.bb, h.sb, h.ob⟩
theorem code_may {p : PV} (hR : rightP p = true) {k : Nat} (hk : k < p.code.length) : mayOk (cAt p k) p.regs = true := by
 refine (right_facts hR).2.2.2.2.2.2.2 _ ?_
 unfold cAt
 rw [Int.toNat_natCast, List.getElem?_eq_getElem hk]; exact List.getElem_mem hk
theorem lifeTo_ok {p : PV} (hR : rightP p = true) : ∀ k, k ≤ p.code.length → LifeOk p k (lifeTo p k)
 | 0, _ => life0_ok ⟨(right_facts hR).1, (right_facts hR).2.1⟩
 | k + 1, hk => by
   have ih := lifeTo_ok hR k (by omega)
   unfold lifeTo
   split
   · exact lifeStep_ok ih (code_may hR (by omega))
   · exact ih.next
theorem outStep_ok {p : PV} {k : Nat} {l : Life} {r : Int} (h : LifeOk p k l) (hr : 0 ≤ r ∧ r < p.regs) : LifeOk p k (outStep p l r) := by
 have ht : (outStep p l r).till.length = l.till.length := List.length_set
 have hv := h.hb _ (get_mem (r := r) (by rw [h.hl]; exact hr))
 refine ⟨h.al, h.bl, h.sl, h.hl, by rw [ht]; exact h.t0, by rw [ht]; exact h.t1, ?_, ?_, ?_, ?_, ?_⟩
 all_goals intro v hv2; rw [ht]
 · exact h.hb v hv2
 · exact h.ab v hv2
 · exact h.bb v hv2
 · exact h.sb v hv2
 · rcases List.mem_append.1 (show v ∈ l.outs ++ [_] from hv2) with h2 | h2
   · exact h.ob v h2
   · rw [List.mem_singleton.1 h2]; exact hv
theorem out_may {p : PV} (hR : rightP p = true) {j : Nat} (hj : j < p.outs.length) : 0 ≤ p.outs[((j : Nat) : Int).toNat]?.getD default ∧ p.outs[((j : Nat) : Int).toNat]?.getD default < p.regs := by
 refine (right_facts hR).2.2.2.2.2.2.1 _ ?_
 rw [Int.toNat_natCast, List.getElem?_eq_getElem hj]; exact List.getElem_mem hj
theorem outTo_ok {p : PV} (hR : rightP p = true) : ∀ j, j ≤ p.outs.length → LifeOk p p.code.length (outTo p j)
 | 0, _ => lifeTo_ok hR _ (Nat.le_refl _)
 | j + 1, hj => outStep_ok (outTo_ok hR j (by omega)) (out_may hR (by omega))
theorem lifeP_ok {p : PV} (hR : rightP p = true) : LifeOk p p.code.length (lifeP p) := outTo_ok hR _ (Nat.le_refl _)
theorem outTo_len (p : PV) : ∀ j, (outTo p j).outs.length = (lifeTo p p.code.length).outs.length + j
 | 0 => rfl
 | j + 1 => by show (_ ++ [_]).length = _; rw [List.length_append, outTo_len p j]; rfl
theorem lifeTo_outs (p : PV) : ∀ k, (lifeTo p k).outs = []
 | 0 => rfl
 | k + 1 => by
   unfold lifeTo
   split
   · exact lifeTo_outs p k
   · exact lifeTo_outs p k
theorem lifeP_outs (p : PV) : (lifeP p).outs.length = p.outs.length := by unfold lifeP; rw [outTo_len, lifeTo_outs]; exact Nat.zero_add _
structure Pl where
 at_ : List (Int × Int)
 free : List Bool
def stand (s : Pl) (v : Int) : Int := (mget s.at_ v).getD 0
def layP (s : Pl) (v u : Int) : Pl := ⟨mput s.at_ v s.free.length, s.free ++ [decide (u < 0)]⟩
def least (l : List Bool) : Nat := l.findIdx (fun b => b)
def giveP (s : Pl) (v : Int) : Pl := ⟨mput s.at_ v (least s.free), if least s.free < s.free.length then s.free.set (least s.free) false else s.free ++ [false]⟩
def freeAt (l : Life) (k : Nat) (s : Pl) (v : Int) : Pl := if l.till[v.toNat]?.getD default = k then ⟨s.at_, s.free.set (stand s v).toNat true⟩ else s
def layTo (l : Life) : Nat → Pl
 | 0 => ⟨[], []⟩
 | v + 1 => layP (layTo l v) v (l.till[((v : Nat) : Int).toNat]?.getD default)
def lay0 (p : PV) (l : Life) : Pl := if 0 ≤ l.till[p.ins.toNat]?.getD default then layP (layTo l p.ins.toNat) p.ins (l.till[p.ins.toNat]?.getD default) else layTo l p.ins.toNat
structure PkS where
 s : Pl
 regs : Int
 code : List Sl.Instr
def pkStep (l : Life) (x : PkS) (k : Nat) (i : Sl.Instr) : PkS :=
 let va := l.a[((k : Nat) : Int).toNat]?.getD default
 let vb := l.b[((k : Nat) : Int).toNat]?.getD default
 let s2 := freeAt l k (freeAt l k x.s va) vb
 ⟨giveP s2 (l.sets[((k : Nat) : Int).toNat]?.getD default), max x.regs ((least s2.free : Int) + 1), x.code ++ [⟨i.op, least s2.free, stand x.s va, if 1 < (asks i).length then stand x.s vb else i.b, i.c⟩]⟩
def pkTo (p : PV) : Nat → PkS
 | 0 => ⟨lay0 p (lifeP p), max p.ins (lay0 p (lifeP p)).free.length, []⟩
 | k + 1 => if nAt p k = true then pkStep (lifeP p) (pkTo p k) k (cAt p k) else pkTo p k
def orderP (p : PV) : PV := ⟨p.ins, (pkTo p p.code.length).regs, (pkTo p p.code.length).code, (lifeP p).outs.map (stand (pkTo p p.code.length).s)⟩
structure PlOk (s : Pl) : Prop where
 f0 : 0 < s.free.length
 ab : ∀ v, 0 ≤ stand s v ∧ stand s v < s.free.length
theorem stand_put (s : Pl) (v w r : Int) (f : List Bool) : stand ⟨mput s.at_ v r, f⟩ w = if w = v then r else stand s w := by
 unfold stand
 rw [mget_mput]
 split <;> rfl
theorem least_le (l : List Bool) : least l ≤ l.length := List.findIdx_le_length
theorem lay_ok' {s : Pl} (h : ∀ v, 0 ≤ stand s v ∧ stand s v ≤ s.free.length) (v u : Int) : PlOk (layP s v u) := by
 have hl : (layP s v u).free.length = s.free.length + 1 := by show (s.free ++ [_]).length = _; rw [List.length_append]; rfl
 refine ⟨by omega, fun w => ?_⟩
 have h1 : stand (layP s v u) w = if w = v then (s.free.length : Int) else stand s w := stand_put s v w _ _
 have h2 := h w
 rw [h1, hl]
 split <;> omega
theorem PlOk.le {s : Pl} (h : PlOk s) (v : Int) : 0 ≤ stand s v ∧ stand s v ≤ s.free.length := by have := h.ab v; omega
theorem layTo_ok (l : Life) : ∀ n, PlOk (layTo l (n + 1)) ∧ (layTo l (n + 1)).free.length = n + 1
 | 0 => ⟨lay_ok' (s := ⟨[], []⟩) (fun v => ⟨Int.le_refl _, Int.le_refl _⟩) _ _, rfl⟩
 | n + 1 => by
   obtain ⟨h1, h2⟩ := layTo_ok l n
   exact ⟨lay_ok' h1.le _ _, by show ((layTo l (n + 1)).free ++ [_]).length = _; rw [List.length_append, h2]; rfl⟩
theorem layTo_len (l : Life) : ∀ n, (layTo l n).free.length = n
 | 0 => rfl
 | n + 1 => (layTo_ok l n).2
theorem lay0_ok {p : PV} (h : 1 ≤ p.ins) (l : Life) : PlOk (lay0 p l) ∧ p.ins ≤ (lay0 p l).free.length ∧ ((lay0 p l).free.length : Int) ≤ p.ins + 1 := by
 obtain ⟨n, hn⟩ : ∃ n, p.ins.toNat = n + 1 := ⟨p.ins.toNat - 1, by omega⟩
 have h1 := (layTo_ok l n).1
 have h2 := layTo_len l p.ins.toNat
 unfold lay0
 split
 · refine ⟨lay_ok' (by rw [hn]; exact h1.le) _ _, ?_⟩
   show p.ins ≤ (((layTo l p.ins.toNat).free ++ [_]).length : Int) ∧ (((layTo l p.ins.toNat).free ++ [_]).length : Int) ≤ _
   rw [List.length_append, h2]
   constructor
   · show p.ins ≤ ((p.ins.toNat + 1 : Nat) : Int); omega
   · show ((p.ins.toNat + 1 : Nat) : Int) ≤ _; omega
 · rw [hn]; exact ⟨h1, by rw [layTo_len]; omega, by rw [layTo_len]; omega⟩
theorem freeAt_len (l : Life) (k : Nat) (s : Pl) (v : Int) : (freeAt l k s v).free.length = s.free.length := by
 unfold freeAt; split
 · exact List.length_set
 · rfl
theorem freeAt_at (l : Life) (k : Nat) (s : Pl) (v : Int) : (freeAt l k s v).at_ = s.at_ := by
 unfold freeAt; split <;> rfl
theorem freeAt_stand (l : Life) (k : Nat) (s : Pl) (v w : Int) : stand (freeAt l k s v) w = stand s w := by
 unfold stand; rw [freeAt_at]
theorem freeAt_ok {l : Life} {k : Nat} {s : Pl} {v : Int} (h : PlOk s) : PlOk (freeAt l k s v) := ⟨by rw [freeAt_len]; exact h.f0, fun w => by rw [freeAt_stand, freeAt_len]; exact h.ab w⟩
theorem give_len (s : Pl) (v : Int) : (giveP s v).free.length = if least s.free < s.free.length then s.free.length else s.free.length + 1 := by
 unfold giveP
 simp only
 split
 · exact List.length_set
 · rw [List.length_append]; rfl
theorem give_stand (s : Pl) (v w : Int) : stand (giveP s v) w = if w = v then (least s.free : Int) else stand s w := stand_put s v w _ _
theorem give_ok {s : Pl} (h : PlOk s) (v : Int) : PlOk (giveP s v) := by
 have h1 := least_le s.free
 have h0 := h.f0
 refine ⟨by rw [give_len]; split <;> omega, fun w => ?_⟩
 have h2 := h.ab w
 rw [give_stand, give_len]
 split <;> split <;> omega
theorem pkTo_ok {p : PV} (h : 1 ≤ p.ins) : ∀ k, PlOk (pkTo p k).s
 | 0 => (lay0_ok h _).1
 | k + 1 => by
   have ih := pkTo_ok h k
   unfold pkTo
   split
   · exact give_ok (freeAt_ok (freeAt_ok ih)) _
   · exact ih
theorem pkTo_len {p : PV} (h : 1 ≤ p.ins) : ∀ k, ((pkTo p k).s.free.length : Int) ≤ p.ins + 1 + k ∧ (pkTo p k).code.length ≤ k
 | 0 => ⟨by show ((lay0 p (lifeP p)).free.length : Int) ≤ _; have := (lay0_ok h (lifeP p)).2.2; omega, Nat.le_refl _⟩
 | k + 1 => by
   obtain ⟨h1, h2⟩ := pkTo_len h k
   unfold pkTo
   split
   · refine ⟨?_, by show ((pkTo p k).code ++ [_]).length ≤ _; rw [List.length_append]; show _ + 1 ≤ _; omega⟩
     show ((giveP _ _).free.length : Int) ≤ _
     rw [give_len, freeAt_len, freeAt_len]
     split <;> omega
   · omega
end Go.Proofs.YtbppmiimeccclaaDoor
set_option linter.unusedVariables false
namespace Go.Proofs.YtbppmiimeccclaaDoor
open Go Go.Sl
def heldAt (p : PV) (k : Nat) (r : Int) : Int := (lifeTo p k).held[r.toNat]?.getD default
def vlen (p : PV) (k : Nat) : Nat := (lifeTo p k).till.length
def tl (l : Life) (v : Int) : Int := l.till[v.toNat]?.getD default
def dueA (p : PV) (k : Nat) : Int := vA (lifeTo p k) (cAt p k)
def dueB (p : PV) (k : Nat) : Int := vB (lifeTo p k) (cAt p k)
theorem life_yes {p : PV} {k : Nat} (h : nAt p k = true) : lifeTo p (k + 1) = lifeStep (lifeTo p k) k (cAt p k) := if_pos h
theorem life_no {p : PV} {k : Nat} (h : ¬ nAt p k = true) : lifeTo p (k + 1) = lifeTo p k := if_neg h
theorem vlen_yes {p : PV} {k : Nat} (h : nAt p k = true) : vlen p (k + 1) = vlen p k + 1 := by unfold vlen; rw [life_yes h]; exact step_till_len _ _ _
theorem vlen_no {p : PV} {k : Nat} (h : ¬ nAt p k = true) : vlen p (k + 1) = vlen p k := by unfold vlen; rw [life_no h]
theorem vlen_mono (p : PV) {k j : Nat} (h : k ≤ j) : vlen p k ≤ vlen p j := by
 induction j with
 | zero => rw [Nat.le_zero.1 h]; exact Nat.le_refl _
 | succ j ih =>
   by_cases hk : k = j + 1
   · rw [hk]; exact Nat.le_refl _
   · have h1 := ih (by omega)
     by_cases hn : nAt p j = true
     · rw [vlen_yes hn]; omega
     · rw [vlen_no hn]; exact h1
theorem held_yes {p : PV} (hR : rightP p = true) {k : Nat} (hk : k < p.code.length) (h : nAt p k = true) {r : Int} (hr : 0 ≤ r ∧ r < p.regs) : heldAt p (k + 1) r = if (cAt p k).to = r then (vlen p k : Int) else heldAt p k r := by
 unfold heldAt
 rw [life_yes h]
 have hl := (lifeTo_ok hR k (by omega)).hl
 have ht := (may_facts (code_may hR hk)).2.1
 show ((lifeTo p k).held.set (cAt p k).to.toNat _)[r.toNat]?.getD default = _
 rw [ints_get_set (by rw [hl]; exact hr), Int.toNat_of_nonneg ht.1]
 rfl
theorem held_no {p : PV} {k : Nat} (h : ¬ nAt p k = true) (r : Int) : heldAt p (k + 1) r = heldAt p k r := by unfold heldAt; rw [life_no h]
theorem held_in {p : PV} (hR : rightP p = true) {k : Nat} (hk : k ≤ p.code.length) {r : Int} (hr : 0 ≤ r ∧ r < p.regs) : 0 ≤ heldAt p k r ∧ heldAt p k r < vlen p k := by
 have ok := lifeTo_ok hR k hk
 exact ok.hb _ (get_mem (by rw [ok.hl]; exact hr))
theorem held_back {p : PV} (hR : rightP p = true) {r : Int} (hr : 0 ≤ r ∧ r < p.regs) {k : Nat} : ∀ (j : Nat), k ≤ j → j ≤ p.code.length → heldAt p j r < vlen p k → heldAt p k r = heldAt p j r
 | 0, h, _, _ => by rw [Nat.le_zero.1 h]
 | j + 1, h, hj, hv => by
   by_cases hk : k = j + 1
   · rw [hk]
   · have hm := vlen_mono p (show k ≤ j by omega)
     by_cases hn : nAt p j = true
     · have e := held_yes hR (by omega) hn hr
       by_cases ht : (cAt p j).to = r
       · rw [if_pos ht] at e; rw [e] at hv; omega
       · rw [if_neg ht] at e
         rw [e] at hv ⊢
         exact held_back hR hr j (by omega) (by omega) hv
     · rw [held_no hn] at hv ⊢
       exact held_back hR hr j (by omega) (by omega) hv
theorem due_in {p : PV} (hR : rightP p = true) {k : Nat} (hk : k < p.code.length) : (0 ≤ dueA p k ∧ dueA p k < vlen p k) ∧ (0 ≤ dueB p k ∧ dueB p k < vlen p k) :=
 ⟨vA_ok (lifeTo_ok hR k (by omega)) (code_may hR hk), vB_ok (lifeTo_ok hR k (by omega)) (code_may hR hk)⟩
theorem due_held {p : PV} (hR : rightP p = true) {k : Nat} (hk : k < p.code.length) : (∃ r, (0 ≤ r ∧ r < p.regs) ∧ heldAt p k r = dueA p k) ∧ (∃ r, (0 ≤ r ∧ r < p.regs) ∧ heldAt p k r = dueB p k) := by
 have hm := may_facts (code_may hR hk)
 have h1 : ∃ r, (0 ≤ r ∧ r < p.regs) ∧ heldAt p k r = dueA p k := ⟨(cAt p k).a, hm.2.2.1, rfl⟩
 refine ⟨h1, ?_⟩
 by_cases h2 : 1 < (asks (cAt p k)).length
 · exact ⟨(cAt p k).b, hm.2.2.2.1 (two_op h2), (if_pos h2).symm⟩
 · obtain ⟨r, hr, e⟩ := h1
   exact ⟨r, hr, e.trans (if_neg h2).symm⟩
theorem tl_step {p : PV} (hR : rightP p = true) {k : Nat} (hk : k < p.code.length) (h : nAt p k = true) {v : Int} (hv : 0 ≤ v ∧ v < vlen p k) :
 tl (lifeTo p (k + 1)) v = if v = dueA p k ∨ v = dueB p k then (k : Int) else tl (lifeTo p k) v := by
 obtain ⟨⟨ha0, ha1⟩, hb0, hb1⟩ := due_in hR hk
 unfold tl
 rw [life_yes h]
 show ((((lifeTo p k).till.set (dueA p k).toNat (k : Int)).set (dueB p k).toNat (k : Int)) ++ [-1])[v.toNat]?.getD default = _
 have hv1 : v.toNat < (lifeTo p k).till.length := by have := hv.2; unfold vlen at this; omega
 rw [List.getElem?_append_left (by rw [List.length_set, List.length_set]; exact hv1)]
 unfold vlen at hb1 ha1 hv
 rw [ints_get_set (by rw [List.length_set]; exact hv), ints_get_set hv, Int.toNat_of_nonneg ha0, Int.toNat_of_nonneg hb0]
 by_cases e1 : dueB p k = v
 · rw [if_pos e1, if_pos (.inr e1.symm)]
 · rw [if_neg e1]
   by_cases e2 : dueA p k = v
   · rw [if_pos e2, if_pos (.inl e2.symm)]
   · rw [if_neg e2, if_neg (by rintro (h | h) <;> first | exact e2 h.symm | exact e1 h.symm)]
theorem tl_new {p : PV} {k : Nat} (h : nAt p k = true) : tl (lifeTo p (k + 1)) (vlen p k) = -1 := by
 unfold tl vlen
 rw [life_yes h]
 show ((((lifeTo p k).till.set _ _).set _ _) ++ [-1])[((((lifeTo p k).till.length : Nat)) : Int).toNat]?.getD default = _
 rw [Int.toNat_natCast, List.getElem?_append_right (by rw [List.length_set, List.length_set]; exact Nat.le_refl _), List.length_set, List.length_set, Nat.sub_self]
 rfl
def Asked (p : PV) (t : Nat) (v : Int) : Prop := nAt p t = true ∧ (v = dueA p t ∨ v = dueB p t)
theorem tl_said {p : PV} (hR : rightP p = true) : ∀ (k : Nat), k ≤ p.code.length → ∀ v : Int, 0 ≤ v ∧ v < vlen p k → tl (lifeTo p k) v = -1 ∨ ∃ t : Nat, t < k ∧ tl (lifeTo p k) v = t ∧ Asked p t v
 | 0, _, v, hv => by
   left
   show (List.replicate (p.ins.toNat + 1) (-1 : Int))[v.toNat]?.getD default = -1
   have : vlen p 0 = p.ins.toNat + 1 := List.length_replicate
   rw [List.getElem?_replicate, if_pos (by omega)]; rfl
 | k + 1, hk, v, hv => by
   by_cases hn : nAt p k = true
   · rw [vlen_yes hn] at hv
     by_cases hl : v < vlen p k
     · rw [tl_step hR (by omega) hn ⟨hv.1, hl⟩]
       by_cases hd : v = dueA p k ∨ v = dueB p k
       · rw [if_pos hd]; exact .inr ⟨k, by omega, rfl, hn, hd⟩
       · rw [if_neg hd]
         rcases tl_said hR k (by omega) v ⟨hv.1, hl⟩ with h | ⟨t, h1, h2, h3⟩
         · exact .inl h
         · exact .inr ⟨t, by omega, h2, h3⟩
     · have : v = vlen p k := by omega
       rw [this]; exact .inl (tl_new hn)
   · rw [vlen_no hn] at hv
     rw [life_no hn]
     rcases tl_said hR k (by omega) v hv with h | ⟨t, h1, h2, h3⟩
     · exact .inl h
     · exact .inr ⟨t, by omega, h2, h3⟩
theorem tl_grow {p : PV} (hR : rightP p = true) {k : Nat} {v : Int} (hv : 0 ≤ v ∧ v < vlen p k) : ∀ (j : Nat), k ≤ j → j ≤ p.code.length → tl (lifeTo p k) v ≤ tl (lifeTo p j) v
 | 0, h, _ => by rw [Nat.le_zero.1 h]; exact Int.le_refl _
 | j + 1, h, hj => by
   by_cases hk : k = j + 1
   · rw [hk]; exact Int.le_refl _
   · have h1 := tl_grow hR hv j (by omega) (by omega)
     have hm := vlen_mono p (show k ≤ j by omega)
     by_cases hn : nAt p j = true
     · rw [tl_step hR (by omega) hn (by omega)]
       split
       · rcases tl_said hR k (by omega) v hv with h2 | ⟨t, h2, h3, _⟩ <;> omega
       · exact h1
     · rw [life_no hn]; exact h1
theorem out_len (p : PV) : ∀ j, (outTo p j).till.length = vlen p p.code.length
 | 0 => rfl
 | j + 1 => by show ((outTo p j).till.set _ _).length = _; rw [List.length_set]; exact out_len p j
theorem outTo_held' (p : PV) : ∀ j, (outTo p j).held = (lifeTo p p.code.length).held
 | 0 => rfl
 | j + 1 => outTo_held' p j
theorem out_tl {p : PV} (hR : rightP p = true) {v : Int} (hv : 0 ≤ v ∧ v < vlen p p.code.length) : ∀ (j : Nat), j ≤ p.outs.length →
 (tl (outTo p j) v = tl (lifeTo p p.code.length) v ∨ tl (outTo p j) v = p.code.length ∧ ∃ r, (0 ≤ r ∧ r < p.regs) ∧ heldAt p p.code.length r = v) ∧
 (∀ i : Nat, i < j → heldAt p p.code.length (p.outs[((i : Nat) : Int).toNat]?.getD default) = v → tl (outTo p j) v = p.code.length)
 | 0, _ => ⟨.inl rfl, fun i hi => by omega⟩
 | j + 1, hj => by
   obtain ⟨h1, h2⟩ := out_tl hR hv j (by omega)
   have hr := out_may hR (show j < p.outs.length by omega)
   have hh : (outTo p j).held[(p.outs[((j : Nat) : Int).toNat]?.getD default).toNat]?.getD default = heldAt p p.code.length (p.outs[((j : Nat) : Int).toNat]?.getD default) := by unfold heldAt; rw [outTo_held']
   have hin := held_in hR (Nat.le_refl _) hr
   have e : tl (outTo p (j + 1)) v = if heldAt p p.code.length (p.outs[((j : Nat) : Int).toNat]?.getD default) = v then (p.code.length : Int) else tl (outTo p j) v := by
    unfold tl
    show ((outTo p j).till.set _ _)[v.toNat]?.getD default = _
    rw [hh, ints_get_set (by rw [out_len]; exact hv), Int.toNat_of_nonneg hin.1]
   by_cases hd : heldAt p p.code.length (p.outs[((j : Nat) : Int).toNat]?.getD default) = v
   · rw [if_pos hd] at e
     exact ⟨.inr ⟨e, _, hr, hd⟩, fun _ _ _ => e⟩
   · rw [if_neg hd] at e
     rw [e]
     refine ⟨h1, fun i hi hiv => ?_⟩
     by_cases hij : i = j
     · subst hij; exact absurd hiv hd
     · exact h2 i (by omega) hiv
def due (p : PV) (v : Int) : Int := tl (lifeP p) v
theorem due_ge {p : PV} (hR : rightP p = true) {k : Nat} {v : Int} (hk : k ≤ p.code.length) (hv : 0 ≤ v ∧ v < vlen p k) : tl (lifeTo p k) v ≤ due p v := by
 have h1 := tl_grow hR hv p.code.length hk (Nat.le_refl _)
 have hv2 : 0 ≤ v ∧ v < vlen p p.code.length := ⟨hv.1, by have := vlen_mono p hk; omega⟩
 unfold due lifeP
 rcases (out_tl hR hv2 p.outs.length (Nat.le_refl _)).1 with h2 | ⟨h2, _⟩
 · rw [h2]; exact h1
 · rw [h2]
   rcases tl_said hR p.code.length (Nat.le_refl _) v hv2 with h3 | ⟨t, h3, h4, _⟩ <;> omega
theorem due_asked {p : PV} (hR : rightP p = true) {k : Nat} (hk : k < p.code.length) {v : Int} (h : Asked p k v) : (k : Int) ≤ due p v := by
 obtain ⟨hn, hd⟩ := h
 have hin := due_in hR hk
 have hv : 0 ≤ v ∧ v < vlen p k := by rcases hd with h | h <;> rw [h] <;> first | exact hin.1 | exact hin.2
 have h1 := due_ge hR (k := k + 1) (v := v) (by omega) ⟨hv.1, by rw [vlen_yes hn]; omega⟩
 rw [tl_step hR hk hn hv, if_pos hd] at h1
 exact h1
theorem due_out {p : PV} (hR : rightP p = true) {i : Nat} (hi : i < p.outs.length) : due p (heldAt p p.code.length (p.outs[((i : Nat) : Int).toNat]?.getD default)) = p.code.length :=
 (out_tl hR (held_in hR (Nat.le_refl _) (out_may hR hi)) p.outs.length (Nat.le_refl _)).2 i hi rfl
theorem due_who {p : PV} (hR : rightP p = true) {v : Int} (hv : 0 ≤ v ∧ v < vlen p p.code.length) : due p v = -1 ∨ (∃ t : Nat, t < p.code.length ∧ due p v = t ∧ Asked p t v) ∨ (due p v = p.code.length ∧ ∃ r, (0 ≤ r ∧ r < p.regs) ∧ heldAt p p.code.length r = v) := by
 unfold due lifeP
 rcases (out_tl hR hv p.outs.length (Nat.le_refl _)).1 with h2 | h2
 · rw [h2]
   rcases tl_said hR p.code.length (Nat.le_refl _) v hv with h | h
   · exact .inl h
   · exact .inr (.inl h)
 · exact .inr (.inr h2)
theorem due_stands {p : PV} (hR : rightP p = true) {k : Nat} (hk : k ≤ p.code.length) {v : Int} (hv : 0 ≤ v ∧ v < vlen p k) (hd : (k : Int) ≤ due p v) : ∃ r, (0 ≤ r ∧ r < p.regs) ∧ heldAt p k r = v := by
 have hv2 : 0 ≤ v ∧ v < vlen p p.code.length := ⟨hv.1, by have := vlen_mono p hk; omega⟩
 rcases due_who hR hv2 with h | ⟨t, ht, h, hn, ha⟩ | ⟨h, r, hr, e⟩
 · omega
 · have h9 := due_held hR ht
   have h8 : ∃ r, (0 ≤ r ∧ r < p.regs) ∧ heldAt p t r = v := by rcases ha with e | e <;> rw [e] <;> first | exact h9.1 | exact h9.2
   obtain ⟨r, hr, e⟩ := h8
   exact ⟨r, hr, (held_back hR hr t (by omega) (by omega) (by rw [e]; exact hv.2)).trans e⟩
 · exact ⟨r, hr, (held_back hR hr p.code.length hk (Nat.le_refl _) (by rw [e]; exact hv.2)).trans e⟩
theorem need_from {p : PV} (hR : rightP p = true) {k : Nat} (hk : k < p.code.length) : nAt p k = fromAt p (cAt p k).to (k + 1) := by
 have h1 := rf_at p hk
 have h2 := rf_drop p p.code k
 unfold nAt
 rw [needed_rf hR, Int.toNat_natCast]
 have h3 : (rf p p.code)[k]? = ((rf p p.code).drop k)[0]? := by rw [List.getElem?_drop, Nat.add_zero]
 rw [h3, h2, h1]
 rfl
theorem from_due {p : PV} (hR : rightP p = true) {r : Int} (hr : 0 ≤ r ∧ r < p.regs) : ∀ (d j : Nat), j + d = p.code.length → fromAt p r j = true → (j : Int) ≤ due p (heldAt p j r)
 | 0, j, hj, h => by
   have hj' : j = p.code.length := by omega
   subst hj'
   rw [fromAt_end p r (Nat.le_refl _), decide_eq_true_eq] at h
   obtain ⟨i, hi, e⟩ := List.mem_iff_getElem.1 h
   have := due_out hR hi
   rw [Int.toNat_natCast, List.getElem?_eq_getElem hi, Option.getD_some, e] at this
   omega
 | d + 1, j, hj, h => by
   have hjn : j < p.code.length := by omega
   have hcj : p.code[j]?.getD default = cAt p j := by unfold cAt; rw [Int.toNat_natCast]
   rw [fromAt_step p r hjn, hcj, Bool.or_eq_true, Bool.and_eq_true, Bool.and_eq_true, decide_eq_true_eq, ← need_from hR hjn] at h
   rcases h with ⟨hn, ha⟩ | ⟨ht, hf⟩
   · refine due_asked hR hjn ⟨hn, ?_⟩
     unfold asks at ha
     split at ha
     · rename_i h34
       rcases List.mem_cons.1 ha with e | ha
       · left; rw [e]; rfl
       · right
         rw [List.mem_singleton.1 ha]
         exact (if_pos (by rw [two_iff]; exact h34)).symm
     · split at ha
       · left; rw [List.mem_singleton.1 ha]; rfl
       · cases ha
   · have ih := from_due hR hr d (j + 1) (by omega) hf
     have hne : ¬ (cAt p j).to = r := by simpa using ht
     by_cases hn : nAt p j = true
     · rw [held_yes hR hjn hn hr, if_neg hne] at ih; omega
     · rw [held_no hn] at ih; omega
theorem new_due {p : PV} (hR : rightP p = true) {k : Nat} (hk : k < p.code.length) (hn : nAt p k = true) : ((k + 1 : Nat) : Int) ≤ due p (vlen p k) := by
 have ht := (may_facts (code_may hR hk)).2.1
 have h1 := hn
 rw [need_from hR hk] at h1
 have h2 := from_due hR ht (p.code.length - (k + 1)) (k + 1) (by omega) h1
 rw [held_yes hR hk hn ht, if_pos rfl] at h2
 exact h2
end Go.Proofs.YtbppmiimeccclaaDoor
set_option linter.unusedVariables false
namespace Go.Proofs.YtbppmiimeccclaaDoor
open Go Go.Sl
theorem ab_keep (p : PV) {k : Nat} : ∀ (j : Nat), k < j → (lifeTo p j).a[((k : Nat) : Int).toNat]?.getD default = (lifeTo p (k + 1)).a[((k : Nat) : Int).toNat]?.getD default ∧ (lifeTo p j).b[((k : Nat) : Int).toNat]?.getD default = (lifeTo p (k + 1)).b[((k : Nat) : Int).toNat]?.getD default ∧ (lifeTo p j).sets[((k : Nat) : Int).toNat]?.getD default = (lifeTo p (k + 1)).sets[((k : Nat) : Int).toNat]?.getD default
 | 0, h => absurd h (Nat.not_lt_zero _)
 | j + 1, h => by
   by_cases hk : k = j
   · rw [hk]; exact ⟨rfl, rfl, rfl⟩
   · have ih := ab_keep p (k := k) j (by omega)
     by_cases hn : nAt p j = true
     · rw [life_yes hn]
       refine ⟨?_, ?_, ?_⟩
       · show ((lifeTo p j).a.set j _)[((k : Nat) : Int).toNat]?.getD default = _
         rw [List.getElem?_set, if_neg (by omega)]; exact ih.1
       · show ((lifeTo p j).b.set j _)[((k : Nat) : Int).toNat]?.getD default = _
         rw [List.getElem?_set, if_neg (by omega)]; exact ih.2.1
       · show ((lifeTo p j).sets.set j _)[((k : Nat) : Int).toNat]?.getD default = _
         rw [List.getElem?_set, if_neg (by omega)]; exact ih.2.2
     · rw [life_no hn]; exact ih
theorem out_abs (p : PV) : ∀ j, (outTo p j).a = (lifeTo p p.code.length).a ∧ (outTo p j).b = (lifeTo p p.code.length).b ∧ (outTo p j).sets = (lifeTo p p.code.length).sets
 | 0 => ⟨rfl, rfl, rfl⟩
 | j + 1 => out_abs p j
theorem set_here {l : List Int} {k : Nat} {x : Int} (h : k < l.length) : (l.set k x)[((k : Nat) : Int).toNat]?.getD default = x := by
 rw [Int.toNat_natCast, List.getElem?_set_self h]; rfl
theorem life_abs {p : PV} (hR : rightP p = true) {k : Nat} (hk : k < p.code.length) (hn : nAt p k = true) :
 (lifeP p).a[((k : Nat) : Int).toNat]?.getD default = dueA p k ∧ (lifeP p).b[((k : Nat) : Int).toNat]?.getD default = dueB p k ∧ (lifeP p).sets[((k : Nat) : Int).toNat]?.getD default = vlen p k := by
 obtain ⟨o1, o2, o3⟩ := out_abs p p.outs.length
 obtain ⟨k1, k2, k3⟩ := ab_keep p p.code.length hk
 have ok := lifeTo_ok hR k (by omega)
 unfold lifeP
 rw [o1, o2, o3, k1, k2, k3, life_yes hn]
 exact ⟨set_here (by rw [ok.al]; exact hk), set_here (by rw [ok.bl]; exact hk), set_here (by rw [ok.sl]; exact hk)⟩
theorem pigeon : ∀ (n : Nat) (f : Nat → Nat) (m : Nat), (∀ i, i < m → f i < n) → (∀ i j, i < m → j < m → f i = f j → i = j) → m ≤ n
 | 0, f, m, h, _ => by
   cases m with
   | zero => exact Nat.le_refl _
   | succ m => exact absurd (h 0 (by omega)) (Nat.not_lt_zero _)
 | n + 1, f, m, h, hi => by
   by_cases hx : ∃ i, i < m ∧ f i = n
   · obtain ⟨a, ha, hfa⟩ := hx
     have := pigeon n (fun i => if i < a then f i else f (i + 1)) (m - 1) (fun i hm => by
      show (if i < a then f i else f (i + 1)) < n
      split
      · have h1 := h i (by omega)
        have h2 : f i ≠ n := fun e => by have := hi i a (by omega) ha (e.trans hfa.symm); omega
        omega
      · have h1 := h (i + 1) (by omega)
        have h2 : f (i + 1) ≠ n := fun e => by have := hi (i + 1) a (by omega) ha (e.trans hfa.symm); omega
        omega) (fun i j hi' hj' e => by
      have e : (if i < a then f i else f (i + 1)) = (if j < a then f j else f (j + 1)) := e
      split at e <;> split at e
      · exact hi i j (by omega) (by omega) e
      · have := hi i (j + 1) (by omega) (by omega) e; omega
      · have := hi (i + 1) j (by omega) (by omega) e; omega
      · have := hi (i + 1) (j + 1) (by omega) (by omega) e; omega)
     omega
   · have := pigeon n f m (fun i hm => by
      have h1 := h i hm
      have h2 : f i ≠ n := fun e => hx ⟨i, hm, e⟩
      omega) hi
     omega
def Alive (p : PV) (k : Nat) (v : Int) : Prop := (0 ≤ v ∧ v < vlen p k) ∧ (k : Int) ≤ due p v
def fr (s : Pl) (r : Int) : Bool := s.free[r.toNat]?.getD default
theorem bools_get_set {l : List Bool} {k : Nat} {x : Bool} {r : Int} (hr : 0 ≤ r ∧ r < l.length) : (l.set k x)[r.toNat]?.getD default = if (k : Int) = r then x else l[r.toNat]?.getD default := by
 rw [List.getElem?_set]
 by_cases h : k = r.toNat
 · rw [if_pos h, if_pos (by omega), if_pos (by omega)]; rfl
 · rw [if_neg h, if_neg (by omega)]
theorem fr_free {p : PV} {k : Nat} {s : Pl} {v r : Int} (hs : PlOk s) (hr : 0 ≤ r ∧ r < s.free.length) : fr (freeAt (lifeP p) k s v) r = (fr s r || decide (due p v = k ∧ stand s v = r)) := by
 have hv := hs.ab v
 unfold fr freeAt
 by_cases h : (lifeP p).till[v.toNat]?.getD default = (k : Int)
 · rw [if_pos h]
   show (s.free.set _ true)[r.toNat]?.getD default = _
   rw [bools_get_set hr, Int.toNat_of_nonneg hv.1]
   by_cases e : stand s v = r
   · rw [if_pos e, decide_eq_true ⟨h, e⟩, Bool.or_true]
   · rw [if_neg e, decide_eq_false (fun x => e x.2), Bool.or_false]
 · rw [if_neg h, decide_eq_false (fun x => h x.1), Bool.or_false]
theorem fr_give {s : Pl} {v r : Int} (hr : 0 ≤ r ∧ r < (giveP s v).free.length) : fr (giveP s v) r = if r = least s.free then false else fr s r := by
 have hl := give_len s v
 have hle := least_le s.free
 unfold fr giveP
 simp only
 by_cases h : least s.free < s.free.length
 · rw [if_pos h] at hl ⊢
   rw [bools_get_set (by omega)]
   by_cases e : r = least s.free
   · rw [if_pos e.symm, if_pos e]
   · rw [if_neg (fun x => e x.symm), if_neg e]
 · rw [if_neg h] at hl ⊢
   by_cases e : r = least s.free
   · rw [if_pos e, List.getElem?_append_right (by omega), e, Int.toNat_natCast, show least s.free - s.free.length = 0 by omega]; rfl
   · rw [if_neg e, List.getElem?_append_left (by omega)]
theorem least_free {l : List Bool} (h : least l < l.length) : l[least l]?.getD default = true := by
 rw [List.getElem?_eq_getElem h]
 unfold least at h ⊢
 exact List.findIdx_getElem (w := h)
theorem none_free {l : List Bool} (h : ¬ least l < l.length) (r : Nat) (hr : r < l.length) : l[r]?.getD default = false := by
 have h1 : l.findIdx (fun b => b) = l.length := by unfold least at h; have := least_le l; unfold least at this; omega
 rw [List.getElem?_eq_getElem hr]
 exact (List.findIdx_eq_length.1 h1) _ (List.getElem_mem hr)
structure Occ (p : PV) (k : Nat) (s : Pl) : Prop where
 ok : PlOk s
 i1 : ∀ v, Alive p k v → fr s (stand s v) = false
 i2 : ∀ v w, Alive p k v → Alive p k w → stand s v = stand s w → v = w
 i3 : ∀ r : Int, 0 ≤ r ∧ r < s.free.length → fr s r = false → ∃ v, Alive p k v ∧ stand s v = r
 i5 : (s.free.length : Int) ≤ p.regs
theorem alive_no {p : PV} (hR : rightP p = true) {k : Nat} (hk : k < p.code.length) (hn : ¬ nAt p k = true) {v : Int} : Alive p (k + 1) v ↔ Alive p k v := by
 unfold Alive
 rw [vlen_no hn]
 constructor
 · rintro ⟨h1, h2⟩; exact ⟨h1, by omega⟩
 · rintro ⟨h1, h2⟩
   refine ⟨h1, ?_⟩
   have hv2 : 0 ≤ v ∧ v < vlen p p.code.length := ⟨h1.1, by have := vlen_mono p (show k ≤ p.code.length by omega); omega⟩
   rcases due_who hR hv2 with h | ⟨t, ht, h, ha, _⟩ | ⟨h, _⟩
   · omega
   · by_cases e : t = k
     · subst e; exact absurd ha hn
     · omega
   · omega
theorem alive_yes {p : PV} (hR : rightP p = true) {k : Nat} (hk : k < p.code.length) (hn : nAt p k = true) {v : Int} : Alive p (k + 1) v ↔ v = vlen p k ∨ (Alive p k v ∧ due p v ≠ k) := by
 have hnew := new_due hR hk hn
 unfold Alive
 rw [vlen_yes hn]
 constructor
 · rintro ⟨h1, h2⟩
   by_cases e : v = vlen p k
   · exact .inl e
   · exact .inr ⟨⟨by omega, by omega⟩, by omega⟩
 · rintro (e | ⟨⟨h1, h2⟩, h3⟩)
   · subst e; exact ⟨by omega, hnew⟩
   · exact ⟨by omega, by omega⟩
theorem alive_due {p : PV} (hR : rightP p = true) {k : Nat} (hk : k < p.code.length) (hn : nAt p k = true) : Alive p k (dueA p k) ∧ Alive p k (dueB p k) :=
 ⟨⟨(due_in hR hk).1, due_asked hR hk ⟨hn, .inl rfl⟩⟩, ⟨(due_in hR hk).2, due_asked hR hk ⟨hn, .inr rfl⟩⟩⟩
theorem last_due {p : PV} (hR : rightP p = true) {k : Nat} (hk : k < p.code.length) {v : Int} (ha : Alive p k v) (hd : due p v = k) : v = dueA p k ∨ v = dueB p k := by
 have hv2 : 0 ≤ v ∧ v < vlen p p.code.length := ⟨ha.1.1, by have := vlen_mono p (show k ≤ p.code.length by omega); have := ha.1.2; omega⟩
 rcases due_who hR hv2 with h | ⟨t, ht, h, _, h4⟩ | ⟨h, _⟩
 · omega
 · have e : t = k := by omega
   subst e; exact h4
 · omega
def s2P (p : PV) (k : Nat) (s : Pl) : Pl := freeAt (lifeP p) k (freeAt (lifeP p) k s (dueA p k)) (dueB p k)
theorem s2_len (p : PV) (k : Nat) (s : Pl) : (s2P p k s).free.length = s.free.length := by unfold s2P; rw [freeAt_len, freeAt_len]
theorem s2_stand (p : PV) (k : Nat) (s : Pl) (w : Int) : stand (s2P p k s) w = stand s w := by unfold s2P; rw [freeAt_stand, freeAt_stand]
theorem s2_fr {p : PV} {k : Nat} {s : Pl} (hs : PlOk s) {r : Int} (hr : 0 ≤ r ∧ r < s.free.length) : fr (s2P p k s) r = (fr s r || decide (due p (dueA p k) = k ∧ stand s (dueA p k) = r) || decide (due p (dueB p k) = k ∧ stand s (dueB p k) = r)) := by
 unfold s2P
 rw [fr_free (freeAt_ok hs) (by rw [freeAt_len]; exact hr), fr_free hs hr, freeAt_stand]
theorem s2_false {p : PV} {k : Nat} {s : Pl} (hs : PlOk s) {r : Int} (hr : 0 ≤ r ∧ r < s.free.length) : fr (s2P p k s) r = false ↔ fr s r = false ∧ ¬ (due p (dueA p k) = k ∧ stand s (dueA p k) = r) ∧ ¬ (due p (dueB p k) = k ∧ stand s (dueB p k) = r) := by
 rw [s2_fr hs hr, Bool.or_eq_false_iff, Bool.or_eq_false_iff, decide_eq_false_iff_not, decide_eq_false_iff_not, and_assoc]
theorem left {p : PV} (hR : rightP p = true) {k : Nat} (hk : k < p.code.length) (hn : nAt p k = true) {s : Pl} (h : Occ p k s) :
 (∀ v, Alive p k v → due p v ≠ k → fr (s2P p k s) (stand s v) = false) ∧ (∀ r : Int, 0 ≤ r ∧ r < s.free.length → fr (s2P p k s) r = false → ∃ v, Alive p k v ∧ due p v ≠ k ∧ stand s v = r) := by
 obtain ⟨hA, hB⟩ := alive_due hR hk hn
 refine ⟨fun v hv hd => ?_, fun r hr hf => ?_⟩
 · rw [s2_false h.ok (h.ok.ab v)]
   refine ⟨h.i1 v hv, fun e => ?_, fun e => ?_⟩
   · have := h.i2 _ _ hA hv e.2; rw [this] at e; exact hd e.1
   · have := h.i2 _ _ hB hv e.2; rw [this] at e; exact hd e.1
 · rw [s2_false h.ok hr] at hf
   obtain ⟨v, hv, e⟩ := h.i3 r hr hf.1
   refine ⟨v, hv, fun hd => ?_, e⟩
   rcases last_due hR hk hv hd with h1 | h1
   · rw [h1] at hd e; exact hf.2.1 ⟨hd, e⟩
   · rw [h1] at hd e; exact hf.2.2 ⟨hd, e⟩
theorem occ_yes {p : PV} (hR : rightP p = true) {k : Nat} (hk : k < p.code.length) (hn : nAt p k = true) {s : Pl} (h : Occ p k s) : Occ p (k + 1) (giveP (s2P p k s) (vlen p k)) := by
 obtain ⟨l1, l2⟩ := left hR hk hn h
 have hok2 : PlOk (s2P p k s) := freeAt_ok (freeAt_ok h.ok)
 have hlen := give_len (s2P p k s) (vlen p k)
 have hle := least_le (s2P p k s).free
 have h2l := s2_len p k s
 have hst : ∀ w, stand (giveP (s2P p k s) (vlen p k)) w = if w = vlen p k then (least (s2P p k s).free : Int) else stand s w := fun w => by rw [give_stand, s2_stand]
 have hold : ∀ v, Alive p k v → v ≠ vlen p k := fun v hv e => by have := hv.1.2; omega
 have hne : ∀ v, Alive p k v → due p v ≠ k → stand s v ≠ least (s2P p k s).free := fun v hv hd e => by
  have h1 := l1 v hv hd
  have h3 := h.ok.ab v
  by_cases hlt : least (s2P p k s).free < (s2P p k s).free.length
  · have := least_free hlt
    unfold fr at h1
    rw [e, Int.toNat_natCast, this] at h1; cases h1
  · omega
 have hgl : ∀ r : Int, r < (s2P p k s).free.length → r < (giveP (s2P p k s) (vlen p k)).free.length := fun r hr => by rw [hlen]; split <;> omega
 have hrr : (least (s2P p k s).free : Int) < (giveP (s2P p k s) (vlen p k)).free.length := by rw [hlen]; split <;> omega
 refine ⟨give_ok hok2 _, fun v hv => ?_, fun v w hv hw e => ?_, fun r hr hf => ?_, ?_⟩
 · rw [hst]
   rcases (alive_yes hR hk hn).1 hv with e | ⟨ha, hd⟩
   · rw [if_pos e, fr_give ⟨by omega, hrr⟩, if_pos rfl]
   · rw [if_neg (hold v ha)]
     have h3 := h.ok.ab v
     rw [fr_give ⟨h3.1, hgl _ (by omega)⟩, if_neg (hne v ha hd)]
     exact l1 v ha hd
 · rw [hst, hst] at e
   rcases (alive_yes hR hk hn).1 hv with ev | ⟨ha, hd⟩ <;> rcases (alive_yes hR hk hn).1 hw with ew | ⟨ha', hd'⟩
   · rw [ev, ew]
   · rw [if_pos ev, if_neg (hold w ha')] at e; exact absurd e.symm (hne w ha' hd')
   · rw [if_neg (hold v ha), if_pos ew] at e; exact absurd e (hne v ha hd)
   · rw [if_neg (hold v ha), if_neg (hold w ha')] at e; exact h.i2 v w ha ha' e
 · by_cases e : r = least (s2P p k s).free
   · exact ⟨vlen p k, (alive_yes hR hk hn).2 (.inl rfl), by rw [hst, if_pos rfl, e]⟩
   · rw [fr_give hr, if_neg e] at hf
     have hr2 : r < s.free.length := by rw [hlen] at hr; split at hr <;> omega
     obtain ⟨v, ha, hd, hs⟩ := l2 r ⟨hr.1, hr2⟩ hf
     exact ⟨v, (alive_yes hR hk hn).2 (.inr ⟨ha, hd⟩), by rw [hst, if_neg (hold v ha)]; exact hs⟩
 · rw [hlen]
   split
   · rw [h2l]; exact h.i5
   · rename_i hlt
     obtain ⟨f1, f2, f3, _⟩ := right_facts hR
     have hto := (may_facts (code_may hR hk)).2.1
     have key : ∀ r : Nat, r < s.free.length → ∃ q : Nat, q < p.regs.toNat ∧ ∃ v, stand s v = r ∧ heldAt p (k + 1) q = v ∧ v < vlen p k := fun r hr => by
      have hf : fr (s2P p k s) (r : Int) = false := by unfold fr; rw [Int.toNat_natCast]; exact none_free hlt r (by omega)
      obtain ⟨v, ha, hd, hs⟩ := l2 r (by omega) hf
      have ha2 := (alive_yes hR hk hn).2 (.inr ⟨ha, hd⟩)
      obtain ⟨q, hq, e⟩ := due_stands hR (show k + 1 ≤ p.code.length by omega) ha2.1 ha2.2
      exact ⟨q.toNat, by omega, v, hs, by rw [Int.toNat_of_nonneg hq.1]; exact e, ha.1.2⟩
     have hm := pigeon p.regs.toNat (fun r => if hr : r < s.free.length then Classical.choose (key r hr) else (cAt p k).to.toNat) (s.free.length + 1) (fun i hi => by
      show (if hr : i < s.free.length then _ else _) < _
      split
      · rename_i hr; exact (Classical.choose_spec (key i hr)).1
      · omega) (fun i j hi hj e => by
      have e : (if hr : i < s.free.length then Classical.choose (key i hr) else (cAt p k).to.toNat) = (if hr : j < s.free.length then Classical.choose (key j hr) else (cAt p k).to.toNat) := e
      have hnew : heldAt p (k + 1) (((cAt p k).to.toNat : Nat) : Int) = vlen p k := by rw [Int.toNat_of_nonneg hto.1, held_yes hR hk hn hto, if_pos rfl]
      split at e <;> split at e
      · rename_i h1 h3
        obtain ⟨_, v, a1, a2, a3⟩ := Classical.choose_spec (key i h1)
        obtain ⟨_, w, b1, b2, b3⟩ := Classical.choose_spec (key j h3)
        rw [e, b2] at a2
        rw [← a2, b1] at a1
        omega
      · rename_i h1 h3
        obtain ⟨_, v, a1, a2, a3⟩ := Classical.choose_spec (key i h1)
        rw [e, hnew] at a2
        omega
      · rename_i h1 h3
        obtain ⟨_, w, b1, b2, b3⟩ := Classical.choose_spec (key j h3)
        rw [← e, hnew] at b2
        omega
      · omega)
     rw [h2l]; omega
end Go.Proofs.YtbppmiimeccclaaDoor
set_option linter.unusedVariables false
namespace Go.Proofs.YtbppmiimeccclaaDoor
open Go Go.Sl
theorem held_zero {p : PV} {r : Int} (hr : 0 ≤ r ∧ r < p.regs) : heldAt p 0 r = min r p.ins := by
 unfold heldAt
 show ((List.range p.regs.toNat).map fun (r : Nat) => min (r : Int) p.ins)[r.toNat]?.getD default = _
 rw [List.getElem?_map, List.getElem?_range (by omega)]
 show min ((r.toNat : Nat) : Int) p.ins = _
 rw [Int.toNat_of_nonneg hr.1]
theorem vlen_zero (p : PV) : vlen p 0 = p.ins.toNat + 1 := List.length_replicate
theorem lay_said {l : Life} {s : Pl} {n : Nat} (hl : s.free.length = n) (h : ∀ v : Int, 0 ≤ v ∧ v < n → stand s v = v ∧ fr s v = decide (tl l v < 0)) (v : Int) (hv : 0 ≤ v ∧ v < n + 1) :
 stand (layP s n (l.till[((n : Nat) : Int).toNat]?.getD default)) v = v ∧ fr (layP s n (l.till[((n : Nat) : Int).toNat]?.getD default)) v = decide (tl l v < 0) := by
 have h1 : stand (layP s n (l.till[((n : Nat) : Int).toNat]?.getD default)) v = if v = n then (s.free.length : Int) else stand s v := stand_put s _ v _ _
 rw [h1]
 by_cases e : v = n
 · subst e
   rw [if_pos rfl]
   refine ⟨by omega, ?_⟩
   unfold fr
   show (s.free ++ [_])[((n : Nat) : Int).toNat]?.getD default = _
   rw [Int.toNat_natCast, List.getElem?_append_right (by omega), hl, Nat.sub_self]
   rfl
 · rw [if_neg e]
   obtain ⟨h2, h3⟩ := h v (by omega)
   refine ⟨h2, ?_⟩
   rw [← h3]
   unfold fr
   show (s.free ++ [_])[v.toNat]?.getD default = _
   rw [List.getElem?_append_left (by omega)]
theorem layTo_said (l : Life) : ∀ (n : Nat) (v : Int), 0 ≤ v ∧ v < n → stand (layTo l n) v = v ∧ fr (layTo l n) v = decide (tl l v < 0)
 | 0, v, h => by omega
 | n + 1, v, h => lay_said (layTo_len l n) (layTo_said l n) v (by omega)
theorem lay0_said {p : PV} (h1 : 1 ≤ p.ins) : (((lay0 p (lifeP p)).free.length : Int) = p.ins ∨ (((lay0 p (lifeP p)).free.length : Int) = p.ins + 1 ∧ 0 ≤ due p p.ins)) ∧ (0 ≤ due p p.ins → ((lay0 p (lifeP p)).free.length : Int) = p.ins + 1) ∧
 ∀ v : Int, 0 ≤ v ∧ v < (lay0 p (lifeP p)).free.length → stand (lay0 p (lifeP p)) v = v ∧ fr (lay0 p (lifeP p)) v = decide (due p v < 0) := by
 have hl := layTo_len (lifeP p) p.ins.toNat
 have hs := layTo_said (lifeP p) p.ins.toNat
 unfold lay0
 by_cases hd : 0 ≤ (lifeP p).till[p.ins.toNat]?.getD default
 · rw [if_pos hd]
   have hl2 : (layP (layTo (lifeP p) p.ins.toNat) p.ins ((lifeP p).till[p.ins.toNat]?.getD default)).free.length = p.ins.toNat + 1 := by
    show ((layTo (lifeP p) p.ins.toNat).free ++ [_]).length = _
    rw [List.length_append, hl]; rfl
   rw [hl2]
   refine ⟨.inr ⟨by omega, hd⟩, fun _ => by omega, fun v hv => ?_⟩
   have := lay_said hl hs v (by omega)
   rw [Int.toNat_natCast, Int.toNat_of_nonneg (by omega : 0 ≤ p.ins)] at this
   exact this
 · rw [if_neg hd, hl]
   refine ⟨.inl (by omega), fun h => absurd h hd, fun v hv => hs v (by omega)⟩
theorem occ_zero {p : PV} (hR : rightP p = true) : Occ p 0 (lay0 p (lifeP p)) := by
 obtain ⟨f1, f2, f3, _⟩ := right_facts hR
 obtain ⟨g1, g2, g3⟩ := lay0_said f1
 have hz := vlen_zero p
 have hin : ∀ v, Alive p 0 v → 0 ≤ v ∧ v < (lay0 p (lifeP p)).free.length := fun v hv => by
  have h1 := hv.1
  have h2 := hv.2
  by_cases e : v = p.ins
  · subst e; have := g2 h2; omega
  · rcases g1 with g1 | g1 <;> omega
 refine ⟨(lay0_ok f1 _).1, fun v hv => ?_, fun v w hv hw e => ?_, fun r hr hf => ?_, ?_⟩
 · rw [(g3 v (hin v hv)).1, (g3 v (hin v hv)).2]
   have := hv.2
   exact decide_eq_false (by omega)
 · rw [(g3 v (hin v hv)).1, (g3 w (hin w hw)).1] at e; exact e
 · have h1 := (g3 r hr).2
   rw [hf] at h1
   have h2 := of_decide_eq_false h1.symm
   exact ⟨r, ⟨⟨hr.1, by rcases g1 with g1 | g1 <;> omega⟩, by omega⟩, (g3 r hr).1⟩
 · rcases g1 with g1 | ⟨g1, g4⟩
   · omega
   · obtain ⟨r, hr, e⟩ := due_stands hR (Nat.zero_le _) (v := p.ins) (by omega) g4
     rw [held_zero hr] at e
     omega
theorem pk_yes {p : PV} (hR : rightP p = true) {k : Nat} (hk : k < p.code.length) (hn : nAt p k = true) :
 pkTo p (k + 1) = ⟨giveP (s2P p k (pkTo p k).s) (vlen p k), max (pkTo p k).regs ((least (s2P p k (pkTo p k).s).free : Int) + 1),
  (pkTo p k).code ++ [⟨(cAt p k).op, least (s2P p k (pkTo p k).s).free, stand (pkTo p k).s (dueA p k), if 1 < (asks (cAt p k)).length then stand (pkTo p k).s (dueB p k) else (cAt p k).b, (cAt p k).c⟩]⟩ := by
 obtain ⟨h1, h2, h3⟩ := life_abs hR hk hn
 have e : pkTo p (k + 1) = pkStep (lifeP p) (pkTo p k) k (cAt p k) := if_pos hn
 rw [e]
 unfold pkStep
 simp only
 rw [h1, h2, h3]
 rfl
theorem pk_no {p : PV} {k : Nat} (hn : ¬ nAt p k = true) : pkTo p (k + 1) = pkTo p k := if_neg hn
theorem pk_occ {p : PV} (hR : rightP p = true) : ∀ k, k ≤ p.code.length → Occ p k (pkTo p k).s ∧ (pkTo p k).regs = (pkTo p k).s.free.length
 | 0, _ => by
   refine ⟨occ_zero hR, ?_⟩
   have := (lay0_ok (right_facts hR).1 (lifeP p)).2.1
   show max p.ins ((lay0 p (lifeP p)).free.length : Int) = ((lay0 p (lifeP p)).free.length : Int)
   omega
 | k + 1, hk => by
   obtain ⟨h1, h2⟩ := pk_occ hR k (by omega)
   by_cases hn : nAt p k = true
   · rw [pk_yes hR (by omega) hn]
     refine ⟨occ_yes hR (by omega) hn h1, ?_⟩
     show max (pkTo p k).regs ((least (s2P p k (pkTo p k).s).free : Int) + 1) = ((giveP (s2P p k (pkTo p k).s) (vlen p k)).free.length : Int)
     have hle := least_le (s2P p k (pkTo p k).s).free
     have hl := s2_len p k (pkTo p k).s
     rw [give_len, h2]
     split <;> omega
   · rw [pk_no hn]
     refine ⟨⟨h1.ok, fun v hv => h1.i1 v ((alive_no hR (by omega) hn).1 hv), fun v w hv hw => h1.i2 v w ((alive_no hR (by omega) hn).1 hv) ((alive_no hR (by omega) hn).1 hw), fun r hr hf => ?_, h1.i5⟩, h2⟩
     obtain ⟨v, hv, e⟩ := h1.i3 r hr hf
     exact ⟨v, (alive_no hR (by omega) hn).2 hv, e⟩
theorem pk_grow {p : PV} (hR : rightP p = true) {k : Nat} : ∀ j, k ≤ j → j ≤ p.code.length → (pkTo p k).s.free.length ≤ (pkTo p j).s.free.length
 | 0, h, _ => by rw [Nat.le_zero.1 h]; exact Nat.le_refl _
 | j + 1, h, hj => by
   by_cases e : k = j + 1
   · rw [e]; exact Nat.le_refl _
   · have ih := pk_grow hR j (by omega : k ≤ j) (by omega)
     by_cases hn : nAt p j = true
     · rw [pk_yes hR (by omega) hn]
       show _ ≤ (giveP (s2P p j (pkTo p j).s) (vlen p j)).free.length
       rw [give_len, s2_len]
       split <;> omega
     · rw [pk_no hn]; exact ih
theorem may_mono {i : Sl.Instr} {r r' : Int} (h : mayOk i r = true) (hr : r ≤ r') : mayOk i r' = true := by
 rw [mayOk_iff] at h ⊢
 obtain ⟨⟨h1, h2, h3, h4, h5, h6⟩, h7⟩ := h
 refine ⟨⟨h1, h2, h3, by omega, h5, by omega⟩, ?_⟩
 by_cases h34 : i.op = 3 ∨ i.op = 4
 · rw [if_pos h34] at h7 ⊢; exact ⟨h7.1, by omega, h7.2.2⟩
 · rw [if_neg h34] at h7 ⊢; exact h7
theorem may_turn {i : Sl.Instr} {regs R : Int} (h : mayOk i regs = true) {t a b : Int} (ht : 0 ≤ t ∧ t < R) (ha : 0 ≤ a ∧ a < R) (hb : 0 ≤ b ∧ b < R) :
 mayOk ⟨i.op, t, a, if 1 < (asks i).length then b else i.b, i.c⟩ R = true := by
 rw [mayOk_iff] at h ⊢
 obtain ⟨⟨h1, h2, h3, h4, h5, h6⟩, h7⟩ := h
 refine ⟨⟨h1, h2, ht.1, ht.2, ha.1, ha.2⟩, ?_⟩
 by_cases h34 : i.op = 3 ∨ i.op = 4
 · rw [if_pos h34] at h7
   rw [if_pos ((two_iff i).2 h34)]
   exact (if_pos h34).symm ▸ ⟨hb.1, hb.2, h7.2.2⟩
 · rw [if_neg h34] at h7
   rw [if_neg (fun e => h34 ((two_iff i).1 e))]
   exact (if_neg h34).symm ▸ h7
theorem pk_code {p : PV} (hR : rightP p = true) : ∀ k, k ≤ p.code.length → (∀ i ∈ (pkTo p k).code, mayOk i (pkTo p k).regs = true) ∧ (pkTo p k).code.length ≤ k
 | 0, _ => ⟨fun i hi => absurd hi (List.not_mem_nil), Nat.le_refl _⟩
 | k + 1, hk => by
   obtain ⟨h1, h2⟩ := pk_code hR k (by omega)
   obtain ⟨o1, o2⟩ := pk_occ hR k (by omega)
   obtain ⟨p1, p2⟩ := pk_occ hR (k + 1) hk
   have hg := pk_grow hR (k + 1) (show k ≤ k + 1 by omega) hk
   have hle := least_le (s2P p k (pkTo p k).s).free
   have h2l := s2_len p k (pkTo p k).s
   by_cases hn : nAt p k = true
   · have hm := code_may hR (show k < p.code.length by omega)
     have hA := o1.ok.ab (dueA p k)
     have hB := o1.ok.ab (dueB p k)
     have hreg : (pkTo p (k + 1)).regs = max (pkTo p k).regs ((least (s2P p k (pkTo p k).s).free : Int) + 1) := by rw [pk_yes hR (by omega) hn]
     have hcode : (pkTo p (k + 1)).code = (pkTo p k).code ++ [⟨(cAt p k).op, least (s2P p k (pkTo p k).s).free, stand (pkTo p k).s (dueA p k), if 1 < (asks (cAt p k)).length then stand (pkTo p k).s (dueB p k) else (cAt p k).b, (cAt p k).c⟩] := by rw [pk_yes hR (by omega) hn]
     rw [hcode]
     refine ⟨fun i hi => ?_, by rw [List.length_append]; show _ + 1 ≤ _; omega⟩
     rcases List.mem_append.1 hi with h | h
     · exact may_mono (h1 i h) (by omega)
     · rw [List.mem_singleton.1 h]
       exact may_turn hm (by omega) (by omega) (by omega)
   · rw [pk_no hn]; exact ⟨h1, by omega⟩
theorem order_right {p : PV} (hR : rightP p = true) : rightP (orderP p) = true := by
 obtain ⟨f1, f2, f3, f4, f5, f6, f7, f8⟩ := right_facts hR
 obtain ⟨o1, o2⟩ := pk_occ hR p.code.length (Nat.le_refl _)
 obtain ⟨c1, c2⟩ := pk_code hR p.code.length (Nat.le_refl _)
 have hg := pk_grow hR p.code.length (Nat.zero_le _) (Nat.le_refl _)
 have h0 := (lay0_ok f1 (lifeP p)).2.1
 have h0' : p.ins ≤ (pkTo p 0).s.free.length := h0
 have h5 := o1.i5
 have hol := lifeP_outs p
 have hlen : (orderP p).outs.length = p.outs.length := by show ((lifeP p).outs.map _).length = _; rw [List.length_map]; exact hol
 refine right_ofN ⟨f1, ?_, ?_, ?_, by omega, by omega⟩ ?_ c1
 · show p.ins ≤ (pkTo p p.code.length).regs; omega
 · show (pkTo p p.code.length).regs ≤ 128; omega
 · show (pkTo p p.code.length).code.length ≤ _; omega
 · intro r hr
   obtain ⟨v, _, rfl⟩ := List.mem_map.1 (show r ∈ (lifeP p).outs.map _ from hr)
   have := o1.ok.ab v
   show _ ∧ _ < (pkTo p p.code.length).regs
   omega
end Go.Proofs.YtbppmiimeccclaaDoor
set_option linter.unusedVariables false
namespace Go.Proofs.YtbppmiimeccclaaDoor
open Go Go.Sl
def rowAt (rs : List (List Int)) (r : Int) : List Int := rs[r.toNat]?.getD []
structure Sem (p : PV) (gs : List (List Int)) (k : Nat) (rs qs : List (List Int)) (E : Int → List Int) : Prop where
 run : runTo p gs k = some rs
 pack : runL (pkTo p k).code (regs0 (orderP p) gs) = some qs
 rl : (rs.length : Int) = p.regs
 ql : (qs.length : Int) = (orderP p).regs
 old : ∀ r : Int, 0 ≤ r ∧ r < p.regs → fromAt p r k = true → rowAt rs r = E (heldAt p k r)
 new : ∀ v, Alive p k v → rowAt qs (stand (pkTo p k).s v) = E v
theorem row_set {l : List (List Int)} {k : Nat} {x : List Int} {r : Int} (hr : 0 ≤ r ∧ r < l.length) : rowAt (l.set k x) r = if (k : Int) = r then x else rowAt l r := rows_get_set hr
theorem sem_zero {p : PV} {gs : List (List Int)} (hR : rightP p = true) (hg : (gs.length : Int) = p.ins) :
 Sem p gs 0 (regs0 p gs) (regs0 (orderP p) gs) (fun v => if v < gs.length then rowAt gs v else List.replicate (gs[0]?.getD []).length 0) := by
 obtain ⟨f1, f2, f3, _⟩ := right_facts hR
 obtain ⟨g1, g2, g3⟩ := lay0_said f1
 have hq := (pk_occ hR p.code.length (Nat.le_refl _)).2
 have hgr := pk_grow hR p.code.length (Nat.zero_le _) (Nat.le_refl _)
 have hqr : (orderP p).regs = (pkTo p p.code.length).regs := rfl
 have hz := vlen_zero p
 have row : ∀ (q : PV) (r : Int), 0 ≤ r ∧ r < q.regs → rowAt (regs0 q gs) r = if r < gs.length then rowAt gs r else List.replicate (gs[0]?.getD []).length 0 := fun q r hr => by
  unfold rowAt
  rw [regs0_at (by omega)]
  by_cases h : r < gs.length
  · rw [if_pos h, if_pos (by omega)]
  · rw [if_neg h, if_neg (by omega)]
 refine ⟨rfl, rfl, by rw [regs0_len]; omega, by rw [regs0_len]; omega, fun r hr _ => ?_, fun v hv => ?_⟩
 · rw [row p r hr, held_zero hr]
   by_cases h : r < gs.length
   · rw [if_pos h]
     show _ = if min r p.ins < _ then _ else _
     rw [show min r p.ins = r by omega, if_pos h]
   · rw [if_neg h]
     show _ = if min r p.ins < _ then _ else _
     rw [if_neg (by omega)]
 · have h1 := hv.1
   have h2 := hv.2
   have hvf : v < (lay0 p (lifeP p)).free.length := by
    by_cases e : v = p.ins
    · subst e; have := g2 h2; omega
    · rcases g1 with g1 | g1 <;> omega
   have h3 := (g3 v ⟨h1.1, hvf⟩).1
   have h3' : stand (pkTo p 0).s v = v := h3
   have hf0 : (pkTo p 0).s.free.length = (lay0 p (lifeP p)).free.length := rfl
   rw [h3', row (orderP p) v ⟨h1.1, by rw [hqr, hq]; omega⟩]
theorem doI_turn {i : Sl.Instr} {regs : Int} (hm : mayOk i regs = true) {rs qs : List (List Int)} {t a b : Int} (ha : rowAt qs a = rowAt rs i.a) (hb : 1 < (asks i).length → rowAt qs b = rowAt rs i.b) :
 doI ⟨i.op, t, a, if 1 < (asks i).length then b else i.b, i.c⟩ qs = doI i rs := by
 rw [doI_doV, doI_doV]
 show doV i.op i.c (rowAt qs a) (rowAt qs (if 1 < (asks i).length then b else i.b)) = doV i.op i.c (rowAt rs i.a) (rowAt rs i.b)
 rw [ha]
 by_cases h2 : 1 < (asks i).length
 · rw [if_pos h2, hb h2]
 · rw [if_neg h2]
   exact doV_one (fun e => h2 ((two_iff i).2 e)) _ _ _ _
theorem sem_step {p : PV} {gs : List (List Int)} (hR : rightP p = true) {k : Nat} (hk : k < p.code.length) {rs qs : List (List Int)} {E : Int → List Int} (h : Sem p gs k rs qs E) {y : List Int} (hd : doI (cAt p k) rs = some y) :
 ∃ qs' E', Sem p gs (k + 1) (rs.set (cAt p k).to.toNat y) qs' E' := by
 have hm := code_may hR hk
 obtain ⟨m1, m2, m3, m4, _⟩ := may_facts hm
 have hcj : p.code[k]?.getD default = cAt p k := by unfold cAt; rw [Int.toNat_natCast]
 have hstep := fun r => fromAt_step p r hk
 have hneed := need_from hR hk
 rw [hcj] at hstep
 have hrun : runTo p gs (k + 1) = some (rs.set (cAt p k).to.toNat y) := runTo_succ (x := []) h.run hd
 have hrl : ((rs.set (cAt p k).to.toNat y).length : Int) = p.regs := by rw [List.length_set]; exact h.rl
 by_cases hn : nAt p k = true
 · obtain ⟨hA, hB⟩ := alive_due hR hk hn
   obtain ⟨o1, o2⟩ := pk_occ hR k (by omega)
   obtain ⟨p1, p2⟩ := pk_occ hR (k + 1) (by omega)
   have hq := (pk_occ hR p.code.length (Nat.le_refl _)).2
   have hg0 := pk_grow hR p.code.length (show k ≤ p.code.length by omega) (Nat.le_refl _)
   have hg1 := pk_grow hR p.code.length (show k + 1 ≤ p.code.length by omega) (Nat.le_refl _)
   have hqr : (orderP p).regs = (pkTo p p.code.length).s.free.length := hq
   have hle := least_le (s2P p k (pkTo p k).s).free
   have h2l := s2_len p k (pkTo p k).s
   have hglen := give_len (s2P p k (pkTo p k).s) (vlen p k)
   have hs' : (pkTo p (k + 1)).s = giveP (s2P p k (pkTo p k).s) (vlen p k) := by rw [pk_yes hR hk hn]
   have hc' : (pkTo p (k + 1)).code = (pkTo p k).code ++ [⟨(cAt p k).op, least (s2P p k (pkTo p k).s).free, stand (pkTo p k).s (dueA p k), if 1 < (asks (cAt p k)).length then stand (pkTo p k).s (dueB p k) else (cAt p k).b, (cAt p k).c⟩] := by rw [pk_yes hR hk hn]
   have hst : ∀ w, stand (pkTo p (k + 1)).s w = if w = vlen p k then (least (s2P p k (pkTo p k).s).free : Int) else stand (pkTo p k).s w := fun w => by rw [hs', give_stand, s2_stand]
   have hlR : (least (s2P p k (pkTo p k).s).free : Int) < (orderP p).regs := by
    rw [hqr]
    have : (least (s2P p k (pkTo p k).s).free) < (pkTo p (k + 1)).s.free.length := by rw [hs', hglen]; split <;> omega
    omega
   have hold : ∀ v, Alive p k v → v ≠ vlen p k := fun v hv e => by have := hv.1.2; omega
   have asked : ∀ r, r ∈ asks (cAt p k) → fromAt p r k = true := fun r hr => by
    rw [hstep r, ← hneed, hn, decide_eq_true hr]; rfl
   have haM : (cAt p k).a ∈ asks (cAt p k) := by
    unfold asks
    split
    · exact List.mem_cons_self
    · exact List.mem_cons_self
   have eA : rowAt qs (stand (pkTo p k).s (dueA p k)) = rowAt rs (cAt p k).a := by
    rw [h.new _ hA, h.old _ m3 (asked _ haM)]; rfl
   have eB : 1 < (asks (cAt p k)).length → rowAt qs (stand (pkTo p k).s (dueB p k)) = rowAt rs (cAt p k).b := fun h2 => by
    have hbM : (cAt p k).b ∈ asks (cAt p k) := by
     unfold asks; rw [if_pos (two_op h2)]; exact List.mem_cons_of_mem _ List.mem_cons_self
    rw [h.new _ hB, h.old _ (m4 (two_op h2)) (asked _ hbM)]
    show E (dueB p k) = E _
    congr 1
    exact if_pos h2
   refine ⟨qs.set (least (s2P p k (pkTo p k).s).free) y, fun v => if v = vlen p k then y else E v, hrun, ?_, hrl, by rw [List.length_set]; exact h.ql, fun r hr hf => ?_, fun v hv => ?_⟩
   · rw [hc', runL_snoc, h.pack]
     show (doI _ qs).map _ = _
     rw [doI_turn hm eA eB, hd]
     rfl
   · have hrow : rowAt (rs.set (cAt p k).to.toNat y) r = if (((cAt p k).to.toNat : Nat) : Int) = r then y else rowAt rs r := row_set (by rw [h.rl]; exact hr)
     rw [hrow, Int.toNat_of_nonneg m2.1, held_yes hR hk hn hr]
     by_cases e : (cAt p k).to = r
     · rw [if_pos e, if_pos e, if_pos rfl]
     · rw [if_neg e, if_neg e]
       have hin := held_in hR (show k ≤ p.code.length by omega) hr
       rw [if_neg (by omega)]
       refine h.old r hr ?_
       rw [hstep r, hf, decide_eq_false e]
       simp
   · have hsb := p1.ok.ab v
     rw [row_set ⟨hsb.1, by rw [h.ql, hqr]; omega⟩, hst]
     rcases (alive_yes hR hk hn).1 hv with e | ⟨ha, hdv⟩
     · rw [if_pos e, if_pos rfl, if_pos e]
     · have e := hold v ha
       rw [if_neg e, if_neg e]
       have hne : ¬ ((least (s2P p k (pkTo p k).s).free : Int) = stand (pkTo p k).s v) := fun x => by
        have h9 := p1.i2 v (vlen p k) hv ((alive_yes hR hk hn).2 (.inl rfl)) (by rw [hst, hst, if_neg e, if_pos rfl]; exact x.symm)
        exact e h9
       rw [if_neg hne]
       exact h.new v ha
 · refine ⟨qs, E, hrun, by rw [pk_no hn]; exact h.pack, hrl, h.ql, fun r hr hf => ?_, fun v hv => ?_⟩
   · have hne : ¬ (cAt p k).to = r := fun e => by subst e; rw [← hneed] at hf; exact hn hf
     have hrow : rowAt (rs.set (cAt p k).to.toNat y) r = if (((cAt p k).to.toNat : Nat) : Int) = r then y else rowAt rs r := row_set (by rw [h.rl]; exact hr)
     rw [hrow, Int.toNat_of_nonneg m2.1, if_neg hne, held_no hn]
     refine h.old r hr ?_
     rw [hstep r, hf, decide_eq_false hne]
     simp
   · rw [pk_no hn]; exact h.new v ((alive_no hR hk hn).1 hv)
theorem sem_all {p : PV} {gs : List (List Int)} (hR : rightP p = true) (hg : (gs.length : Int) = p.ins) {rn : List (List Int)} (hr : runTo p gs p.code.length = some rn) : ∀ k, k ≤ p.code.length → ∃ rs qs E, Sem p gs k rs qs E
 | 0, _ => ⟨_, _, _, sem_zero hR hg⟩
 | k + 1, hk => by
   obtain ⟨rs, qs, E, h⟩ := sem_all hR hg hr k (by omega)
   cases hd : doI (cAt p k) rs with
   | none =>
     have h1 : runTo p gs (k + 1) = none := by
      unfold runTo; rw [h.run]; simp only [Option.bind_some]
      show (doI (cAt p k) rs).map _ = none
      rw [hd]; rfl
     have h2 := runTo_none h1 (p.code.length - (k + 1))
     rw [show k + 1 + (p.code.length - (k + 1)) = p.code.length by omega, hr] at h2
     cases h2
   | some y =>
     obtain ⟨qs', E', h'⟩ := sem_step hR (by omega) h hd
     exact ⟨_, _, _, h'⟩
theorem out_values (p : PV) : ∀ j, j ≤ p.outs.length → (outTo p j).outs = (p.outs.take j).map (heldAt p p.code.length)
 | 0, _ => by rw [List.take_zero]; exact lifeTo_outs p _
 | j + 1, hj => by
   show (outTo p j).outs ++ [(outTo p j).held[_]?.getD default] = _
   rw [out_values p j (by omega), outTo_held', List.take_succ_eq_append_getElem (by omega : j < p.outs.length), List.map_append, Int.toNat_natCast, List.getElem?_eq_getElem (by omega : j < p.outs.length)]
   rfl
theorem order_follow {p : PV} {gs os : List (List Int)} (hR : rightP p = true) (hg : (gs.length : Int) = p.ins) (h : followP p gs = some os) : followP (orderP p) gs = some os := by
 obtain ⟨f1, f2, f3, f4, f5, f6, f7, f8⟩ := right_facts hR
 unfold followP at h
 obtain ⟨rn, h1, h2⟩ := Option.map_eq_some_iff.1 h
 obtain ⟨rs, qs, E, hs⟩ := sem_all hR hg h1 p.code.length (Nat.le_refl _)
 have e : rs = rn := by have := hs.run; rw [h1] at this; exact (Option.some.inj this).symm
 subst e
 have hp : runTo (orderP p) gs (orderP p).code.length = some qs := by
  rw [runTo_runL _ _ _ (Nat.le_refl _), List.take_length]
  exact hs.pack
 unfold followP
 rw [hp, ← h2]
 show some (outsOf (orderP p) qs) = some (outsOf p rs)
 congr 1
 have ho : (lifeP p).outs = p.outs.map (heldAt p p.code.length) := by
  unfold lifeP
  rw [out_values p _ (Nat.le_refl _), List.take_length]
 show ((lifeP p).outs.map (stand (pkTo p p.code.length).s)).map _ = p.outs.map _
 rw [ho, List.map_map, List.map_map]
 refine List.map_congr_left fun r hr => ?_
 have hin := f7 r hr
 obtain ⟨i, hi, hri⟩ := List.mem_iff_getElem.1 hr
 have hdue := due_out hR hi
 rw [Int.toNat_natCast, List.getElem?_eq_getElem hi, Option.getD_some, hri] at hdue
 have hal : Alive p p.code.length (heldAt p p.code.length r) := ⟨held_in hR (Nat.le_refl _) hin, by omega⟩
 have hf : fromAt p r p.code.length = true := by rw [fromAt_end p r (Nat.le_refl _)]; exact decide_eq_true hr
 show rowAt qs (stand (pkTo p p.code.length).s (heldAt p p.code.length r)) = rowAt rs r
 rw [hs.new _ hal, hs.old r hin hf]
end Go.Proofs.YtbppmiimeccclaaDoor
set_option linter.unusedVariables false
namespace Go.Proofs.YtbppmiimeccclaaDoor
open Go Go.Sl
def col (j : Nat) (rs : List (List Int)) : List Int := rs.map fun r => r[j]?.getD 0
def Flat (N : Nat) (rs : List (List Int)) : Prop := ∀ r ∈ rs, r.length = N
theorem col_len (j : Nat) (rs : List (List Int)) : (col j rs).length = rs.length := by unfold col; rw [List.length_map]
theorem col_at {j k : Nat} {rs : List (List Int)} : (col j rs)[k]?.getD 0 = (rs[k]?.getD [])[j]?.getD 0 := by
 unfold col
 rw [List.getElem?_map]
 cases rs[k]? <;> rfl
theorem col_set (j k : Nat) (rs : List (List Int)) (x : List Int) : col j (rs.set k x) = (col j rs).set k (x[j]?.getD 0) := by
 unfold col
 rw [List.map_set]
theorem flat_at {N k : Nat} {rs : List (List Int)} (h : Flat N rs) (hk : k < rs.length) : (rs[k]?.getD []).length = N := by
 rw [List.getElem?_eq_getElem hk]; exact h _ (List.getElem_mem hk)
theorem get_map0 {l : List Int} {f : Int → Int} {j : Nat} (h : j < l.length) : (l.map f)[j]?.getD 0 = f (l[j]?.getD 0) := by
 rw [List.getElem?_map, List.getElem?_eq_getElem h]; rfl
theorem get_zip0 {l m : List Int} {f : Int → Int → Int} {j : Nat} (h : j < l.length) (h2 : j < m.length) : (List.zipWith f l m)[j]?.getD 0 = f (l[j]?.getD 0) (m[j]?.getD 0) := by
 rw [List.getElem?_zipWith, List.getElem?_eq_getElem h, List.getElem?_eq_getElem h2]; rfl
theorem doI_col {i : Sl.Instr} {rs : List (List Int)} {N : Nat} (he : Flat N rs) (ha : i.a.toNat < rs.length) (hb : i.op = 3 ∨ i.op = 4 → i.b.toNat < rs.length) :
 (∀ x, doI i rs = some x → x.length = N ∧ ∀ j, j < N → doZ i (col j rs) = some (x[j]?.getD 0)) ∧ (doI i rs = none → ∃ j, j < N ∧ doZ i (col j rs) = none) := by
 have la := flat_at he ha
 unfold doI doZ
 simp only [col_at]
 by_cases h2 : i.op = 2
 · simp only [if_pos h2]
   refine ⟨fun x h => ?_, fun h => by cases h⟩
   cases h
   refine ⟨by rw [List.length_map]; exact la, fun j hj => ?_⟩
   rw [get_map0 (by omega), Int.neg_mul, Int.one_mul]
 simp only [if_neg h2]
 by_cases h3 : i.op = 3
 · have lb := flat_at he (hb (.inl h3))
   simp only [if_pos h3]
   refine ⟨fun x h => ?_, fun h => by cases h⟩
   cases h
   refine ⟨by rw [List.length_zipWith]; omega, fun j hj => ?_⟩
   rw [get_zip0 (by omega) (by omega), Int.one_mul]
 simp only [if_neg h3]
 by_cases h4 : i.op = 4
 · have lb := flat_at he (hb (.inr h4))
   simp only [if_pos h4]
   refine ⟨fun x h => ?_, fun h => by cases h⟩
   cases h
   refine ⟨by rw [List.length_zipWith]; omega, fun j hj => ?_⟩
   rw [get_zip0 (by omega) (by omega), Int.neg_mul, Int.one_mul]; rfl
 simp only [if_neg h4]
 by_cases h5 : i.op = 5 ∨ i.op = 7
 · simp only [if_pos h5]
   refine ⟨fun x h => ?_, fun h => by cases h⟩
   cases h
   refine ⟨by rw [List.length_map]; exact la, fun j hj => ?_⟩
   rw [get_map0 (by omega), Int.mul_comm]
 simp only [if_neg h5]
 by_cases h6 : i.op = 6 ∨ i.op = 8
 · simp only [if_pos h6]
   by_cases hd : AllDiv (cst i) (rs[i.a.toNat]?.getD [])
   · rw [if_pos hd]
     refine ⟨fun x h => ?_, fun h => by cases h⟩
     cases h
     refine ⟨by rw [List.length_map]; exact la, fun j hj => ?_⟩
     rw [if_pos (hd j (by omega)), get_map0 (by omega)]
   · rw [if_neg hd]
     refine ⟨fun x h => (by cases h), fun _ => ?_⟩
     unfold AllDiv at hd
     rw [Classical.not_forall] at hd
     obtain ⟨j, hd⟩ := hd
     rw [Classical.not_imp] at hd
     exact ⟨j, by omega, if_neg hd.2⟩
 simp only [if_neg h6]
 refine ⟨fun x h => ?_, fun h => by cases h⟩
 cases h
 exact ⟨la, fun j hj => rfl⟩
theorem flat_set {N k : Nat} {rs : List (List Int)} {x : List Int} (h : Flat N rs) (hx : x.length = N) : Flat N (rs.set k x) := fun r hr => by
 rcases List.mem_or_eq_of_mem_set hr with h1 | h1
 · exact h r h1
 · rw [h1]; exact hx
def inRegs (n : Nat) (i : Sl.Instr) : Prop := i.a.toNat < n ∧ (i.op = 3 ∨ i.op = 4 → i.b.toNat < n)
theorem runL_col {N : Nat} : ∀ (l : List Sl.Instr) (rs : List (List Int)), Flat N rs → (∀ i ∈ l, inRegs rs.length i) →
 (∀ r', runL l rs = some r' → Flat N r' ∧ r'.length = rs.length ∧ ∀ j, j < N → runZ l (col j rs) = some (col j r')) ∧ (runL l rs = none → ∃ j, j < N ∧ runZ l (col j rs) = none)
 | [], rs, he, _ => ⟨fun r' h => by cases h; exact ⟨he, rfl, fun j _ => rfl⟩, fun h => by cases h⟩
 | i :: l, rs, he, hi => by
   obtain ⟨h1, h2⟩ := doI_col he (hi i (by simp)).1 (hi i (by simp)).2
   unfold runL runZ
   cases hd : doI i rs with
   | none =>
     refine ⟨fun r' h => (by cases h), fun _ => ?_⟩
     obtain ⟨j, hj, hz⟩ := h2 hd
     exact ⟨j, hj, by rw [hz]; rfl⟩
   | some x =>
     obtain ⟨hx, hc⟩ := h1 x hd
     obtain ⟨g1, g2⟩ := runL_col l (rs.set i.to.toNat x) (flat_set he hx) (fun q hq => by rw [List.length_set]; exact hi q (by simp [hq]))
     refine ⟨fun r' h => ?_, fun h => ?_⟩
     · obtain ⟨k1, k2, k3⟩ := g1 r' h
       refine ⟨k1, by rw [k2, List.length_set], fun j hj => ?_⟩
       rw [hc j hj]
       show runZ l ((col j rs).set i.to.toNat (x[j]?.getD 0)) = _
       rw [← col_set]; exact k3 j hj
     · obtain ⟨j, hj, hz⟩ := g2 h
       refine ⟨j, hj, ?_⟩
       rw [hc j hj]
       show runZ l ((col j rs).set i.to.toNat (x[j]?.getD 0)) = _
       rw [← col_set]; exact hz
theorem may_in {i : Sl.Instr} {regs : Int} {n : Nat} (h : mayOk i regs = true) (hn : (n : Int) = regs) : inRegs n i := by
 obtain ⟨m1, m2, m3, m4, m5⟩ := may_facts h
 exact ⟨by omega, fun h34 => by have := m4 h34; omega⟩
theorem regs_flat {p : PV} {gs : List (List Int)} {N : Nat} (hN : Flat N gs) (h1 : 1 ≤ gs.length) : Flat N (regs0 p gs) := fun r hr => by
 unfold regs0 at hr
 obtain ⟨k, _, rfl⟩ := List.mem_map.1 hr
 split
 · rename_i hk; exact flat_at hN hk
 · rw [List.length_replicate]; exact flat_at hN h1
theorem regs_col {p : PV} {gs : List (List Int)} (hz : gs.length ≤ p.regs.toNat) (j : Nat) : col j (regs0 p gs) = regs0Z p (col j gs) := by
 apply List.ext_getElem?
 intro k
 have hl : (regs0Z p (col j gs)).length = p.regs.toNat := by unfold regs0Z; rw [List.length_append, List.length_replicate, col_len]; omega
 have hl2 : (col j (regs0 p gs)).length = p.regs.toNat := by rw [col_len, regs0_len]
 rcases Nat.lt_or_ge k p.regs.toNat with hk | hk
 · have e : ∀ (l : List Int), k < l.length → l[k]? = some (l[k]?.getD 0) := fun l h => by rw [List.getElem?_eq_getElem h]; rfl
   rw [e _ (by omega), e (regs0Z p (col j gs)) (by omega)]
   congr 1
   rw [col_at, regs0_at hk]
   unfold regs0Z
   split
   · rename_i h
     rw [List.getElem?_append_left (by rw [col_len]; exact h), col_at]
   · rename_i h
     rw [List.getElem?_append_right (by rw [col_len]; omega), col_len]
     have e0 : ∀ (n m : Nat), (List.replicate n (0 : Int))[m]?.getD 0 = 0 := fun n m => by
      rw [List.getElem?_replicate]; split <;> rfl
     rw [e0, e0]
 · rw [List.getElem?_eq_none (by omega), List.getElem?_eq_none (by omega)]
theorem follow_of_ans {p q : PV} {gs os : List (List Int)} {N : Nat} (hR : rightP p = true) (hQ : rightP q = true) (hi : q.ins = p.ins) (ho : q.outs.length = p.outs.length) (hg : (gs.length : Int) = p.ins) (hN : Flat N gs)
 (hans : ∀ zs ys : List Int, (zs.length : Int) = p.ins → ansZ p zs = some ys → ansZ q zs = some ys) (h : followP p gs = some os) : followP q gs = some os := by
 obtain ⟨f1, f2, f3, f4, f5, f6, f7, f8⟩ := right_facts hR
 obtain ⟨k1, k2, k3, k4, k5, k6, k7, k8⟩ := right_facts hQ
 have hfp := regs_flat (p := p) hN (by omega)
 have hfq := regs_flat (p := q) hN (by omega)
 unfold followP at h ⊢
 rw [runTo_runL p gs _ (Nat.le_refl _), List.take_length] at h
 rw [runTo_runL q gs _ (Nat.le_refl _), List.take_length]
 obtain ⟨r', hr', rfl⟩ := Option.map_eq_some_iff.1 h
 obtain ⟨p1, p2, p3⟩ := (runL_col p.code (regs0 p gs) hfp (fun i hi => may_in (f8 i hi) (by rw [regs0_len]; omega))).1 r' hr'
 have hcol : ∀ j, j < N → ansZ q (col j gs) = some (outsZ p (col j r')) := fun j hj => by
  refine hans _ _ (by rw [col_len]; exact hg) ?_
  unfold ansZ
  rw [stepsZ_runZ p _ _ (Nat.le_refl _), List.take_length, ← regs_col (by omega), p3 j hj]; rfl
 have hq := runL_col q.code (regs0 q gs) hfq (fun i hi => may_in (k8 i hi) (by rw [regs0_len]; omega))
 cases hrq : runL q.code (regs0 q gs) with
 | none =>
   obtain ⟨j, hj, hz⟩ := hq.2 hrq
   have h9 := hcol j hj
   unfold ansZ at h9
   rw [stepsZ_runZ q _ _ (Nat.le_refl _), List.take_length, ← regs_col (by omega), hz] at h9
   cases h9
 | some s' =>
   obtain ⟨q1, q2, q3⟩ := hq.1 s' hrq
   show some (outsOf q s') = some (outsOf p r')
   congr 1
   unfold outsOf
   apply List.ext_getElem
   · rw [List.length_map, List.length_map, ho]
   · intro k g1 g2
     rw [List.length_map] at g1 g2
     rw [List.getElem_map, List.getElem_map]
     have hrp := f7 p.outs[k] (List.getElem_mem g2)
     have hrq2 := k7 q.outs[k] (List.getElem_mem g1)
     have lp := flat_at p1 (k := p.outs[k].toNat) (by rw [p2, regs0_len]; omega)
     have lq := flat_at q1 (k := q.outs[k].toNat) (by rw [q2, regs0_len]; omega)
     apply List.ext_getElem
     · omega
     · intro j j1 j2
       have h9 := hcol j (by omega)
       unfold ansZ at h9
       rw [stepsZ_runZ q _ _ (Nat.le_refl _), List.take_length, ← regs_col (by omega), q3 j (by omega)] at h9
       have h10 : outsZ q (col j s') = outsZ p (col j r') := by
        have := Option.map_eq_some_iff.1 h9
        obtain ⟨z, e1, e2⟩ := this
        cases e1; exact e2
       unfold outsZ at h10
       have h11 := congrArg (fun l : List Int => l[k]?) h10
       simp only [List.getElem?_map, List.getElem?_eq_getElem g1, List.getElem?_eq_getElem g2, Option.map_some, Option.some.injEq, col_at] at h11
       rw [List.getElem?_eq_getElem j1, List.getElem?_eq_getElem j2] at h11
       exact h11
theorem fold_follow {p : PV} {gs os : List (List Int)} {N : Nat} (hR : rightP p = true) (hg : (gs.length : Int) = p.ins) (hN : Flat N gs) (h : followP p gs = some os) : followP (foldP p) gs = some os :=
 follow_of_ans hR (fold_right hR) rfl rfl hg hN (fun zs ys hz h9 => by rw [fold_ans hR hz]; exact h9) h
def Agree (A : List Bool) (r s : List Int) : Prop := r.length = s.length ∧ ∀ k : Nat, A[k]?.getD default = true → r[k]?.getD 0 = s[k]?.getD 0
theorem doZ_agree {i : Sl.Instr} {r s : List Int} (ha : r[i.a.toNat]?.getD 0 = s[i.a.toNat]?.getD 0) (hb : i.op = 3 ∨ i.op = 4 → r[i.b.toNat]?.getD 0 = s[i.b.toNat]?.getD 0) : doZ i r = doZ i s := by
 unfold doZ
 simp only [ha]
 by_cases h34 : i.op = 3 ∨ i.op = 4
 · rw [hb h34]
 · have h3 : ¬ i.op = 3 := fun e => h34 (.inl e)
   have h4 : ¬ i.op = 4 := fun e => h34 (.inr e)
   simp only [h3, h4, if_false]
theorem keepF_cons (p : PV) (i : Sl.Instr) (l : List Sl.Instr) : keepF p (i :: l) = if (nf p l).1[i.to.toNat]?.getD default = true ∧ ¬ doesNothing i then i :: keepF p l else keepF p l := by
 by_cases hc : (nf p l).1[i.to.toNat]?.getD default = true
 · have e : (nf p (i :: l)).2 = true :: (nf p l).2 := by simp only [nf]; rw [if_pos hc]
   unfold keepF
   rw [e, List.zip_cons_cons]
   by_cases hd : doesNothing i
   · rw [if_neg (fun h => h.2 hd), List.filterMap_cons_none (leaves_neg (fun h => h.2 hd))]
   · rw [if_pos ⟨hc, hd⟩, List.filterMap_cons_some (leaves_pos ⟨rfl, hd⟩)]
 · have e : (nf p (i :: l)).2 = false :: (nf p l).2 := by simp only [nf]; rw [if_neg hc]
   unfold keepF
   rw [e, List.zip_cons_cons, if_neg (fun h => hc h.1), List.filterMap_cons_none (leaves_neg (fun h => by cases h.1))]
theorem dead_run {p : PV} (hm : ∀ i ∈ p.code, mayOk i p.regs = true) : ∀ (l : List Sl.Instr), (∀ i ∈ l, i ∈ p.code) → ∀ (r s r' : List Int), (r.length : Int) = p.regs → Agree (nf p l).1 r s → runZ l r = some r' → ∃ s', runZ (keepF p l) s = some s' ∧ Agree (nf p []).1 r' s'
 | [], _, r, s, r', _, h, h1 => by cases h1; exact ⟨s, rfl, h⟩
 | i :: l, hl, r, s, r', hlen, h, h1 => by
   have hmi := hm i (hl i (by simp))
   obtain ⟨m1, m2, m3, m4, m5, m6, m7, m8⟩ := may_facts hmi
   have hA : ((nf p l).1.length : Int) = p.regs := by rw [(nf_len p l).1]; omega
   unfold runZ at h1
   obtain ⟨x, hx, h1⟩ := Option.bind_eq_some_iff.1 h1
   obtain ⟨hl1, hag⟩ := h
   have hl' : ∀ j ∈ l, j ∈ p.code := fun j hj => hl j (by simp [hj])
   have hlen' : ((r.set i.to.toNat x).length : Int) = p.regs := by rw [List.length_set]; exact hlen
   rw [keepF_cons]
   by_cases hasked : (nf p l).1[i.to.toNat]?.getD default = true
   · have e : (nf p (i :: l)).1 = setAll ((nf p l).1.set i.to.toNat false) (asks i) := by simp only [nf]; rw [if_pos hasked]
     rw [e] at hag
     have hstep : ∀ k : Nat, (nf p l).1[k]?.getD default = true → k ≠ i.to.toNat → r[k]?.getD 0 = s[k]?.getD 0 := fun k hk hne => by
      have hkA : k < (nf p l).1.length := by
       rcases Nat.lt_or_ge k (nf p l).1.length with h | h
       · exact h
       · rw [List.getElem?_eq_none h] at hk; cases hk
      refine hag k ?_
      have hg := step_get hA hmi (r := (k : Int)) (by omega)
      rw [Int.toNat_natCast] at hg
      rw [hg, hk, decide_eq_false (show ¬ i.to = (k : Int) by omega)]
      simp
     have hin : ∀ q ∈ asks i, r[q.toNat]?.getD 0 = s[q.toNat]?.getD 0 := fun q hq => by
      have hqr := asks_in hmi q hq
      refine hag q.toNat ?_
      rw [step_get hA hmi hqr, decide_eq_true hq, Bool.true_or]
     have haa : i.a ∈ asks i := by
      unfold asks
      split
      · exact List.mem_cons_self
      · first | exact List.mem_cons_self | (rw [if_pos m1]; exact List.mem_cons_self)
     have hd := doZ_agree (hin _ haa) (fun h34 => hin _ (by unfold asks; rw [if_pos h34]; exact List.mem_cons_of_mem _ List.mem_cons_self))
     by_cases hno : doesNothing i
     · rw [if_neg (fun h => h.2 hno)]
       refine dead_run hm l hl' (r.set i.to.toNat x) s r' hlen' ⟨by rw [List.length_set]; exact hl1, fun k hk => ?_⟩ h1
       rw [get_set]
       split
       · rename_i hkk
         obtain ⟨rfl, hk2⟩ := hkk
         have hxa : x = r[i.to.toNat]?.getD 0 := by
          obtain ⟨n1, n2⟩ := hno
          unfold doZ at hx
          simp [n1] at hx
          rw [← hx, n2]
         rw [hxa]
         have := hin i.a haa
         rw [← hno.2] at this
         exact this
       · rename_i hkk
         refine hstep k hk (fun hk3 => hkk ⟨hk3.symm, ?_⟩)
         omega
     · rw [if_pos ⟨hasked, hno⟩]
       show ∃ s', ((doZ i s).bind fun x => runZ (keepF p l) (s.set i.to.toNat x)) = some s' ∧ _
       rw [← hd, hx]
       refine dead_run hm l hl' (r.set i.to.toNat x) (s.set i.to.toNat x) r' hlen' ⟨by rw [List.length_set, List.length_set]; exact hl1, fun k hk => ?_⟩ h1
       rw [get_set, get_set]
       by_cases hkk : i.to.toNat = k
       · rw [if_pos ⟨hkk, by omega⟩, if_pos ⟨hkk, by omega⟩]
       · rw [if_neg (fun h => hkk h.1), if_neg (fun h => hkk h.1)]
         exact hstep k hk (fun h => hkk h.symm)
   · rw [if_neg (fun h => hasked h.1)]
     have e : (nf p (i :: l)).1 = (nf p l).1 := by simp only [nf]; rw [if_neg hasked]
     rw [e] at hag
     refine dead_run hm l hl' (r.set i.to.toNat x) s r' hlen' ⟨by rw [List.length_set]; exact hl1, fun k hk => ?_⟩ h1
     rw [get_set, if_neg ?_]
     · exact hag k hk
     · rintro ⟨rfl, _⟩
       exact hasked hk
theorem dead_ans {p : PV} {zs os : List Int} (hR : rightP p = true) (hz : (zs.length : Int) = p.ins) (h : ansZ p zs = some os) : ansZ (deadP p) zs = some os := by
 obtain ⟨f1, f2, f3, f4, f5, f6, f7, f8⟩ := right_facts hR
 have hl : (regs0Z p zs).length = p.regs.toNat := by unfold regs0Z; rw [List.length_append, List.length_replicate]; omega
 unfold ansZ at h ⊢
 rw [stepsZ_runZ p _ _ (Nat.le_refl _), List.take_length] at h
 rw [stepsZ_runZ (deadP p) _ _ (Nat.le_refl _), List.take_length]
 obtain ⟨r', hr', rfl⟩ := Option.map_eq_some_iff.1 h
 obtain ⟨s', hs', hag⟩ := dead_run f8 p.code (fun i hi => hi) (regs0Z p zs) (regs0Z p zs) r' (by omega) ⟨rfl, fun k _ => rfl⟩ hr'
 rw [dead_code]
 show (runZ (keepF p p.code) (regs0Z p zs)).map (outsZ (deadP p)) = _
 rw [hs']
 show some (outsZ p s') = some (outsZ p r')
 congr 1
 unfold outsZ
 apply List.map_congr_left
 intro q hq
 refine (hag.2 q.toNat ?_).symm
 show (setAll (List.replicate p.regs.toNat false) p.outs)[q.toNat]?.getD default = true
 rw [start_get (by omega) f7 (f7 q hq), decide_eq_true hq]
theorem dead_follow {p : PV} {gs os : List (List Int)} {N : Nat} (hR : rightP p = true) (hg : (gs.length : Int) = p.ins) (hN : Flat N gs) (h : followP p gs = some os) : followP (deadP p) gs = some os :=
 follow_of_ans hR (dead_right hR) rfl rfl hg hN (fun zs ys hz h9 => dead_ans hR hz h9) h
end Go.Proofs.YtbppmiimeccclaaDoor
set_option linter.unusedVariables false
namespace Go.Proofs.YtbppmiimeccclaaDoor
open Go Go.Sl
def passOf (m : Nat) (p : PV) : PV := if m % 3 = 0 then foldP p else if m % 3 = 1 then passP p else deadP p
def nowS (p : PV) : Nat → PV
 | 0 => p
 | k + 1 => passOf k (nowS p k)
def nmOf (m : Nat) : ByteArray := if m % 3 = 0 then ⟨#[102, 111, 108, 100]⟩ else if m % 3 = 1 then ⟨#[115, 104, 97, 114, 101]⟩ else ⟨#[100, 101, 97, 100]⟩
def packN : ByteArray := ⟨#[112, 97, 99, 107]⟩
def lastR (p : PV) : Nat := ((List.range 15).find? fun n => decide (nowS p (3 * n + 3) = nowS p (3 * n))).getD 15
def lenR (p : PV) : Nat := 3 * lastR p + 3
structure NP where
 name : ByteArray
 p : PV
def roundsP (p : PV) : List NP := (List.range (lenR p)).map (fun k => ⟨nmOf k, nowS p (k + 1)⟩) ++ [⟨packN, orderP (nowS p (lenR p))⟩]
theorem last_le (p : PV) : lastR p ≤ 15 := by
 unfold lastR
 cases h : (List.range 15).find? fun n => decide (nowS p (3 * n + 3) = nowS p (3 * n)) with
 | none => exact Nat.le_refl _
 | some n =>
   have := List.mem_of_find?_eq_some h
   rw [List.mem_range] at this
   show n ≤ 15
   omega
theorem last_yes (p : PV) : lastR p = 15 ∨ nowS p (3 * lastR p + 3) = nowS p (3 * lastR p) := by
 unfold lastR
 cases h : (List.range 15).find? fun n => decide (nowS p (3 * n + 3) = nowS p (3 * n)) with
 | none => exact .inl rfl
 | some n =>
   have := List.find?_some h
   exact .inr (of_decide_eq_true this)
theorem last_not (p : PV) {n : Nat} (hn : n < lastR p) : ¬ nowS p (3 * n + 3) = nowS p (3 * n) := by
 have h15 := last_le p
 intro he
 unfold lastR at hn
 cases h : (List.range 15).find? fun n => decide (nowS p (3 * n + 3) = nowS p (3 * n)) with
 | none =>
   rw [h] at hn
   have hn15 : n < 15 := hn
   rw [List.find?_eq_none] at h
   exact h n (by rw [List.mem_range]; exact hn15) (by simpa using he)
 | some m =>
   rw [h] at hn
   have hn' : n < m := hn
   rw [List.find?_range_eq_some] at h
   have := h.2.2 n hn'
   simp [he] at this
theorem rounds_len (p : PV) : (roundsP p).length = lenR p + 1 := by unfold roundsP; rw [List.length_append, List.length_map, List.length_range]; rfl
theorem rounds_at (p : PV) {k : Nat} (hk : k < lenR p) : (roundsP p)[k]? = some ⟨nmOf k, nowS p (k + 1)⟩ := by
 unfold roundsP
 rw [List.getElem?_append_left (by rw [List.length_map, List.length_range]; exact hk), List.getElem?_map, List.getElem?_range hk]; rfl
theorem rounds_last (p : PV) : (roundsP p)[lenR p]? = some ⟨packN, orderP (nowS p (lenR p))⟩ := by
 unfold roundsP
 rw [List.getElem?_append_right (by rw [List.length_map, List.length_range]; exact Nat.le_refl _), List.length_map, List.length_range, Nat.sub_self]; rfl
theorem len_le (p : PV) : lenR p ≤ 48 := by have := last_le p; unfold lenR; omega
theorem pass_right {p : PV} (h : rightP p = true) (m : Nat) : rightP (passOf m p) = true := by
 unfold passOf
 split
 · exact fold_right h
 · split
   · exact (pass_idem h).1
   · exact dead_right h
theorem now_right {p : PV} (h : rightP p = true) : ∀ k, rightP (nowS p k) = true
 | 0 => h
 | k + 1 => pass_right (now_right h k) k
theorem pass_same {p : PV} (h : rightP p = true) (m : Nat) : (passOf m p).ins = p.ins ∧ (passOf m p).outs.length = p.outs.length ∧ (passOf m p).code.length ≤ p.code.length := by
 unfold passOf
 split
 · exact ⟨rfl, rfl, fold_len p⟩
 · split
   · exact ⟨rfl, by show (passOuts _ _).length = _; unfold passOuts; rw [List.length_map], (pass_facts h).1⟩
   · exact ⟨rfl, rfl, keepTo_len p _⟩
theorem now_same {p : PV} (h : rightP p = true) : ∀ k, (nowS p k).ins = p.ins ∧ (nowS p k).outs.length = p.outs.length ∧ (nowS p k).code.length ≤ p.code.length
 | 0 => ⟨rfl, rfl, Nat.le_refl _⟩
 | k + 1 => by
   obtain ⟨e1, e2, e3⟩ := now_same h k
   obtain ⟨g1, g2, g3⟩ := pass_same (now_right h k) k
   show (passOf k (nowS p k)).ins = _ ∧ _ ∧ _
   exact ⟨by rw [g1, e1], by show (passOf k (nowS p k)).outs.length = _; rw [g2, e2], by show (passOf k (nowS p k)).code.length ≤ _; omega⟩
theorem now_follow {p : PV} {gs os : List (List Int)} {N : Nat} (hR : rightP p = true) (hg : (gs.length : Int) = p.ins) (hN : Flat N gs) (h : followP p gs = some os) : ∀ k, followP (nowS p k) gs = some os
 | 0 => h
 | k + 1 => by
   have ih := now_follow hR hg hN h k
   have hk := now_right hR k
   have hi := (now_same hR k).1
   show followP (passOf k (nowS p k)) gs = _
   unfold passOf
   split
   · exact fold_follow hk (by rw [hi]; exact hg) hN ih
   · split
     · rw [pass_follow hk (by rw [hi]; exact hg)]; exact ih
     · exact dead_follow hk (by rw [hi]; exact hg) hN ih
theorem order_same2 {p : PV} (hR : rightP p = true) : (orderP p).ins = p.ins ∧ (orderP p).outs.length = p.outs.length ∧ (orderP p).code.length ≤ p.code.length := by
 refine ⟨rfl, ?_, (pk_code hR _ (Nat.le_refl _)).2⟩
 show ((lifeP p).outs.map _).length = _
 rw [List.length_map]
 have := out_values p p.outs.length (Nat.le_refl _)
 show (outTo p p.outs.length).outs.length = _
 rw [this, List.take_length, List.length_map]
theorem rounds_all {p : PV} (hR : rightP p = true) {k : Nat} {x : NP} (h : (roundsP p)[k]? = some x) : rightP x.p = true ∧ x.p.ins = p.ins ∧ x.p.outs.length = p.outs.length ∧ x.p.code.length ≤ p.code.length ∧
 ∀ (gs os : List (List Int)) (N : Nat), (gs.length : Int) = p.ins → Flat N gs → followP p gs = some os → followP x.p gs = some os := by
 have hlt : k < (roundsP p).length := (List.getElem?_eq_some_iff.1 h).1
 rw [rounds_len] at hlt
 rcases Nat.lt_or_ge k (lenR p) with hk | hk
 · rw [rounds_at p hk] at h
   cases h
   obtain ⟨e1, e2, e3⟩ := now_same hR (k + 1)
   exact ⟨now_right hR _, e1, e2, e3, fun gs os N hg hN h => now_follow hR hg hN h _⟩
 · have : k = lenR p := by omega
   subst this
   rw [rounds_last] at h
   cases h
   obtain ⟨e1, e2, e3⟩ := now_same hR (lenR p)
   obtain ⟨g1, g2, g3⟩ := order_same2 (now_right hR (lenR p))
   refine ⟨order_right (now_right hR _), by rw [g1, e1], by rw [g2, e2], by show (orderP _).code.length ≤ _; omega, fun gs os N hg hN h => order_follow (now_right hR _) (by rw [e1]; exact hg) (now_follow hR hg hN h _)⟩
end Go.Proofs.YtbppmiimeccclaaDoor
set_option maxRecDepth 100000
set_option linter.unusedVariables false
namespace Go.Proofs.YtbppmiimeccclaaDoor
open Go Go.Sl
set_option maxHeartbeats 4000000
def PlH (s : Pl) (bm bp : Nat) (a : Option Addr) (c : Nat) (junk : List Value) : Hp :=
 [(0, some bp, .cells #[.map (some bm), .slice a s.free.length c] 97), (1, some bm, mapObj s.at_), (2, a.map (·.block), Row 4 s.free junk)]
theorem c80 (G : Imm) (p : PV) (ac ao : Option Addr) (cc co : Nat) (r : Int) :
 Does Tryd.prog 80 [.agg #[.int .i64 p.ins, .int .i64 p.regs, .slice ac p.code.length cc, .slice ao p.outs.length co], .int .i64 r] G [] (fun v G' Ho => v = .int .i64 (min r p.ins) ∧ G' = G ∧ Ho = []) := by
 refine Does.enter Tryd.func80 rfl Tryd.ntmps80 rfl (fun w => ?_)
 refine Wc.seq (Wc.region rfl ?_)
 refine Wl.box 0 rfl rfl rfl (fun b1 => ?_)
 refine Wl.q rfl (Qy.assign rfl) (Wl.done (Ar.next (Wc.seq (Wc.region rfl (Wl.q rfl (Qy.move rfl) (Wl.q rfl (Qy.fieldAddr T.fa25_0 rfl) (Wl.q rfl (Qy.load 0 T.one3 rfl rfl rfl) (Wl.q rfl (Qy.min rfl rfl) ?_))))))))
 refine Wl.q rfl (Qy.assign rfl) (Wl.done (Ar.next (Wc.ret ?_)))
 refine Ar.out1 (.inr rfl) (Ho := Hp.only _ []) rfl (.tmp rfl) (Hp.sub_only _ _) ?_
 refine ⟨?_, rfl, rfl⟩
 congr 1
 split <;> omega
theorem least_at {l : List Bool} {k : Nat} (hk : k < l.length) (h : ∀ j : Nat, j < k → l[j]?.getD default = false) (hb : l[k]?.getD default = true) : least l = k := by
 unfold least
 rw [List.findIdx_eq hk]
 rw [List.getElem?_eq_getElem hk] at hb
 refine ⟨hb, fun j hj => ?_⟩
 have := h j hj
 rw [List.getElem?_eq_getElem (by omega)] at this
 exact this
theorem least_none {l : List Bool} (h : ∀ j : Nat, j < l.length → l[j]?.getD default = false) : least l = l.length := by
 unfold least
 rw [List.findIdx_eq_length]
 intro x hx
 obtain ⟨j, hj, rfl⟩ := List.mem_iff_getElem.1 hx
 have := h j hj
 rw [List.getElem?_eq_getElem hj] at this
 exact this
theorem c48 (G : Imm) (s : Pl) (bm bp : Nat) (a : Option Addr) (c : Nat) (junk : List Value) (v u : Int) (ho : OwnA a c s.free junk) (hl : s.free.length ≤ 1048576) :
 Does Tryd.prog 48 [.pointer (some ⟨bp, 0, none⟩), .int .i64 v, .int .i64 u] G (PlH s bm bp a c junk) (fun r G' Ho => ∃ a' c' j', r = .tuple #[] ∧ OwnA a' c' (layP s v u).free j' ∧ G' = G ∧ Ho = PlH (layP s v u) bm bp a' c' j') := by
 refine Does.enter Tryd.func48 rfl Tryd.ntmps48 rfl (fun w => ?_)
 refine Wc.seq (Wc.draw [2, 1, 0] [(1, 10)] T.mixed rfl ?_)
 refine Gm.q 0 [] (by kernel_rfl) rfl rfl (Qy.move rfl) (Gm.q 1 [] (by kernel_rfl) rfl rfl (Qy.nilCheck rfl) ?_)
 refine Gm.q 2 [] (by kernel_rfl) rfl rfl (Qy.fieldAddr T.fa97_0 rfl) (Gm.q 3 [0] (by kernel_rfl) rfl rfl (Qy.load 0 T.one94 rfl rfl rfl) (Gm.q 4 [] (by kernel_rfl) rfl rfl (Qy.move rfl) (Gm.q 5 [] (by kernel_rfl) rfl rfl (Qy.move rfl) (Gm.q 6 [] (by kernel_rfl) rfl rfl (Qy.nilCheck rfl) ?_))))
 refine Gm.q 7 [] (by kernel_rfl) rfl rfl (Qy.fieldAddr T.fa97_1 rfl) (Gm.q 8 [0] (by kernel_rfl) rfl rfl (Qy.load 0 T.one95 rfl rfl rfl) (Gm.q 9 [] (by kernel_rfl) rfl rfl (Qy.len T.sl95 rfl) (Gm.one 10 ⟨rfl, rfl, rfl, trivial⟩ (by first | exact Imm.le_refl _ | assumption) (by kernel_rfl) rfl ?_)))
 refine Wl.mapUpdate 1 T.mp94 rfl rfl rfl rfl ?_
 refine Wl.on0 ?_
 refine Gm.doneA (by kernel_rfl) ⟨rfl, rfl, trivial⟩ (by first | exact Imm.le_refl _ | assumption) ?_
 refine Ar.next (Wc.region rfl (Wl.q rfl (Qy.move rfl) (Wl.q rfl (Qy.move rfl) (Wl.q rfl (Qy.nilCheck rfl) (Wl.q rfl (Qy.fieldAddr T.fa97_1 rfl) (Wl.q rfl (Qy.load 0 T.one95 rfl rfl rfl) (Wl.q rfl (Qy.move rfl) (Wl.q rfl (Qy.lss rfl rfl) ?_))))))))
 refine Wl.lit (α := Bool) 3 [(Decidable.decide (u < 0))] rfl T.sl95 T.el4 rfl rfl rfl rfl rfl (fun b1 => ?_)
 refine Wl.append (α := Bool) 2 rfl T.sl95 T.el4 rfl rfl rfl (by first | assumption | exact OwnA.nil | exact OwnA.made (by simp)) (Src.row 3 rfl) (by first | omega | (simp only [List.length_append, List.length_cons, List.length_nil, maxLen]; omega)) (by first | omega | (simp only [List.length_append, List.length_cons, List.length_nil, maxLen]; omega)) (fun a1 c1 junk1 ho1 => ?_)
 refine Wl.q rfl (Qy.nilCheck rfl) (Wl.q rfl (Qy.fieldAddr T.fa97_1 rfl) ?_)
 refine Wl.store 0 T.one95 rfl rfl rfl rfl rfl ?_
 refine Wl.done (Ar.pick [0, 1, 2] (by decide) (Ar.out0 (.inl rfl) rfl  (Hp.sub_self 0 _) ?_))
 exact ⟨a1, c1, junk1, rfl, ho1, rfl, rfl⟩
theorem give_yes (s : Pl) (v : Int) (h : least s.free < s.free.length) : giveP s v = ⟨mput s.at_ v (least s.free), s.free.set (least s.free) false⟩ := by unfold giveP; rw [if_pos h]
theorem give_no (s : Pl) (v : Int) (h : ¬ least s.free < s.free.length) : giveP s v = ⟨mput s.at_ v (least s.free), s.free ++ [false]⟩ := by unfold giveP; rw [if_neg h]
theorem c50 (G : Imm) (s : Pl) (bm bp : Nat) (a : Option Addr) (c : Nat) (junk : List Value) (v : Int) (ho : OwnA a c s.free junk) (hl : s.free.length ≤ 1048576) (hm : mget s.at_ v = none) :
 Does Tryd.prog 50 [.pointer (some ⟨bp, 0, none⟩), .int .i64 v] G (PlH s bm bp a c junk) (fun r G' Ho => ∃ a' c' j', r = .int .i64 (least s.free) ∧ OwnA a' c' (giveP s v).free j' ∧ G' = G ∧ Ho = PlH (giveP s v) bm bp a' c' j') := by
 refine Does.enter Tryd.func50 rfl Tryd.ntmps50 rfl (fun w => ?_)
 refine Wc.seq (Wc.region rfl (Wl.q rfl (Qy.assign rfl) (Wl.done (Ar.next (Wc.scope (Wc.seq (Wc.label (Ar.next (Wc.seq (Wc.seq (Wc.region rfl (Wl.q rfl (Qy.move rfl) (Wl.q rfl (Qy.nilCheck rfl) (Wl.q rfl (Qy.fieldAddr T.fa97_1 rfl) (Wl.q rfl (Qy.load 0 T.one95 rfl rfl rfl) ?_)))))))))))))))
 refine Wl.q rfl (Qy.len T.sl95 rfl) (Wl.q rfl (Qy.move rfl) (Wl.done (Ar.next (Wc.block ?_))))
 refine Wc.loop (ι := Nat) (fun k => ([(12, .int .i64 (k : Int)), (4, .int .i64 0), (11, Go.Value.int Go.IntKind.i64 (↑(List.length (Pl.free s)) : Int)), (10, Go.Value.slice a (List.length (Pl.free s)) c), (0, Go.Value.pointer (Option.some (Go.Addr.mk bp 0 Option.none))), (1, Go.Value.int Go.IntKind.i64 v)], [(0, Option.some bp, Go.Obj.cells #[Go.Value.map (Option.some bm), Go.Value.slice a (List.length (Pl.free s)) c] 97), (1, Option.some bm, Go.Sl.mapObj (κ := Int) (Pl.at_ s)), (2, Option.map (fun x => Go.Addr.block x) a, Go.Sl.Row (α := Bool) 4 (Pl.free s) (junk))])) (fun k => k ≤ s.free.length ∧ ∀ j : Nat, j < k → s.free[j]?.getD default = false) (fun k => s.free.length - k) (0) (⟨Nat.zero_le _, fun j hj => by omega⟩) ⟨rfl, rfl, rfl, rfl, rfl, rfl, trivial⟩ ⟨rfl, rfl, rfl, trivial⟩ (fun k => fun (hk : k ≤ s.free.length ∧ ∀ j : Nat, j < k → s.free[j]?.getD default = false) => ?_)
 obtain ⟨hk1, hk2⟩ := hk
 rcases Nat.lt_or_ge k s.free.length with hlt | hge
 · refine Wc.seq (Wc.region rfl (Wl.q rfl (Qy.lss rfl rfl) (Wl.done (Ar.next (Wc.seq (Wc.condP rfl (by first | assumption | omega) ?_))))))
   refine Wc.skip (Ar.next (Wc.seq (Wc.block (Wc.seq (Wc.region rfl (Wl.q rfl (Qy.move rfl) (Wl.q rfl (Qy.indexAddrO (α := Bool) T.sl95 rfl rfl (by assumption) (by omega)) ?_)))))))
   refine Wl.q rfl (Qy.loadO 2 0 T.one4 rfl rfl (by assumption) (by omega) rfl rfl) ?_
   refine Wl.q rfl (Qy.assign rfl) (Wl.q rfl (Qy.assign rfl) (Wl.done (Ar.next (Wc.seq (Wc.seq (Wc.region rfl (Wl.q rfl (Qy.move rfl) (Wl.q rfl (Qy.not rfl) (Wl.done (Ar.next (Wc.ite rfl (fun hc1 => ?_) (fun hc1 => ?_))))))))))))
   refine Wc.exit (Ar.passExit ?_)
   refine Ar.here ?_
   refine Ar.next (Wc.region rfl (Wl.q rfl (Qy.add rfl rfl (by omega)) ?_))
   refine Wl.q rfl (Qy.move rfl) (Wl.done ?_)
   rotate_left
   refine Wc.skip (Ar.next (Wc.seq (Wc.draw [2, 1, 0] [(0, 15), (2, 15), (1, 13), (1, 11)] T.mixed rfl ?_)))
   refine Gm.q 0 [] (by kernel_rfl) rfl rfl (Qy.move rfl) (Gm.q 1 [] (by kernel_rfl) rfl rfl (Qy.nilCheck rfl) ?_)
   refine Gm.q 2 [] (by kernel_rfl) rfl rfl (Qy.fieldAddr T.fa97_0 rfl) (Gm.q 3 [0] (by kernel_rfl) rfl rfl (Qy.load 0 T.one94 rfl rfl rfl) (Gm.q 4 [] (by kernel_rfl) rfl rfl (Qy.move rfl) (Gm.q 5 [] (by kernel_rfl) rfl rfl (Qy.move rfl) (Gm.q 6 [] (by kernel_rfl) rfl rfl (Qy.nilCheck rfl) ?_))))
   refine Gm.q 7 [] (by kernel_rfl) rfl rfl (Qy.fieldAddr T.fa97_1 rfl) (Gm.q 8 [0] (by kernel_rfl) rfl rfl (Qy.load 0 T.one95 rfl rfl rfl) (Gm.q 9 [] (by kernel_rfl) rfl rfl (Qy.move rfl) (Gm.q 10 [] (by kernel_rfl) rfl rfl (Qy.move rfl) (Gm.one 11 ⟨rfl, rfl, rfl, trivial⟩ (by first | exact Imm.le_refl _ | assumption) (by kernel_rfl) rfl ?_))))
   refine Wl.mapEntry 1 rfl T.mp94 rfl rfl rfl (by assumption) ?_
   refine Wl.on0 ?_
   refine Gm.q 12 [] (by kernel_rfl) rfl rfl (Qy.extract rfl rfl) (Gm.one 13 ⟨rfl, rfl, trivial⟩ (by first | exact Imm.le_refl _ | assumption) (by kernel_rfl) rfl ?_)
   refine Wl.entryStore 1 rfl rfl rfl rfl ?_
   refine Wl.on0 ?_
   refine Gm.q 14 [] (by kernel_rfl) rfl rfl (Qy.indexAddrO (α := Bool) T.sl95 rfl rfl (by assumption) (by omega)) ?_
   refine Gm.one 15 ⟨rfl, rfl, trivial⟩ (by first | exact Imm.le_refl _ | assumption) (by kernel_rfl) rfl ?_
   refine Wl.setO (z := _) 2 T.size4 rfl rfl rfl (by assumption) (by omega) rfl (fun ho1 => ?_)
   refine Wl.on0 ?_
   refine Gm.doneA (by kernel_rfl) trivial (by first | exact Imm.le_refl _ | assumption) ?_
   refine Ar.next (Wc.seq (Wc.region rfl (Wl.q rfl (Qy.move rfl) (Wl.q rfl (Qy.assign rfl) (Wl.done (Ar.next (Wc.ret ?_)))))))
   refine Ar.outRet ?_
   refine Ar.passRet ?_
   refine Ar.passRet ?_
   refine Ar.outRet ?_
   refine Ar.passRet ?_
   refine Ar.scopeR ?_
   refine Ar.pick [0, 1, 2] (by decide) (Ar.out1 (.inr rfl) rfl (.tmp rfl) (Hp.sub_self 0 _) ?_)
   rotate_left
   · refine Ar.again (k + 1) ?_ ?_ rfl ⟨rfl, rfl, rfl, rfl, rfl, rfl, trivial⟩ ⟨rfl, rfl, rfl, trivial⟩
     · refine ⟨hlt, fun j hj => ?_⟩
       by_cases hjk : j = k
       · subst hjk
         rw [Int.toNat_natCast] at hc1
         simpa using hc1
       · exact hk2 j (by omega)
     · show s.free.length - (k + 1) < s.free.length - k
       omega
   · rw [Int.toNat_natCast] at hc1
     have hle : least s.free = k := least_at hlt hk2 (by simpa using hc1)
     have hg := give_yes s v (by rw [hle]; exact hlt)
     rw [hle] at hg
     rw [Int.toNat_natCast] at ho1
     refine ⟨a, c, junk, by rw [hle], by rw [hg]; exact ho1, rfl, ?_⟩
     rw [hg, mput_none _ _ _ hm, Int.toNat_natCast]
     show _ = [(0, some bp, .cells #[.map (some bm), .slice a (s.free.set k false).length c] 97), (1, some bm, mapObj (s.at_ ++ [(v, (k : Int))])), (2, a.map (·.block), Row 4 (s.free.set k false) junk)]
     rw [List.length_set]
     rfl
 · refine Wc.seq (Wc.region rfl (Wl.q rfl (Qy.lss rfl rfl) (Wl.done (Ar.next (Wc.seq (Wc.condN rfl (by first | assumption | omega) ?_))))))
   refine Wc.exit (Ar.passExit ?_)
   refine Ar.passExit ?_
   refine Ar.here ?_
   refine Ar.next (Wc.seq (Wc.draw [2, 1, 0] [(1, 10)] T.mixed rfl ?_))
   refine Gm.q 0 [] (by kernel_rfl) rfl rfl (Qy.move rfl) (Gm.q 1 [] (by kernel_rfl) rfl rfl (Qy.nilCheck rfl) ?_)
   refine Gm.q 2 [] (by kernel_rfl) rfl rfl (Qy.fieldAddr T.fa97_0 rfl) (Gm.q 3 [0] (by kernel_rfl) rfl rfl (Qy.load 0 T.one94 rfl rfl rfl) (Gm.q 4 [] (by kernel_rfl) rfl rfl (Qy.move rfl) (Gm.q 5 [] (by kernel_rfl) rfl rfl (Qy.move rfl) (Gm.q 6 [] (by kernel_rfl) rfl rfl (Qy.nilCheck rfl) ?_))))
   refine Gm.q 7 [] (by kernel_rfl) rfl rfl (Qy.fieldAddr T.fa97_1 rfl) (Gm.q 8 [0] (by kernel_rfl) rfl rfl (Qy.load 0 T.one95 rfl rfl rfl) (Gm.q 9 [] (by kernel_rfl) rfl rfl (Qy.len T.sl95 rfl) (Gm.one 10 ⟨rfl, rfl, rfl, trivial⟩ (by first | exact Imm.le_refl _ | assumption) (by kernel_rfl) rfl ?_)))
   refine Wl.mapUpdate 1 T.mp94 rfl rfl rfl rfl ?_
   refine Wl.on0 ?_
   refine Gm.doneA (by kernel_rfl) ⟨rfl, rfl, trivial⟩ (by first | exact Imm.le_refl _ | assumption) ?_
   refine Ar.next (Wc.seq (Wc.region rfl (Wl.q rfl (Qy.move rfl) (Wl.q rfl (Qy.move rfl) (Wl.q rfl (Qy.nilCheck rfl) (Wl.q rfl (Qy.fieldAddr T.fa97_1 rfl) (Wl.q rfl (Qy.load 0 T.one95 rfl rfl rfl) ?_)))))))
   refine Wl.lit (α := Bool) 3 [(Bool.false)] rfl T.sl95 T.el4 rfl rfl rfl rfl rfl (fun b1 => ?_)
   refine Wl.append (α := Bool) 2 rfl T.sl95 T.el4 rfl rfl rfl (by first | assumption | exact OwnA.nil | exact OwnA.made (by simp)) (Src.row 3 rfl) (by first | omega | (simp only [List.length_append, List.length_cons, List.length_nil, maxLen]; omega)) (by first | omega | (simp only [List.length_append, List.length_cons, List.length_nil, maxLen]; omega)) (fun a1 c1 junk1 ho1 => ?_)
   refine Wl.q rfl (Qy.nilCheck rfl) (Wl.q rfl (Qy.fieldAddr T.fa97_1 rfl) ?_)
   refine Wl.store 0 T.one95 rfl rfl rfl rfl rfl ?_
   refine Wl.done (Ar.next (Wc.seq (Wc.region rfl (Wl.q rfl (Qy.move rfl) (Wl.q rfl (Qy.nilCheck rfl) (Wl.q rfl (Qy.fieldAddr T.fa97_1 rfl) (Wl.q rfl (Qy.load 0 T.one95 rfl rfl rfl) (Wl.q rfl (Qy.len T.sl95 rfl) (Wl.q rfl (Qy.subW rfl rfl) ?_)))))))))
   refine Wl.q rfl (Qy.assign rfl) (Wl.done (Ar.next (Wc.ret (Ar.scopeR ?_))))
   refine Ar.pick [0, 1, 2] (by decide) (Ar.out1 (.inr rfl) rfl (.tmp rfl) (Hp.sub_self 0 _) ?_)
   have hke : k = s.free.length := by omega
   have hle : least s.free = s.free.length := least_none (fun j hj => hk2 j (by omega))
   have hg := give_no s v (by rw [hle]; omega)
   refine ⟨a1, c1, junk1, ?_, by rw [hg]; exact ho1, rfl, ?_⟩
   · rw [hle, List.length_append]
     show Value.int .i64 (IntKind.i64.wrap (((s.free.length + 1 : Nat) : Int) - 1)) = _
     rw [show (((s.free.length + 1 : Nat) : Int) - 1) = s.free.length by omega]
     rw [IntWalk.i64_in _ (by omega)]
   · rw [hg, hle]
     rfl
end Go.Proofs.YtbppmiimeccclaaDoor
