/- share.Pass, as a plain law: what the pass makes of a right program is right, and the pass of that is that again. -/
import Derived.Test.YtfleehgbpgmcnaaAg
namespace Go.Proofs.Ytfleehgbpgmcnaa
open Go Go.Sl
set_option linter.unusedVariables false

/-! the first that holds a value -/
theorem holder_some {l : List Int} {v : Int} (h : 0 ≤ holder l v) : holder l v < l.length ∧ l[(holder l v).toNat]?.getD default = v := by
  unfold holder at h ⊢
  cases hk : l.findIdx? (fun x => decide (x = v)) with
  | none => rw [hk] at h; simp at h
  | some k =>
    rw [List.findIdx?_eq_some_iff_getElem] at hk
    obtain ⟨h1, h2, _⟩ := hk
    simp only [decide_eq_true_eq] at h2
    refine ⟨by show (k : Int) < _; omega, ?_⟩
    show l[((k : Nat) : Int).toNat]?.getD default = v
    rw [Int.toNat_natCast, List.getElem?_eq_getElem h1]; exact h2
theorem holder_none {l : List Int} {v : Int} (h : ¬ 0 ≤ holder l v) : holder l v = -1 := by
  unfold holder at h ⊢
  cases hk : l.findIdx? (fun x => decide (x = v)) with
  | none => rfl
  | some k => rw [hk] at h; exact absurd (Int.natCast_nonneg k) h
theorem holder_mem {l : List Int} {v : Int} (h : v ∈ l) : 0 ≤ holder l v := by
  unfold holder
  cases hk : l.findIdx? (fun x => decide (x = v)) with
  | none => rw [List.findIdx?_eq_none_iff] at hk; have := hk v h; simp at this
  | some k => exact Int.natCast_nonneg k
theorem holder_lt {l : List Int} {v n : Int} (hl : ∀ x ∈ l, x < n) (h : n ≤ v) : holder l v = -1 := by
  refine holder_none fun hh => ?_
  obtain ⟨h1, h2⟩ := holder_some hh
  have hm : v ∈ l := by
    have hlt : (holder l v).toNat < l.length := by omega
    rw [List.getElem?_eq_getElem hlt, Option.getD_some] at h2
    rw [← h2]; exact List.getElem_mem hlt
  have := hl v hm; omega
theorem get_mem {l : List Int} {r : Int} (h : 0 ≤ r ∧ r < l.length) : l[r.toNat]?.getD default ∈ l := by
  have hlt : r.toNat < l.length := by omega
  rw [List.getElem?_eq_getElem hlt]; exact List.getElem_mem hlt
/-- asked by its first holder, a register holds what it held -/
theorem holder_get {l : List Int} {r : Int} (h : 0 ≤ r ∧ r < l.length) : 0 ≤ holder l (l[r.toNat]?.getD default) ∧ holder l (l[r.toNat]?.getD default) < l.length ∧
    l[(holder l (l[r.toNat]?.getD default)).toNat]?.getD default = l[r.toNat]?.getD default := by
  have h0 := holder_mem (get_mem h)
  exact ⟨h0, holder_some h0⟩

/-! two tables that answer alike -/
def Alike (t u : Tab) : Prop := t.held = u.held ∧ t.known = u.known ∧ t.next = u.next
/-- what a table's values keep to -/
structure Sound (t : Tab) (regs : Int) : Prop where
  len : (t.held.length : Int) = regs
  held : ∀ x ∈ t.held, x < t.next
  known : ∀ k v, mget t.known k = some v → v < t.next
theorem asked_key {l : List Int} {i : Sl.Instr} (h : mayOk i l.length = true) : keyOf l (askedP l i) = keyOf l i ∧ askedP l (askedP l i) = askedP l i ∧ mayOk (askedP l i) l.length = true := by
  have h' := h
  rw [mayOk_iff] at h
  obtain ⟨⟨h1, h2, h3, h4, h5, h6⟩, hb⟩ := h
  obtain ⟨a1, a2, a3⟩ := holder_get (l := l) (r := i.a) ⟨h5, h6⟩
  by_cases ht : i.op = 3 ∨ i.op = 4
  · rw [if_pos ht] at hb
    obtain ⟨b1, b2, b3⟩ := holder_get (l := l) (r := i.b) ⟨hb.1, hb.2.1⟩
    have e : askedP l i = ⟨i.op, i.to, holder l (l[i.a.toNat]?.getD default), holder l (l[i.b.toNat]?.getD default), i.c⟩ := by unfold askedP; rw [if_pos ht]
    refine ⟨?_, ?_, ?_⟩
    · rw [e]; unfold keyOf; simp only [a3, b3]
    · rw [e]; unfold askedP; simp only [a3, b3, if_pos ht]
    · rw [e, mayOk_iff, if_pos ht]; exact ⟨⟨h1, h2, h3, h4, a1, a2⟩, b1, b2, hb.2.2⟩
  · rw [if_neg ht] at hb
    have e : askedP l i = ⟨i.op, i.to, holder l (l[i.a.toNat]?.getD default), i.b, i.c⟩ := by unfold askedP; rw [if_neg ht]
    refine ⟨?_, ?_, ?_⟩
    · rw [e]; unfold keyOf; simp only [a3, if_neg ht]
    · rw [e]; unfold askedP; simp only [a3, if_neg ht]
    · rw [e, mayOk_iff, if_neg ht]; exact ⟨⟨h1, h2, h3, h4, a1, a2⟩, hb⟩

/-- the pass over a list, behind n instructions -/
def passL : Tab × List Sl.Instr → Nat → List Sl.Instr → Tab × List Sl.Instr
  | s, _, [] => s
  | s, n, i :: l => passL (passStep s n i) (n + 1) l
theorem passL_append (s : Tab × List Sl.Instr) (n : Nat) (l m : List Sl.Instr) : passL s n (l ++ m) = passL (passL s n l) (n + l.length) m := by
  induction l generalizing s n with
  | nil => rfl
  | cons i l ih => show passL (passStep s n i) (n + 1) (l ++ m) = _; rw [ih, List.length_cons, show n + 1 + l.length = n + (l.length + 1) by omega]; rfl
theorem passTo_eq (p : PV) : ∀ k, k ≤ p.code.length → passTo p k = passL (⟨start p, [], [], p.ins + 1⟩, []) 0 (p.code.take k)
  | 0, _ => rfl
  | k + 1, h => by
    have hk : k < p.code.length := by omega
    show passStep (passTo p k) k (p.code[((k : Nat) : Int).toNat]?.getD default) = _
    rw [passTo_eq p k (by omega), List.take_add_one, Int.toNat_natCast, List.getElem?_eq_getElem hk, passL_append, List.length_take, Nat.min_eq_left (by omega), Nat.zero_add]
    rfl

theorem reckon_alike {t u : Tab} (h : Alike t u) (n m : Int) {i j : Sl.Instr} (ho : i.op = j.op) (ha : t.held[i.a.toNat]?.getD default = t.held[j.a.toNat]?.getD default) (hk : keyOf t.held i = keyOf t.held j) :
    (reckonP u m j).1.1 = (reckonP t n i).1.1 ∧ Alike (reckonP t n i).2 (reckonP u m j).2 := by
  obtain ⟨h1, h2, h3⟩ := h
  unfold reckonP
  rw [← h1, ← h2, ← h3, ← hk, ← ho, ← ha]
  split
  · exact ⟨rfl, h1, h2, h3⟩
  · split
    · exact ⟨rfl, rfl, rfl, rfl⟩
    · exact ⟨rfl, h1, h2, h3⟩
theorem reckon_sound {t : Tab} {regs : Int} (h : Sound t regs) (n : Int) (i : Sl.Instr) (ha : 0 ≤ i.a ∧ i.a < regs) : Sound (reckonP t n i).2 regs ∧ (reckonP t n i).1.1 < (reckonP t n i).2.next := by
  unfold reckonP
  split
  · exact ⟨h, h.held _ (get_mem (by rw [h.len]; exact ha))⟩
  · split
    · rename_i hk
      refine ⟨⟨h.len, fun x hx => ?_, fun k v hv => ?_⟩, ?_⟩
      · have := h.held x hx; show x < t.next + 1; omega
      · show v < t.next + 1
        have hv' : mget (t.known ++ [(keyOf t.held i, t.next)]) k = some v := hv
        rw [← mput_none _ _ _ hk, mget_mput] at hv'
        split at hv'
        · cases hv'; omega
        · have := h.known k v hv'; omega
      · show t.next < t.next + 1; omega
    · rename_i v hk
      exact ⟨h, h.known _ _ hk⟩
/-- either nothing is turned but the table's keys .. -/
theorem reckon_keep (t : Tab) (n : Int) (i : Sl.Instr) : (reckonP t n i).2 = t ∨ (reckonP t n i).1.1 = t.next := by
  unfold reckonP
  split
  · exact .inl rfl
  · split
    · exact .inr rfl
    · exact .inl rfl

theorem set_len {l : List Int} {k : Nat} {v regs : Int} (h : (l.length : Int) = regs) : ((l.set k v).length : Int) = regs := by rw [List.length_set]; exact h
/-- one step, and what the second pass makes of what comes out -/
theorem step_again {t u : Tab} {regs : Int} {i : Sl.Instr} (n m : Int) (o o' : List Sl.Instr) (hs : Sound t regs) (hm : mayOk i regs = true) (ha : Alike t u) :
    Sound (passStep (t, o) n i).1 regs ∧
    (((passStep (t, o) n i).2 = o ∧ Alike (passStep (t, o) n i).1 u) ∨
      ∃ j, (passStep (t, o) n i).2 = o ++ [j] ∧ mayOk j regs = true ∧ (passStep (u, o') m j).2 = o' ++ [j] ∧ Alike (passStep (t, o) n i).1 (passStep (u, o') m j).1) := by
  have hm' := hm
  rw [mayOk_iff] at hm'
  obtain ⟨⟨m1, m2, m3, m4, m5, m6⟩, mb⟩ := hm'
  obtain ⟨s1, s2⟩ := reckon_sound hs n i ⟨m5, m6⟩
  have hh := reckon_held t n i
  have hto : (askedP (reckonP t n i).2.held i).to = i.to := rfl
  by_cases hsame : (reckonP t n i).2.held[(askedP (reckonP t n i).2.held i).to.toNat]?.getD default = (reckonP t n i).1.1
  · rw [passStep_same hsame]
    refine ⟨s1, .inl ⟨rfl, ?_⟩⟩
    rcases reckon_keep t n i with hk | hk
    · rw [show ((reckonP t n i).2, o).1 = t from hk]; exact ha
    · exfalso
      rw [hk, hh] at hsame
      replace hsame : t.held[i.to.toNat]?.getD default = t.next := hsame
      have := hs.held _ (get_mem (l := t.held) (r := i.to) (by rw [hs.len]; exact ⟨m3, m4⟩))
      rw [hsame] at this; omega
  · have hset : ∀ k : Nat, Sound { (reckonP t n i).2 with held := (reckonP t n i).2.held.set k (reckonP t n i).1.1 } regs := fun k =>
      ⟨set_len s1.len, fun x hx => by
        rcases List.mem_or_eq_of_mem_set hx with h | h
        · exact s1.held x h
        · rw [h]; exact s2, s1.known⟩
    have hl' : mayOk i t.held.length = true := by rw [hs.len]; exact hm
    by_cases hmv : 0 ≤ holder (reckonP t n i).2.held (reckonP t n i).1.1
    · rw [passStep_move hsame hmv]
      refine ⟨hset _, .inr ⟨_, rfl, ?_, ?_⟩⟩
      · have h1 := (holder_some hmv).1
        rw [mayOk_iff]
        refine ⟨⟨Int.le_refl 1, by show (1 : Int) ≤ 8; decide, m3, m4, hmv, ?_⟩, ?_⟩
        · rw [← s1.len]; exact h1
        · have n1 : ¬ ((1 : Int) = 3 ∨ (1 : Int) = 4) := by decide
          have n2 : ¬ ((1 : Int) = 5 ∨ (1 : Int) = 6) := by decide
          have n3 : ¬ ((1 : Int) = 7 ∨ (1 : Int) = 8) := by decide
          rw [if_neg n1]
          refine ⟨rfl, ?_⟩
          rw [if_neg n2, if_neg n3]
      · -- nothing new was reckoned
        have hk : (reckonP t n i).2 = t := by
          rcases reckon_keep t n i with hk | hk
          · exact hk
          · exfalso
            rw [hk, hh, holder_lt hs.held (Int.le_refl _)] at hmv
            exact absurd hmv (by decide)
        obtain ⟨ha1, ha2, ha3⟩ := ha
        rw [hk] at hmv hsame ⊢
        generalize hv : (reckonP t n i).1.1 = v at *
        replace hsame : ¬ t.held[i.to.toNat]?.getD default = v := hsame
        have hto2 : (askedP t.held i).to = i.to := rfl
        rw [hto2]
        have hrs := (holder_some hmv).2
        generalize hj : (⟨1, i.to, holder t.held v, 0, 0⟩ : Sl.Instr) = j
        have hj1 : j.op = 1 := by rw [← hj]
        have hj2 : j.to = i.to := by rw [← hj]
        have hj3 : j.a = holder t.held v := by rw [← hj]
        have r1 : reckonP u m j = ((v, -1), u) := by unfold reckonP; rw [if_pos hj1, ← ha1, hj3, hrs]
        have hj4 : (askedP (reckonP u m j).2.held j).to = i.to := hj2
        have d1 : ¬ (reckonP u m j).2.held[(askedP (reckonP u m j).2.held j).to.toNat]?.getD default = (reckonP u m j).1.1 := by rw [hj4, r1]; show ¬ u.held[_]?.getD default = v; rw [← ha1]; exact hsame
        have d2 : 0 ≤ holder (reckonP u m j).2.held (reckonP u m j).1.1 := by rw [r1]; show 0 ≤ holder u.held v; rw [← ha1]; exact hmv
        rw [passStep_move d1 d2, hj4, r1]
        refine ⟨?_, ?_, ha2, ha3⟩
        · show _ ++ [(⟨1, i.to, holder u.held v, 0, 0⟩ : Sl.Instr)] = _
          rw [← ha1, hj]
        · show t.held.set i.to.toNat v = u.held.set i.to.toNat v; rw [ha1]
    · rw [passStep_keep hsame hmv]
      rw [hh] at hsame hmv ⊢
      obtain ⟨k1, k2, k3⟩ := asked_key hl'
      rw [hs.len] at k3
      have hA : t.held[(askedP t.held i).a.toNat]?.getD default = t.held[i.a.toNat]?.getD default := (holder_get (l := t.held) (r := i.a) (by rw [hs.len]; exact ⟨m5, m6⟩)).2.2
      obtain ⟨e1, e2⟩ := reckon_alike ha n m (i := i) (j := askedP t.held i) rfl hA.symm k1.symm
      have hu := reckon_held u m (askedP t.held i)
      have d1 : ¬ (reckonP u m (askedP t.held i)).2.held[(askedP (reckonP u m (askedP t.held i)).2.held (askedP t.held i)).to.toNat]?.getD default = (reckonP u m (askedP t.held i)).1.1 := by
        rw [e1, hu, ← ha.1, k2]; exact hsame
      have d2 : ¬ 0 ≤ holder (reckonP u m (askedP t.held i)).2.held (reckonP u m (askedP t.held i)).1.1 := by rw [e1, hu, ← ha.1]; exact hmv
      refine ⟨by have := hset (askedP t.held i).to.toNat; rw [hh] at this; exact this, .inr ⟨_, rfl, k3, ?_⟩⟩
      rw [passStep_keep d1 d2]
      rw [e1, hu, ← ha.1, k2]
      exact ⟨rfl, rfl, e2.2.1, e2.2.2⟩
theorem pass_again {regs : Int} : ∀ (l : List Sl.Instr) (t u : Tab) (o o' : List Sl.Instr) (n m : Nat), Sound t regs → Alike t u → (∀ i ∈ l, mayOk i regs = true) →
    ∃ new, (passL (t, o) n l).2 = o ++ new ∧ new.length ≤ l.length ∧ (∀ i ∈ new, mayOk i regs = true) ∧ Sound (passL (t, o) n l).1 regs ∧ (passL (u, o') m new).2 = o' ++ new ∧ Alike (passL (t, o) n l).1 (passL (u, o') m new).1
  | [], t, u, o, o', n, m, hs, ha, _ => ⟨[], by simp [passL], Nat.le_refl _, by simp, hs, by simp [passL], ha⟩
  | i :: l, t, u, o, o', n, m, hs, ha, hm => by
    obtain ⟨s1, h⟩ := step_again (n : Int) (m : Int) o o' hs (hm i (by simp)) ha
    rcases h with ⟨h1, h2⟩ | ⟨j, h1, h2, h3, h4⟩
    · obtain ⟨new, q1, q2, q3, q4, q5, q6⟩ := pass_again l (passStep (t, o) n i).1 u o o' (n + 1) m s1 h2 (fun x hx => hm x (by simp [hx]))
      have e : passStep (t, o) n i = ((passStep (t, o) n i).1, o) := Prod.ext rfl h1
      refine ⟨new, ?_, by rw [List.length_cons]; omega, q3, ?_, q5, ?_⟩
      · show (passL (passStep (t, o) n i) (n + 1) l).2 = _; rw [e]; exact q1
      · show Sound (passL (passStep (t, o) n i) (n + 1) l).1 regs; rw [e]; exact q4
      · show Alike (passL (passStep (t, o) n i) (n + 1) l).1 _; rw [e]; exact q6
    · obtain ⟨new, q1, q2, q3, q4, q5, q6⟩ := pass_again l (passStep (t, o) n i).1 (passStep (u, o') m j).1 (o ++ [j]) (o' ++ [j]) (n + 1) (m + 1) s1 h4 (fun x hx => hm x (by simp [hx]))
      have e : passStep (t, o) n i = ((passStep (t, o) n i).1, o ++ [j]) := Prod.ext rfl h1
      have e' : passStep (u, o') m j = ((passStep (u, o') m j).1, o' ++ [j]) := Prod.ext rfl h3
      refine ⟨j :: new, ?_, by rw [List.length_cons, List.length_cons]; omega, ?_, ?_, ?_, ?_⟩
      · show (passL (passStep (t, o) n i) (n + 1) l).2 = _; rw [e, q1]; simp
      · intro x hx
        rcases List.mem_cons.1 hx with rfl | hx
        · exact h2
        · exact q3 x hx
      · show Sound (passL (passStep (t, o) n i) (n + 1) l).1 regs; rw [e]; exact q4
      · show (passL (passStep (u, o') m j) (m + 1) new).2 = _; rw [e', q5]; simp
      · show Alike (passL (passStep (t, o) n i) (n + 1) l).1 (passL (passStep (u, o') m j) (m + 1) new).1; rw [e, e']; exact q6
theorem start_sound {p : PV} (h : 1 ≤ p.ins ∧ p.ins ≤ p.regs) : Sound ⟨start p, [], [], p.ins + 1⟩ p.regs := by
  refine ⟨?_, fun x hx => ?_, fun k v hv => by simp [mget] at hv⟩
  · show ((start p).length : Int) = _; simp [start]; omega
  · simp only [start, List.mem_map, List.mem_range] at hx
    obtain ⟨r, _, rfl⟩ := hx
    show _ < p.ins + 1
    split <;> omega
theorem pass_facts {p : PV} (h : rightP p = true) : ((passP p).code.length ≤ p.code.length) ∧ (∀ i ∈ (passP p).code, mayOk i p.regs = true) ∧ Sound (passTo p p.code.length).1 p.regs ∧
    (passTo (passP p) (passP p).code.length).2 = (passP p).code ∧ (passTo (passP p) (passP p).code.length).1.held = (passTo p p.code.length).1.held := by
  obtain ⟨r1, r2, r3, r4, r5, r6, r7, r8⟩ := right_facts h
  have hs := start_sound (p := p) ⟨r1, r2⟩
  obtain ⟨new, q1, q2, q3, q4, q5, q6⟩ := pass_again p.code ⟨start p, [], [], p.ins + 1⟩ ⟨start p, [], [], p.ins + 1⟩ [] [] 0 0 hs ⟨rfl, rfl, rfl⟩ r8
  have e := passTo_eq p p.code.length (Nat.le_refl _)
  rw [List.take_length] at e
  have hc : (passP p).code = new := by show (passTo p p.code.length).2 = new; rw [e, q1]; rfl
  have e2 := passTo_eq (passP p) (passP p).code.length (Nat.le_refl _)
  rw [List.take_length] at e2
  have hst : start (passP p) = start p := rfl
  rw [hst] at e2
  have hin : (passP p).ins = p.ins := rfl
  rw [hin] at e2
  refine ⟨by rw [hc]; exact q2, by rw [hc]; exact q3, by rw [e]; exact q4, ?_, ?_⟩
  · rw [e2, hc, q5]; rfl
  · rw [e2, hc, e]; exact q6.1.symm
theorem pass_idem {p : PV} (h : rightP p = true) : rightP (passP p) = true ∧ passP (passP p) = passP p := by
  obtain ⟨r1, r2, r3, r4, r5, r6, r7, r8⟩ := right_facts h
  obtain ⟨f1, f2, f3, f4, f5⟩ := pass_facts h
  have hol : ∀ r ∈ p.outs, 0 ≤ r ∧ r < (passTo p p.code.length).1.held.length := fun r hr => by rw [f3.len]; exact r7 r hr
  have hmem : ∀ r ∈ (passP p).outs, 0 ≤ r ∧ r < p.regs := by
    intro r hr
    obtain ⟨x, hx, rfl⟩ := List.mem_map.1 hr
    have := holder_get (hol x hx)
    rw [f3.len] at this
    exact ⟨this.1, this.2.1⟩
  have hlen : (passP p).outs.length = p.outs.length := by simp [passP, passOuts]
  constructor
  · have h1 : headOk (passP p) = true := by
      unfold headOk
      rw [Bool.and_eq_true, decide_eq_true_eq, List.all_eq_true]
      refine ⟨⟨r1, r2, r3, by omega, by rw [hlen]; exact r5, by rw [hlen]; exact r6⟩, fun r hr => ?_⟩
      rw [decide_eq_true_eq]; exact hmem r hr
    have h2 : badAt (passP p) = none := by
      unfold badAt
      rw [List.findIdx?_eq_none_iff]
      intro i hi
      have := f2 i hi
      show (!mayOk i p.regs) = false
      rw [this]; rfl
    unfold rightP checkP
    rw [if_neg (by rw [h1]; decide), h2]; rfl
  · have ho : passOuts (passP p) (passTo (passP p) (passP p).code.length).1.held = (passP p).outs := by
      rw [f5]
      show (passOuts p _).map _ = passOuts p _
      unfold passOuts
      rw [List.map_map]
      refine List.map_congr_left fun r hr => ?_
      show holder _ (_[(holder _ _).toNat]?.getD default) = _
      rw [(holder_get (hol r hr)).2.2]
    show (⟨(passP p).ins, (passP p).regs, (passTo (passP p) (passP p).code.length).2, passOuts (passP p) (passTo (passP p) (passP p).code.length).1.held⟩ : PV) = passP p
    rw [f4, ho]
end Go.Proofs.Ytfleehgbpgmcnaa
