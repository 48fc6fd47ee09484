/- Parts of the proof (part 4): what the rows' text needs of the texts that lead to it. -/
import Derived.Test.YtfleehgbpgmcnaaMPc
set_option linter.unusedVariables false
namespace Go.Proofs.Ytfleehgbpgmcnaa
open Go Go.Sl
theorem ab_keep (p : PV) {k : Nat} : ∀ (j : Nat), k < j → (lifeTo p j).a[((k : Nat) : Int).toNat]?.getD default = (lifeTo p (k + 1)).a[((k : Nat) : Int).toNat]?.getD default ∧ (lifeTo p j).b[((k : Nat) : Int).toNat]?.getD default = (lifeTo p (k + 1)).b[((k : Nat) : Int).toNat]?.getD default ∧ (lifeTo p j).sets[((k : Nat) : Int).toNat]?.getD default = (lifeTo p (k + 1)).sets[((k : Nat) : Int).toNat]?.getD default
  | 0, h => absurd h (Nat.not_lt_zero _)
  | j + 1, h => by
    by_cases hk : k = j
    · rw [hk]; exact ⟨rfl, rfl, rfl⟩
    · have ih := ab_keep p (k := k) j (by omega)
      by_cases hn : nAt p j = true
      · rw [life_yes hn]
        refine ⟨?_, ?_, ?_⟩
        · show ((lifeTo p j).a.set j _)[((k : Nat) : Int).toNat]?.getD default = _
          rw [List.getElem?_set, if_neg (by omega)]; exact ih.1
        · show ((lifeTo p j).b.set j _)[((k : Nat) : Int).toNat]?.getD default = _
          rw [List.getElem?_set, if_neg (by omega)]; exact ih.2.1
        · show ((lifeTo p j).sets.set j _)[((k : Nat) : Int).toNat]?.getD default = _
          rw [List.getElem?_set, if_neg (by omega)]; exact ih.2.2
      · rw [life_no hn]; exact ih
theorem out_abs (p : PV) : ∀ j, (outTo p j).a = (lifeTo p p.code.length).a ∧ (outTo p j).b = (lifeTo p p.code.length).b ∧ (outTo p j).sets = (lifeTo p p.code.length).sets
  | 0 => ⟨rfl, rfl, rfl⟩
  | j + 1 => out_abs p j
theorem set_here {l : List Int} {k : Nat} {x : Int} (h : k < l.length) : (l.set k x)[((k : Nat) : Int).toNat]?.getD default = x := by
  rw [Int.toNat_natCast, List.getElem?_set_self h]; rfl
theorem life_abs {p : PV} (hR : rightP p = true) {k : Nat} (hk : k < p.code.length) (hn : nAt p k = true) :
    (lifeP p).a[((k : Nat) : Int).toNat]?.getD default = dueA p k ∧ (lifeP p).b[((k : Nat) : Int).toNat]?.getD default = dueB p k ∧ (lifeP p).sets[((k : Nat) : Int).toNat]?.getD default = vlen p k := by
  obtain ⟨o1, o2, o3⟩ := out_abs p p.outs.length
  obtain ⟨k1, k2, k3⟩ := ab_keep p p.code.length hk
  have ok := lifeTo_ok hR k (by omega)
  unfold lifeP
  rw [o1, o2, o3, k1, k2, k3, life_yes hn]
  exact ⟨set_here (by rw [ok.al]; exact hk), set_here (by rw [ok.bl]; exact hk), set_here (by rw [ok.sl]; exact hk)⟩
theorem pigeon : ∀ (n : Nat) (f : Nat → Nat) (m : Nat), (∀ i, i < m → f i < n) → (∀ i j, i < m → j < m → f i = f j → i = j) → m ≤ n
  | 0, f, m, h, _ => by
    cases m with
    | zero => exact Nat.le_refl _
    | succ m => exact absurd (h 0 (by omega)) (Nat.not_lt_zero _)
  | n + 1, f, m, h, hi => by
    by_cases hx : ∃ i, i < m ∧ f i = n
    · obtain ⟨a, ha, hfa⟩ := hx
      have := pigeon n (fun i => if i < a then f i else f (i + 1)) (m - 1) (fun i hm => by
        show (if i < a then f i else f (i + 1)) < n
        split
        · have h1 := h i (by omega)
          have h2 : f i ≠ n := fun e => by have := hi i a (by omega) ha (e.trans hfa.symm); omega
          omega
        · have h1 := h (i + 1) (by omega)
          have h2 : f (i + 1) ≠ n := fun e => by have := hi (i + 1) a (by omega) ha (e.trans hfa.symm); omega
          omega) (fun i j hi' hj' e => by
        have e : (if i < a then f i else f (i + 1)) = (if j < a then f j else f (j + 1)) := e
        split at e <;> split at e
        · exact hi i j (by omega) (by omega) e
        · have := hi i (j + 1) (by omega) (by omega) e; omega
        · have := hi (i + 1) j (by omega) (by omega) e; omega
        · have := hi (i + 1) (j + 1) (by omega) (by omega) e; omega)
      omega
    · have := pigeon n f m (fun i hm => by
        have h1 := h i hm
        have h2 : f i ≠ n := fun e => hx ⟨i, hm, e⟩
        omega) hi
      omega
/-- asked at k or later -/
def Alive (p : PV) (k : Nat) (v : Int) : Prop := (0 ≤ v ∧ v < vlen p k) ∧ (k : Int) ≤ due p v
def fr (s : Pl) (r : Int) : Bool := s.free[r.toNat]?.getD default
theorem bools_get_set {l : List Bool} {k : Nat} {x : Bool} {r : Int} (hr : 0 ≤ r ∧ r < l.length) : (l.set k x)[r.toNat]?.getD default = if (k : Int) = r then x else l[r.toNat]?.getD default := by
  rw [List.getElem?_set]
  by_cases h : k = r.toNat
  · rw [if_pos h, if_pos (by omega), if_pos (by omega)]; rfl
  · rw [if_neg h, if_neg (by omega)]
theorem fr_free {p : PV} {k : Nat} {s : Pl} {v r : Int} (hs : PlOk s) (hr : 0 ≤ r ∧ r < s.free.length) : fr (freeAt (lifeP p) k s v) r = (fr s r || decide (due p v = k ∧ stand s v = r)) := by
  have hv := hs.ab v
  unfold fr freeAt
  by_cases h : (lifeP p).till[v.toNat]?.getD default = (k : Int)
  · rw [if_pos h]
    show (s.free.set _ true)[r.toNat]?.getD default = _
    rw [bools_get_set hr, Int.toNat_of_nonneg hv.1]
    by_cases e : stand s v = r
    · rw [if_pos e, decide_eq_true ⟨h, e⟩, Bool.or_true]
    · rw [if_neg e, decide_eq_false (fun x => e x.2), Bool.or_false]
  · rw [if_neg h, decide_eq_false (fun x => h x.1), Bool.or_false]
theorem fr_give {s : Pl} {v r : Int} (hr : 0 ≤ r ∧ r < (giveP s v).free.length) : fr (giveP s v) r = if r = least s.free then false else fr s r := by
  have hl := give_len s v
  have hle := least_le s.free
  unfold fr giveP
  simp only
  by_cases h : least s.free < s.free.length
  · rw [if_pos h] at hl ⊢
    rw [bools_get_set (by omega)]
    by_cases e : r = least s.free
    · rw [if_pos e.symm, if_pos e]
    · rw [if_neg (fun x => e x.symm), if_neg e]
  · rw [if_neg h] at hl ⊢
    by_cases e : r = least s.free
    · rw [if_pos e, List.getElem?_append_right (by omega), e, Int.toNat_natCast, show least s.free - s.free.length = 0 by omega]; rfl
    · rw [if_neg e, List.getElem?_append_left (by omega)]
theorem least_free {l : List Bool} (h : least l < l.length) : l[least l]?.getD default = true := by
  rw [List.getElem?_eq_getElem h]
  unfold least at h ⊢
  exact List.findIdx_getElem (w := h)
theorem none_free {l : List Bool} (h : ¬ least l < l.length) (r : Nat) (hr : r < l.length) : l[r]?.getD default = false := by
  have h1 : l.findIdx (fun b => b) = l.length := by unfold least at h; have := least_le l; unfold least at this; omega
  rw [List.getElem?_eq_getElem hr]
  exact (List.findIdx_eq_length.1 h1) _ (List.getElem_mem hr)
structure Occ (p : PV) (k : Nat) (s : Pl) : Prop where
  ok : PlOk s
  i1 : ∀ v, Alive p k v → fr s (stand s v) = false
  i2 : ∀ v w, Alive p k v → Alive p k w → stand s v = stand s w → v = w
  i3 : ∀ r : Int, 0 ≤ r ∧ r < s.free.length → fr s r = false → ∃ v, Alive p k v ∧ stand s v = r
  i5 : (s.free.length : Int) ≤ p.regs
theorem alive_no {p : PV} (hR : rightP p = true) {k : Nat} (hk : k < p.code.length) (hn : ¬ nAt p k = true) {v : Int} : Alive p (k + 1) v ↔ Alive p k v := by
  unfold Alive
  rw [vlen_no hn]
  constructor
  · rintro ⟨h1, h2⟩; exact ⟨h1, by omega⟩
  · rintro ⟨h1, h2⟩
    refine ⟨h1, ?_⟩
    have hv2 : 0 ≤ v ∧ v < vlen p p.code.length := ⟨h1.1, by have := vlen_mono p (show k ≤ p.code.length by omega); omega⟩
    rcases due_who hR hv2 with h | ⟨t, ht, h, ha, _⟩ | ⟨h, _⟩
    · omega
    · by_cases e : t = k
      · subst e; exact absurd ha hn
      · omega
    · omega
/-- who is alive behind an instruction: the value that it sets, and those who were, but those asked for the last time -/
theorem alive_yes {p : PV} (hR : rightP p = true) {k : Nat} (hk : k < p.code.length) (hn : nAt p k = true) {v : Int} : Alive p (k + 1) v ↔ v = vlen p k ∨ (Alive p k v ∧ due p v ≠ k) := by
  have hnew := new_due hR hk hn
  unfold Alive
  rw [vlen_yes hn]
  constructor
  · rintro ⟨h1, h2⟩
    by_cases e : v = vlen p k
    · exact .inl e
    · exact .inr ⟨⟨by omega, by omega⟩, by omega⟩
  · rintro (e | ⟨⟨h1, h2⟩, h3⟩)
    · subst e; exact ⟨by omega, hnew⟩
    · exact ⟨by omega, by omega⟩
theorem alive_due {p : PV} (hR : rightP p = true) {k : Nat} (hk : k < p.code.length) (hn : nAt p k = true) : Alive p k (dueA p k) ∧ Alive p k (dueB p k) :=
  ⟨⟨(due_in hR hk).1, due_asked hR hk ⟨hn, .inl rfl⟩⟩, ⟨(due_in hR hk).2, due_asked hR hk ⟨hn, .inr rfl⟩⟩⟩
theorem last_due {p : PV} (hR : rightP p = true) {k : Nat} (hk : k < p.code.length) {v : Int} (ha : Alive p k v) (hd : due p v = k) : v = dueA p k ∨ v = dueB p k := by
  have hv2 : 0 ≤ v ∧ v < vlen p p.code.length := ⟨ha.1.1, by have := vlen_mono p (show k ≤ p.code.length by omega); have := ha.1.2; omega⟩
  rcases due_who hR hv2 with h | ⟨t, ht, h, _, h4⟩ | ⟨h, _⟩
  · omega
  · have e : t = k := by omega
    subst e; exact h4
  · omega
def s2P (p : PV) (k : Nat) (s : Pl) : Pl := freeAt (lifeP p) k (freeAt (lifeP p) k s (dueA p k)) (dueB p k)
theorem s2_len (p : PV) (k : Nat) (s : Pl) : (s2P p k s).free.length = s.free.length := by unfold s2P; rw [freeAt_len, freeAt_len]
theorem s2_stand (p : PV) (k : Nat) (s : Pl) (w : Int) : stand (s2P p k s) w = stand s w := by unfold s2P; rw [freeAt_stand, freeAt_stand]
theorem s2_fr {p : PV} {k : Nat} {s : Pl} (hs : PlOk s) {r : Int} (hr : 0 ≤ r ∧ r < s.free.length) : fr (s2P p k s) r = (fr s r || decide (due p (dueA p k) = k ∧ stand s (dueA p k) = r) || decide (due p (dueB p k) = k ∧ stand s (dueB p k) = r)) := by
  unfold s2P
  rw [fr_free (freeAt_ok hs) (by rw [freeAt_len]; exact hr), fr_free hs hr, freeAt_stand]
theorem s2_false {p : PV} {k : Nat} {s : Pl} (hs : PlOk s) {r : Int} (hr : 0 ≤ r ∧ r < s.free.length) : fr (s2P p k s) r = false ↔ fr s r = false ∧ ¬ (due p (dueA p k) = k ∧ stand s (dueA p k) = r) ∧ ¬ (due p (dueB p k) = k ∧ stand s (dueB p k) = r) := by
  rw [s2_fr hs hr, Bool.or_eq_false_iff, Bool.or_eq_false_iff, decide_eq_false_iff_not, decide_eq_false_iff_not, and_assoc]
/-- who is left when those asked for the last time have gone -/
theorem left {p : PV} (hR : rightP p = true) {k : Nat} (hk : k < p.code.length) (hn : nAt p k = true) {s : Pl} (h : Occ p k s) :
    (∀ v, Alive p k v → due p v ≠ k → fr (s2P p k s) (stand s v) = false) ∧ (∀ r : Int, 0 ≤ r ∧ r < s.free.length → fr (s2P p k s) r = false → ∃ v, Alive p k v ∧ due p v ≠ k ∧ stand s v = r) := by
  obtain ⟨hA, hB⟩ := alive_due hR hk hn
  refine ⟨fun v hv hd => ?_, fun r hr hf => ?_⟩
  · rw [s2_false h.ok (h.ok.ab v)]
    refine ⟨h.i1 v hv, fun e => ?_, fun e => ?_⟩
    · have := h.i2 _ _ hA hv e.2; rw [this] at e; exact hd e.1
    · have := h.i2 _ _ hB hv e.2; rw [this] at e; exact hd e.1
  · rw [s2_false h.ok hr] at hf
    obtain ⟨v, hv, e⟩ := h.i3 r hr hf.1
    refine ⟨v, hv, fun hd => ?_, e⟩
    rcases last_due hR hk hv hd with h1 | h1
    · rw [h1] at hd e; exact hf.2.1 ⟨hd, e⟩
    · rw [h1] at hd e; exact hf.2.2 ⟨hd, e⟩
theorem occ_yes {p : PV} (hR : rightP p = true) {k : Nat} (hk : k < p.code.length) (hn : nAt p k = true) {s : Pl} (h : Occ p k s) : Occ p (k + 1) (giveP (s2P p k s) (vlen p k)) := by
  obtain ⟨l1, l2⟩ := left hR hk hn h
  have hok2 : PlOk (s2P p k s) := freeAt_ok (freeAt_ok h.ok)
  have hlen := give_len (s2P p k s) (vlen p k)
  have hle := least_le (s2P p k s).free
  have h2l := s2_len p k s
  have hst : ∀ w, stand (giveP (s2P p k s) (vlen p k)) w = if w = vlen p k then (least (s2P p k s).free : Int) else stand s w := fun w => by rw [give_stand, s2_stand]
  have hold : ∀ v, Alive p k v → v ≠ vlen p k := fun v hv e => by have := hv.1.2; omega
  have hne : ∀ v, Alive p k v → due p v ≠ k → stand s v ≠ least (s2P p k s).free := fun v hv hd e => by
    have h1 := l1 v hv hd
    have h3 := h.ok.ab v
    by_cases hlt : least (s2P p k s).free < (s2P p k s).free.length
    · have := least_free hlt
      unfold fr at h1
      rw [e, Int.toNat_natCast, this] at h1; cases h1
    · omega
  have hgl : ∀ r : Int, r < (s2P p k s).free.length → r < (giveP (s2P p k s) (vlen p k)).free.length := fun r hr => by rw [hlen]; split <;> omega
  have hrr : (least (s2P p k s).free : Int) < (giveP (s2P p k s) (vlen p k)).free.length := by rw [hlen]; split <;> omega
  refine ⟨give_ok hok2 _, fun v hv => ?_, fun v w hv hw e => ?_, fun r hr hf => ?_, ?_⟩
  · rw [hst]
    rcases (alive_yes hR hk hn).1 hv with e | ⟨ha, hd⟩
    · rw [if_pos e, fr_give ⟨by omega, hrr⟩, if_pos rfl]
    · rw [if_neg (hold v ha)]
      have h3 := h.ok.ab v
      rw [fr_give ⟨h3.1, hgl _ (by omega)⟩, if_neg (hne v ha hd)]
      exact l1 v ha hd
  · rw [hst, hst] at e
    rcases (alive_yes hR hk hn).1 hv with ev | ⟨ha, hd⟩ <;> rcases (alive_yes hR hk hn).1 hw with ew | ⟨ha', hd'⟩
    · rw [ev, ew]
    · rw [if_pos ev, if_neg (hold w ha')] at e; exact absurd e.symm (hne w ha' hd')
    · rw [if_neg (hold v ha), if_pos ew] at e; exact absurd e (hne v ha hd)
    · rw [if_neg (hold v ha), if_neg (hold w ha')] at e; exact h.i2 v w ha ha' e
  · by_cases e : r = least (s2P p k s).free
    · exact ⟨vlen p k, (alive_yes hR hk hn).2 (.inl rfl), by rw [hst, if_pos rfl, e]⟩
    · rw [fr_give hr, if_neg e] at hf
      have hr2 : r < s.free.length := by rw [hlen] at hr; split at hr <;> omega
      obtain ⟨v, ha, hd, hs⟩ := l2 r ⟨hr.1, hr2⟩ hf
      exact ⟨v, (alive_yes hR hk hn).2 (.inr ⟨ha, hd⟩), by rw [hst, if_neg (hold v ha)]; exact hs⟩
  · rw [hlen]
    split
    · rw [h2l]; exact h.i5
    · rename_i hlt
      obtain ⟨f1, f2, f3, _⟩ := right_facts hR
      have hto := (may_facts (code_may hR hk)).2.1
      have key : ∀ r : Nat, r < s.free.length → ∃ q : Nat, q < p.regs.toNat ∧ ∃ v, stand s v = r ∧ heldAt p (k + 1) q = v ∧ v < vlen p k := fun r hr => by
        have hf : fr (s2P p k s) (r : Int) = false := by unfold fr; rw [Int.toNat_natCast]; exact none_free hlt r (by omega)
        obtain ⟨v, ha, hd, hs⟩ := l2 r (by omega) hf
        have ha2 := (alive_yes hR hk hn).2 (.inr ⟨ha, hd⟩)
        obtain ⟨q, hq, e⟩ := due_stands hR (show k + 1 ≤ p.code.length by omega) ha2.1 ha2.2
        exact ⟨q.toNat, by omega, v, hs, by rw [Int.toNat_of_nonneg hq.1]; exact e, ha.1.2⟩
      have hm := pigeon p.regs.toNat (fun r => if hr : r < s.free.length then Classical.choose (key r hr) else (cAt p k).to.toNat) (s.free.length + 1) (fun i hi => by
        show (if hr : i < s.free.length then _ else _) < _
        split
        · rename_i hr; exact (Classical.choose_spec (key i hr)).1
        · omega) (fun i j hi hj e => by
        have e : (if hr : i < s.free.length then Classical.choose (key i hr) else (cAt p k).to.toNat) = (if hr : j < s.free.length then Classical.choose (key j hr) else (cAt p k).to.toNat) := e
        have hnew : heldAt p (k + 1) (((cAt p k).to.toNat : Nat) : Int) = vlen p k := by rw [Int.toNat_of_nonneg hto.1, held_yes hR hk hn hto, if_pos rfl]
        split at e <;> split at e
        · rename_i h1 h3
          obtain ⟨_, v, a1, a2, a3⟩ := Classical.choose_spec (key i h1)
          obtain ⟨_, w, b1, b2, b3⟩ := Classical.choose_spec (key j h3)
          rw [e, b2] at a2
          rw [← a2, b1] at a1
          omega
        · rename_i h1 h3
          obtain ⟨_, v, a1, a2, a3⟩ := Classical.choose_spec (key i h1)
          rw [e, hnew] at a2
          omega
        · rename_i h1 h3
          obtain ⟨_, w, b1, b2, b3⟩ := Classical.choose_spec (key j h3)
          rw [← e, hnew] at b2
          omega
        · omega)
      rw [h2l]; omega
end Go.Proofs.Ytfleehgbpgmcnaa
set_option linter.unusedVariables false
namespace Go.Proofs.Ytfleehgbpgmcnaa
open Go Go.Sl
theorem held_zero {p : PV} {r : Int} (hr : 0 ≤ r ∧ r < p.regs) : heldAt p 0 r = min r p.ins := by
  unfold heldAt
  show ((List.range p.regs.toNat).map fun (r : Nat) => min (r : Int) p.ins)[r.toNat]?.getD default = _
  rw [List.getElem?_map, List.getElem?_range (by omega)]
  show min ((r.toNat : Nat) : Int) p.ins = _
  rw [Int.toNat_of_nonneg hr.1]
theorem vlen_zero (p : PV) : vlen p 0 = p.ins.toNat + 1 := List.length_replicate
theorem lay_said {l : Life} {s : Pl} {n : Nat} (hl : s.free.length = n) (h : ∀ v : Int, 0 ≤ v ∧ v < n → stand s v = v ∧ fr s v = decide (tl l v < 0)) (v : Int) (hv : 0 ≤ v ∧ v < n + 1) :
    stand (layP s n (l.till[((n : Nat) : Int).toNat]?.getD default)) v = v ∧ fr (layP s n (l.till[((n : Nat) : Int).toNat]?.getD default)) v = decide (tl l v < 0) := by
  have h1 : stand (layP s n (l.till[((n : Nat) : Int).toNat]?.getD default)) v = if v = n then (s.free.length : Int) else stand s v := stand_put s _ v _ _
  rw [h1]
  by_cases e : v = n
  · subst e
    rw [if_pos rfl]
    refine ⟨by omega, ?_⟩
    unfold fr
    show (s.free ++ [_])[((n : Nat) : Int).toNat]?.getD default = _
    rw [Int.toNat_natCast, List.getElem?_append_right (by omega), hl, Nat.sub_self]
    rfl
  · rw [if_neg e]
    obtain ⟨h2, h3⟩ := h v (by omega)
    refine ⟨h2, ?_⟩
    rw [← h3]
    unfold fr
    show (s.free ++ [_])[v.toNat]?.getD default = _
    rw [List.getElem?_append_left (by omega)]
theorem layTo_said (l : Life) : ∀ (n : Nat) (v : Int), 0 ≤ v ∧ v < n → stand (layTo l n) v = v ∧ fr (layTo l n) v = decide (tl l v < 0)
  | 0, v, h => by omega
  | n + 1, v, h => lay_said (layTo_len l n) (layTo_said l n) v (by omega)
theorem lay0_said {p : PV} (h1 : 1 ≤ p.ins) : (((lay0 p (lifeP p)).free.length : Int) = p.ins ∨ (((lay0 p (lifeP p)).free.length : Int) = p.ins + 1 ∧ 0 ≤ due p p.ins)) ∧ (0 ≤ due p p.ins → ((lay0 p (lifeP p)).free.length : Int) = p.ins + 1) ∧
    ∀ v : Int, 0 ≤ v ∧ v < (lay0 p (lifeP p)).free.length → stand (lay0 p (lifeP p)) v = v ∧ fr (lay0 p (lifeP p)) v = decide (due p v < 0) := by
  have hl := layTo_len (lifeP p) p.ins.toNat
  have hs := layTo_said (lifeP p) p.ins.toNat
  unfold lay0
  by_cases hd : 0 ≤ (lifeP p).till[p.ins.toNat]?.getD default
  · rw [if_pos hd]
    have hl2 : (layP (layTo (lifeP p) p.ins.toNat) p.ins ((lifeP p).till[p.ins.toNat]?.getD default)).free.length = p.ins.toNat + 1 := by
      show ((layTo (lifeP p) p.ins.toNat).free ++ [_]).length = _
      rw [List.length_append, hl]; rfl
    rw [hl2]
    refine ⟨.inr ⟨by omega, hd⟩, fun _ => by omega, fun v hv => ?_⟩
    have := lay_said hl hs v (by omega)
    rw [Int.toNat_natCast, Int.toNat_of_nonneg (by omega : 0 ≤ p.ins)] at this
    exact this
  · rw [if_neg hd, hl]
    refine ⟨.inl (by omega), fun h => absurd h hd, fun v hv => hs v (by omega)⟩
theorem occ_zero {p : PV} (hR : rightP p = true) : Occ p 0 (lay0 p (lifeP p)) := by
  obtain ⟨f1, f2, f3, _⟩ := right_facts hR
  obtain ⟨g1, g2, g3⟩ := lay0_said f1
  have hz := vlen_zero p
  have hin : ∀ v, Alive p 0 v → 0 ≤ v ∧ v < (lay0 p (lifeP p)).free.length := fun v hv => by
    have h1 := hv.1
    have h2 := hv.2
    by_cases e : v = p.ins
    · subst e; have := g2 h2; omega
    · rcases g1 with g1 | g1 <;> omega
  refine ⟨(lay0_ok f1 _).1, fun v hv => ?_, fun v w hv hw e => ?_, fun r hr hf => ?_, ?_⟩
  · rw [(g3 v (hin v hv)).1, (g3 v (hin v hv)).2]
    have := hv.2
    exact decide_eq_false (by omega)
  · rw [(g3 v (hin v hv)).1, (g3 w (hin w hw)).1] at e; exact e
  · have h1 := (g3 r hr).2
    rw [hf] at h1
    have h2 := of_decide_eq_false h1.symm
    exact ⟨r, ⟨⟨hr.1, by rcases g1 with g1 | g1 <;> omega⟩, by omega⟩, (g3 r hr).1⟩
  · rcases g1 with g1 | ⟨g1, g4⟩
    · omega
    · obtain ⟨r, hr, e⟩ := due_stands hR (Nat.zero_le _) (v := p.ins) (by omega) g4
      rw [held_zero hr] at e
      omega
theorem pk_yes {p : PV} (hR : rightP p = true) {k : Nat} (hk : k < p.code.length) (hn : nAt p k = true) :
    pkTo p (k + 1) = ⟨giveP (s2P p k (pkTo p k).s) (vlen p k), max (pkTo p k).regs ((least (s2P p k (pkTo p k).s).free : Int) + 1),
      (pkTo p k).code ++ [⟨(cAt p k).op, least (s2P p k (pkTo p k).s).free, stand (pkTo p k).s (dueA p k), if 1 < (asks (cAt p k)).length then stand (pkTo p k).s (dueB p k) else (cAt p k).b, (cAt p k).c⟩]⟩ := by
  obtain ⟨h1, h2, h3⟩ := life_abs hR hk hn
  have e : pkTo p (k + 1) = pkStep (lifeP p) (pkTo p k) k (cAt p k) := if_pos hn
  rw [e]
  unfold pkStep
  simp only
  rw [h1, h2, h3]
  rfl
theorem pk_no {p : PV} {k : Nat} (hn : ¬ nAt p k = true) : pkTo p (k + 1) = pkTo p k := if_neg hn
theorem pk_occ {p : PV} (hR : rightP p = true) : ∀ k, k ≤ p.code.length → Occ p k (pkTo p k).s ∧ (pkTo p k).regs = (pkTo p k).s.free.length
  | 0, _ => by
    refine ⟨occ_zero hR, ?_⟩
    have := (lay0_ok (right_facts hR).1 (lifeP p)).2.1
    show max p.ins ((lay0 p (lifeP p)).free.length : Int) = ((lay0 p (lifeP p)).free.length : Int)
    omega
  | k + 1, hk => by
    obtain ⟨h1, h2⟩ := pk_occ hR k (by omega)
    by_cases hn : nAt p k = true
    · rw [pk_yes hR (by omega) hn]
      refine ⟨occ_yes hR (by omega) hn h1, ?_⟩
      show max (pkTo p k).regs ((least (s2P p k (pkTo p k).s).free : Int) + 1) = ((giveP (s2P p k (pkTo p k).s) (vlen p k)).free.length : Int)
      have hle := least_le (s2P p k (pkTo p k).s).free
      have hl := s2_len p k (pkTo p k).s
      rw [give_len, h2]
      split <;> omega
    · rw [pk_no hn]
      refine ⟨⟨h1.ok, fun v hv => h1.i1 v ((alive_no hR (by omega) hn).1 hv), fun v w hv hw => h1.i2 v w ((alive_no hR (by omega) hn).1 hv) ((alive_no hR (by omega) hn).1 hw), fun r hr hf => ?_, h1.i5⟩, h2⟩
      obtain ⟨v, hv, e⟩ := h1.i3 r hr hf
      exact ⟨v, (alive_no hR (by omega) hn).2 hv, e⟩
theorem pk_grow {p : PV} (hR : rightP p = true) {k : Nat} : ∀ j, k ≤ j → j ≤ p.code.length → (pkTo p k).s.free.length ≤ (pkTo p j).s.free.length
  | 0, h, _ => by rw [Nat.le_zero.1 h]; exact Nat.le_refl _
  | j + 1, h, hj => by
    by_cases e : k = j + 1
    · rw [e]; exact Nat.le_refl _
    · have ih := pk_grow hR j (by omega : k ≤ j) (by omega)
      by_cases hn : nAt p j = true
      · rw [pk_yes hR (by omega) hn]
        show _ ≤ (giveP (s2P p j (pkTo p j).s) (vlen p j)).free.length
        rw [give_len, s2_len]
        split <;> omega
      · rw [pk_no hn]; exact ih
theorem may_mono {i : Sl.Instr} {r r' : Int} (h : mayOk i r = true) (hr : r ≤ r') : mayOk i r' = true := by
  rw [mayOk_iff] at h ⊢
  obtain ⟨⟨h1, h2, h3, h4, h5, h6⟩, h7⟩ := h
  refine ⟨⟨h1, h2, h3, by omega, h5, by omega⟩, ?_⟩
  by_cases h34 : i.op = 3 ∨ i.op = 4
  · rw [if_pos h34] at h7 ⊢; exact ⟨h7.1, by omega, h7.2.2⟩
  · rw [if_neg h34] at h7 ⊢; exact h7
/-- an instruction turned to other registers -/
theorem may_turn {i : Sl.Instr} {regs R : Int} (h : mayOk i regs = true) {t a b : Int} (ht : 0 ≤ t ∧ t < R) (ha : 0 ≤ a ∧ a < R) (hb : 0 ≤ b ∧ b < R) :
    mayOk ⟨i.op, t, a, if 1 < (asks i).length then b else i.b, i.c⟩ R = true := by
  rw [mayOk_iff] at h ⊢
  obtain ⟨⟨h1, h2, h3, h4, h5, h6⟩, h7⟩ := h
  refine ⟨⟨h1, h2, ht.1, ht.2, ha.1, ha.2⟩, ?_⟩
  by_cases h34 : i.op = 3 ∨ i.op = 4
  · rw [if_pos h34] at h7
    rw [if_pos ((two_iff i).2 h34)]
    exact (if_pos h34).symm ▸ ⟨hb.1, hb.2, h7.2.2⟩
  · rw [if_neg h34] at h7
    rw [if_neg (fun e => h34 ((two_iff i).1 e))]
    exact (if_neg h34).symm ▸ h7
theorem pk_code {p : PV} (hR : rightP p = true) : ∀ k, k ≤ p.code.length → (∀ i ∈ (pkTo p k).code, mayOk i (pkTo p k).regs = true) ∧ (pkTo p k).code.length ≤ k
  | 0, _ => ⟨fun i hi => absurd hi (List.not_mem_nil), Nat.le_refl _⟩
  | k + 1, hk => by
    obtain ⟨h1, h2⟩ := pk_code hR k (by omega)
    obtain ⟨o1, o2⟩ := pk_occ hR k (by omega)
    obtain ⟨p1, p2⟩ := pk_occ hR (k + 1) hk
    have hg := pk_grow hR (k + 1) (show k ≤ k + 1 by omega) hk
    have hle := least_le (s2P p k (pkTo p k).s).free
    have h2l := s2_len p k (pkTo p k).s
    by_cases hn : nAt p k = true
    · have hm := code_may hR (show k < p.code.length by omega)
      have hA := o1.ok.ab (dueA p k)
      have hB := o1.ok.ab (dueB p k)
      have hreg : (pkTo p (k + 1)).regs = max (pkTo p k).regs ((least (s2P p k (pkTo p k).s).free : Int) + 1) := by rw [pk_yes hR (by omega) hn]
      have hcode : (pkTo p (k + 1)).code = (pkTo p k).code ++ [⟨(cAt p k).op, least (s2P p k (pkTo p k).s).free, stand (pkTo p k).s (dueA p k), if 1 < (asks (cAt p k)).length then stand (pkTo p k).s (dueB p k) else (cAt p k).b, (cAt p k).c⟩] := by rw [pk_yes hR (by omega) hn]
      rw [hcode]
      refine ⟨fun i hi => ?_, by rw [List.length_append]; show _ + 1 ≤ _; omega⟩
      rcases List.mem_append.1 hi with h | h
      · exact may_mono (h1 i h) (by omega)
      · rw [List.mem_singleton.1 h]
        exact may_turn hm (by omega) (by omega) (by omega)
    · rw [pk_no hn]; exact ⟨h1, by omega⟩
theorem order_right {p : PV} (hR : rightP p = true) : rightP (orderP p) = true := by
  obtain ⟨f1, f2, f3, f4, f5, f6, f7, f8⟩ := right_facts hR
  obtain ⟨o1, o2⟩ := pk_occ hR p.code.length (Nat.le_refl _)
  obtain ⟨c1, c2⟩ := pk_code hR p.code.length (Nat.le_refl _)
  have hg := pk_grow hR p.code.length (Nat.zero_le _) (Nat.le_refl _)
  have h0 := (lay0_ok f1 (lifeP p)).2.1
  have h0' : p.ins ≤ (pkTo p 0).s.free.length := h0
  have h5 := o1.i5
  have hol := lifeP_outs p
  have hlen : (orderP p).outs.length = p.outs.length := by show ((lifeP p).outs.map _).length = _; rw [List.length_map]; exact hol
  refine right_of ⟨f1, ?_, ?_, ?_, by omega, by omega⟩ ?_ c1
  · show p.ins ≤ (pkTo p p.code.length).regs; omega
  · show (pkTo p p.code.length).regs ≤ 128; omega
  · show (pkTo p p.code.length).code.length ≤ _; omega
  · intro r hr
    obtain ⟨v, _, rfl⟩ := List.mem_map.1 (show r ∈ (lifeP p).outs.map _ from hr)
    have := o1.ok.ab v
    show _ ∧ _ < (pkTo p p.code.length).regs
    omega
end Go.Proofs.Ytfleehgbpgmcnaa
set_option linter.unusedVariables false
namespace Go.Proofs.Ytfleehgbpgmcnaa
open Go Go.Sl
def rowAt (rs : List (List Int)) (r : Int) : List Int := rs[r.toNat]?.getD []
structure Sem (p : PV) (gs : List (List Int)) (k : Nat) (rs qs : List (List Int)) (E : Int → List Int) : Prop where
  run : runTo p gs k = some rs
  pack : runL (pkTo p k).code (regs0 (orderP p) gs) = some qs
  rl : (rs.length : Int) = p.regs
  ql : (qs.length : Int) = (orderP p).regs
  old : ∀ r : Int, 0 ≤ r ∧ r < p.regs → fromAt p r k = true → rowAt rs r = E (heldAt p k r)
  new : ∀ v, Alive p k v → rowAt qs (stand (pkTo p k).s v) = E v
theorem out_values (p : PV) : ∀ j, j ≤ p.outs.length → (outTo p j).outs = (p.outs.take j).map (heldAt p p.code.length)
  | 0, _ => by rw [List.take_zero]; exact lifeTo_outs p _
  | j + 1, hj => by
    show (outTo p j).outs ++ [(outTo p j).held[_]?.getD default] = _
    rw [out_values p j (by omega), outTo_held', List.take_succ_eq_append_getElem (by omega : j < p.outs.length), List.map_append, Int.toNat_natCast, List.getElem?_eq_getElem (by omega : j < p.outs.length)]
    rfl
end Go.Proofs.Ytfleehgbpgmcnaa
set_option linter.unusedVariables false
namespace Go.Proofs.Ytfleehgbpgmcnaa
open Go Go.Sl
theorem out_who {p : PV} (hR : rightP p = true) {v : Int} (hv : 0 ≤ v ∧ v < vlen p p.code.length) : ∀ (j : Nat), j ≤ p.outs.length → tl (outTo p j) v = tl (lifeTo p p.code.length) v ∨ (tl (outTo p j) v = p.code.length ∧ ∃ i : Nat, i < j ∧ heldAt p p.code.length (p.outs[((i : Nat) : Int).toNat]?.getD default) = v)
  | 0, _ => .inl rfl
  | j + 1, hj => by
    have hr := out_may hR (show j < p.outs.length by omega)
    have hh : (outTo p j).held[(p.outs[((j : Nat) : Int).toNat]?.getD default).toNat]?.getD default = heldAt p p.code.length (p.outs[((j : Nat) : Int).toNat]?.getD default) := by unfold heldAt; rw [outTo_held']
    have hin := held_in hR (Nat.le_refl _) hr
    have e : tl (outTo p (j + 1)) v = if heldAt p p.code.length (p.outs[((j : Nat) : Int).toNat]?.getD default) = v then (p.code.length : Int) else tl (outTo p j) v := by
      unfold tl
      show ((outTo p j).till.set _ _)[v.toNat]?.getD default = _
      rw [hh, ints_get_set (by rw [out_len]; exact hv), Int.toNat_of_nonneg hin.1]
    by_cases hd : heldAt p p.code.length (p.outs[((j : Nat) : Int).toNat]?.getD default) = v
    · rw [if_pos hd] at e
      exact .inr ⟨e, j, by omega, hd⟩
    · rw [if_neg hd] at e
      rw [e]
      rcases out_who hR hv j (by omega) with h | ⟨h, i, hi, hiv⟩
      · exact .inl h
      · exact .inr ⟨h, i, by omega, hiv⟩
/-- B3, by the answers -/
theorem due_who' {p : PV} (hR : rightP p = true) {v : Int} (hv : 0 ≤ v ∧ v < vlen p p.code.length) : due p v = -1 ∨ (∃ t : Nat, t < p.code.length ∧ due p v = t ∧ Asked p t v) ∨ (due p v = p.code.length ∧ ∃ i : Nat, i < p.outs.length ∧ heldAt p p.code.length (p.outs[((i : Nat) : Int).toNat]?.getD default) = v) := by
  unfold due lifeP
  rcases out_who hR hv p.outs.length (Nat.le_refl _) with h2 | ⟨h2, i, hi, e⟩
  · rw [h2]
    rcases tl_said hR p.code.length (Nat.le_refl _) v hv with h | h
    · exact .inl h
    · exact .inr (.inl h)
  · exact .inr (.inr ⟨h2, i, hi, e⟩)
/-- how many needed instructions stand ahead -/
def cnt (p : PV) (k : Nat) : Nat := (pkTo p k).code.length
/-- a needed instruction, its registers given anew -/
def turned (p : PV) (k : Nat) : Sl.Instr := ⟨(cAt p k).op, least (s2P p k (pkTo p k).s).free, stand (pkTo p k).s (dueA p k), if 1 < (asks (cAt p k)).length then stand (pkTo p k).s (dueB p k) else (cAt p k).b, (cAt p k).c⟩
theorem pk_turned {p : PV} (hR : rightP p = true) {k : Nat} (hk : k < p.code.length) (hn : nAt p k = true) :
    pkTo p (k + 1) = ⟨giveP (s2P p k (pkTo p k).s) (vlen p k), max (pkTo p k).regs ((least (s2P p k (pkTo p k).s).free : Int) + 1), (pkTo p k).code ++ [turned p k]⟩ := pk_yes hR hk hn
theorem cnt_yes {p : PV} (hR : rightP p = true) {k : Nat} (hk : k < p.code.length) (hn : nAt p k = true) : cnt p (k + 1) = cnt p k + 1 := by
  unfold cnt; rw [pk_turned hR hk hn]; show ((pkTo p k).code ++ [_]).length = _; rw [List.length_append]; rfl
theorem cnt_no {p : PV} {k : Nat} (hn : ¬ nAt p k = true) : cnt p (k + 1) = cnt p k := by unfold cnt; rw [pk_no hn]
theorem cnt_end (p : PV) : cnt p p.code.length = (orderP p).code.length := rfl
theorem code_keep {p : PV} (hR : rightP p = true) {i k : Nat} (hi : i < cnt p k) : ∀ j, k ≤ j → j ≤ p.code.length → i < cnt p j ∧ (pkTo p j).code[i]? = (pkTo p k).code[i]?
  | 0, h, _ => by have := Nat.le_zero.1 h; subst this; exact ⟨hi, rfl⟩
  | j + 1, h, hj => by
    by_cases e : k = j + 1
    · subst e; exact ⟨hi, rfl⟩
    · obtain ⟨h1, h2⟩ := code_keep hR hi j (by omega) (by omega)
      by_cases hn : nAt p j = true
      · refine ⟨by rw [cnt_yes hR (by omega) hn]; omega, ?_⟩
        rw [pk_turned hR (by omega) hn]
        show ((pkTo p j).code ++ [_])[i]? = _
        rw [List.getElem?_append_left h1, h2]
      · rw [pk_no hn]; exact ⟨by rw [cnt_no hn]; exact h1, h2⟩
theorem cnt_lt {p : PV} (hR : rightP p = true) {k : Nat} (hk : k < p.code.length) (hn : nAt p k = true) : cnt p k < (orderP p).code.length := by
  have := (code_keep hR (i := cnt p k) (k := k + 1) (by rw [cnt_yes hR hk hn]; omega) p.code.length (by omega) (Nat.le_refl _)).1
  exact this
theorem code_turned {p : PV} (hR : rightP p = true) {k : Nat} (hk : k < p.code.length) (hn : nAt p k = true) : cAt (orderP p) (cnt p k) = turned p k := by
  have h1 := (code_keep hR (i := cnt p k) (k := k + 1) (by rw [cnt_yes hR hk hn]; omega) p.code.length (by omega) (Nat.le_refl _)).2
  have h2 : (pkTo p (k + 1)).code[cnt p k]? = some (turned p k) := by
    rw [pk_turned hR hk hn]
    show ((pkTo p k).code ++ [_])[(pkTo p k).code.length]? = _
    rw [List.getElem?_append_right (Nat.le_refl _), Nat.sub_self]; rfl
  unfold cAt
  rw [Int.toNat_natCast]
  show (pkTo p p.code.length).code[cnt p k]?.getD default = _
  rw [h1, h2]; rfl
/-- whose instruction the i-th is -/
theorem cnt_who {p : PV} (hR : rightP p = true) {i : Nat} : ∀ (k : Nat), k ≤ p.code.length → i < cnt p k → ∃ t, t < k ∧ nAt p t = true ∧ cnt p t = i
  | 0, _, h => absurd h (Nat.not_lt_zero _)
  | k + 1, hk, h => by
    by_cases hn : nAt p k = true
    · rw [cnt_yes hR (by omega) hn] at h
      by_cases e : i = cnt p k
      · exact ⟨k, by omega, hn, e.symm⟩
      · obtain ⟨t, h1, h2, h3⟩ := cnt_who hR (i := i) k (by omega) (by omega)
        exact ⟨t, by omega, h2, h3⟩
    · rw [cnt_no hn] at h
      obtain ⟨t, h1, h2, h3⟩ := cnt_who hR (i := i) k (by omega) h
      exact ⟨t, by omega, h2, h3⟩
theorem cnt_mono {p : PV} (hR : rightP p = true) {k : Nat} : ∀ j, k ≤ j → j ≤ p.code.length → cnt p k ≤ cnt p j
  | 0, h, _ => by rw [Nat.le_zero.1 h]; exact Nat.le_refl _
  | j + 1, h, hj => by
    by_cases e : k = j + 1
    · rw [e]; exact Nat.le_refl _
    · have := cnt_mono hR j (show k ≤ j by omega) (by omega)
      by_cases hn : nAt p j = true
      · rw [cnt_yes hR (by omega) hn]; omega
      · rw [cnt_no hn]; exact this
theorem vlen_cnt {p : PV} (hR : rightP p = true) : ∀ k, k ≤ p.code.length → vlen p k = p.ins.toNat + 1 + cnt p k
  | 0, _ => vlen_zero p
  | k + 1, hk => by
    have ih := vlen_cnt hR k (by omega)
    by_cases hn : nAt p k = true
    · rw [vlen_yes hn, cnt_yes hR (by omega) hn]; omega
    · rw [vlen_no hn, cnt_no hn]; exact ih
theorem stand_yes {p : PV} (hR : rightP p = true) {k : Nat} (hk : k < p.code.length) (hn : nAt p k = true) (w : Int) : stand (pkTo p (k + 1)).s w = if w = vlen p k then (least (s2P p k (pkTo p k).s).free : Int) else stand (pkTo p k).s w := by
  rw [pk_turned hR hk hn]
  show stand (giveP _ _) w = _
  rw [give_stand, s2_stand]
theorem stand_in {p : PV} (hR : rightP p = true) {k : Nat} (hk : k ≤ p.code.length) (v : Int) : 0 ≤ stand (pkTo p k).s v ∧ stand (pkTo p k).s v < (orderP p).regs := by
  have h1 := (pk_occ hR k hk).1.ok.ab v
  have h2 := pk_grow hR p.code.length hk (Nat.le_refl _)
  have h3 := (pk_occ hR p.code.length (Nat.le_refl _)).2
  have h4 : (orderP p).regs = (pkTo p p.code.length).regs := rfl
  omega
/-- behind an instruction those who stay stand elsewhere than the new one -/
theorem stand_apart {p : PV} (hR : rightP p = true) {k : Nat} (hk : k < p.code.length) (hn : nAt p k = true) {v : Int} (ha : Alive p k v) (hd : due p v ≠ k) : stand (pkTo p (k + 1)).s v = stand (pkTo p k).s v ∧ ¬ ((least (s2P p k (pkTo p k).s).free : Int) = stand (pkTo p k).s v) := by
  have hne : v ≠ vlen p k := fun e => by have := ha.1.2; omega
  have h1 := stand_yes hR hk hn v
  rw [if_neg hne] at h1
  refine ⟨h1, fun e => ?_⟩
  have h2 := stand_yes hR hk hn (vlen p k)
  rw [if_pos rfl] at h2
  exact hne ((pk_occ hR (k + 1) (by omega)).1.i2 _ _ ((alive_yes hR hk hn).2 (.inr ⟨ha, hd⟩)) ((alive_yes hR hk hn).2 (.inl rfl)) (by rw [h1, h2]; exact e.symm))
theorem asks_turned {p : PV} {k : Nat} {r : Int} (hm : 1 ≤ (cAt p k).op ∧ (cAt p k).op ≤ 8) : r ∈ asks (turned p k) ↔ r = stand (pkTo p k).s (dueA p k) ∨ (1 < (asks (cAt p k)).length ∧ r = stand (pkTo p k).s (dueB p k)) := by
  by_cases h34 : (cAt p k).op = 3 ∨ (cAt p k).op = 4
  · have h2 := (two_iff (cAt p k)).2 h34
    have e : asks (turned p k) = [stand (pkTo p k).s (dueA p k), stand (pkTo p k).s (dueB p k)] := by
      unfold asks turned
      rw [if_pos h34, if_pos h2]
    rw [e]
    simp [h2]
  · have h2 : ¬ 1 < (asks (cAt p k)).length := fun e => h34 ((two_iff _).1 e)
    have e : asks (turned p k) = [stand (pkTo p k).s (dueA p k)] := by
      unfold asks turned
      rw [if_neg h34, if_pos hm]
    rw [e]
    simp [h2]
/-- what is alive is asked in the packed program, too -/
theorem from_alive {p : PV} (hR : rightP p = true) : ∀ (d k : Nat), k + d = p.code.length → ∀ v, Alive p k v → fromAt (orderP p) (stand (pkTo p k).s v) (cnt p k) = true
  | 0, k, hk, v, hv => by
    have e : k = p.code.length := by omega
    subst e
    have hd : due p v = p.code.length := by
      rcases due_who' hR hv.1 with h | ⟨t, ht, h, _⟩ | ⟨h, _⟩
      · have := hv.2; omega
      · have := hv.2; omega
      · exact h
    rcases due_who' hR hv.1 with h | ⟨t, ht, h, _⟩ | ⟨_, i, hi, e⟩
    · omega
    · omega
    · rw [fromAt_end _ _ (by rw [cnt_end]; exact Nat.le_refl _)]
      refine decide_eq_true ?_
      show _ ∈ (lifeP p).outs.map (stand (pkTo p p.code.length).s)
      refine List.mem_map.2 ⟨v, ?_, rfl⟩
      unfold lifeP
      rw [out_values p _ (Nat.le_refl _), List.take_length]
      refine List.mem_map.2 ⟨p.outs[i], List.getElem_mem hi, ?_⟩
      rw [Int.toNat_natCast, List.getElem?_eq_getElem hi] at e
      exact e
  | d + 1, k, hk, v, hv => by
    have hkn : k < p.code.length := by omega
    have hm := (may_facts (code_may hR hkn)).1
    by_cases hn : nAt p k = true
    · have hcl := cnt_lt hR hkn hn
      have ct : (orderP p).code[cnt p k]?.getD default = turned p k := by
        have := code_turned hR hkn hn
        unfold cAt at this
        rw [Int.toNat_natCast] at this
        exact this
      have hto : (turned p k).to = (least (s2P p k (pkTo p k).s).free : Int) := rfl
      have hnew := from_alive hR d (k + 1) (by omega) (vlen p k) ((alive_yes hR hkn hn).2 (.inl rfl))
      rw [stand_yes hR hkn hn, if_pos rfl, cnt_yes hR hkn hn] at hnew
      rw [fromAt_step _ _ hcl, ct, hto]
      by_cases hd : due p v = k
      · rcases last_due hR hkn hv hd with e | e
        · rw [hnew, decide_eq_true ((asks_turned hm).2 (.inl (by rw [e])))]; rfl
        · by_cases h2 : 1 < (asks (cAt p k)).length
          · rw [hnew, decide_eq_true ((asks_turned hm).2 (.inr ⟨h2, by rw [e]⟩))]; rfl
          · have e2 : dueB p k = dueA p k := if_neg h2
            rw [hnew, decide_eq_true ((asks_turned hm).2 (.inl (by rw [e, e2])))]; rfl
      · obtain ⟨s1, s2⟩ := stand_apart hR hkn hn hv hd
        have ih := from_alive hR d (k + 1) (by omega) v ((alive_yes hR hkn hn).2 (.inr ⟨hv, hd⟩))
        rw [s1, cnt_yes hR hkn hn] at ih
        rw [ih, decide_eq_false s2]
        simp
    · have ih := from_alive hR d (k + 1) (by omega) v ((alive_no hR hkn hn).2 hv)
      rw [pk_no hn, cnt_no hn] at ih
      exact ih
/-- each instruction of what the pass makes is needed -/
theorem order_needed {p : PV} (hR : rightP p = true) {i : Nat} (hi : i < (orderP p).code.length) : nAt (orderP p) i = true := by
  obtain ⟨k, hk, hn, e⟩ := cnt_who hR p.code.length (Nat.le_refl _) (i := i) hi
  subst e
  rw [need_from (order_right hR) hi, code_turned hR hk hn]
  have := from_alive hR (p.code.length - (k + 1)) (k + 1) (by omega) (vlen p k) ((alive_yes hR hk hn).2 (.inl rfl))
  rw [stand_yes hR hk hn, if_pos rfl, cnt_yes hR hk hn] at this
  exact this
theorem vlen_order {p : PV} (hR : rightP p = true) {k : Nat} (hk : k ≤ p.code.length) : vlen (orderP p) (cnt p k) = vlen p k := by
  have h1 : ∀ i, i ≤ (orderP p).code.length → vlen (orderP p) i = p.ins.toNat + 1 + i := fun i => by
    induction i with
    | zero => intro _; exact vlen_zero (orderP p)
    | succ i ih => intro hi; rw [vlen_yes (order_needed hR (by omega)), ih (by omega)]; omega
  rw [h1 _ (by have := cnt_mono hR p.code.length hk (Nat.le_refl _); exact this), vlen_cnt hR k hk]
/-- in the packed program's registers stand the values that are alive -/
theorem held_order {p : PV} (hR : rightP p = true) : ∀ k, k ≤ p.code.length → ∀ v, Alive p k v → heldAt (orderP p) (cnt p k) (stand (pkTo p k).s v) = v
  | 0, _, v, hv => by
    obtain ⟨f1, f2, f3, _⟩ := right_facts hR
    obtain ⟨g1, g2, g3⟩ := lay0_said f1
    have hz := vlen_zero p
    have h1 := hv.1
    have h2 := hv.2
    have hvf : v < (lay0 p (lifeP p)).free.length := by
      by_cases e : v = p.ins
      · subst e; have := g2 h2; omega
      · rcases g1 with g1 | g1 <;> omega
    have h3 : stand (pkTo p 0).s v = v := (g3 v ⟨h1.1, hvf⟩).1
    have h4 := stand_in hR (Nat.zero_le _) v
    rw [h3] at h4
    rw [h3]
    show heldAt (orderP p) 0 v = v
    rw [held_zero h4]
    show min v p.ins = v
    omega
  | k + 1, hk, v, hv => by
    by_cases hn : nAt p k = true
    · have hkn : k < p.code.length := by omega
      have hcl := cnt_lt hR hkn hn
      have hq := order_needed hR hcl
      rw [cnt_yes hR hkn hn, held_yes (order_right hR) hcl hq (stand_in hR hk v), code_turned hR hkn hn, vlen_order hR (by omega)]
      show (if (least (s2P p k (pkTo p k).s).free : Int) = stand (pkTo p (k + 1)).s v then _ else _) = _
      rcases (alive_yes hR hkn hn).1 hv with e | ⟨ha, hd⟩
      · rw [stand_yes hR hkn hn, if_pos e, if_pos rfl, e]
      · obtain ⟨s1, s2⟩ := stand_apart hR hkn hn ha hd
        rw [s1, if_neg s2]
        exact held_order hR k (by omega) v ha
    · rw [pk_no hn, cnt_no hn]
      exact held_order hR k (by omega) v ((alive_no hR (by omega) hn).1 hv)
theorem due_order {p : PV} (hR : rightP p = true) {k : Nat} (hk : k < p.code.length) (hn : nAt p k = true) : dueA (orderP p) (cnt p k) = dueA p k ∧ dueB (orderP p) (cnt p k) = dueB p k := by
  obtain ⟨hA, hB⟩ := alive_due hR hk hn
  have hm := (may_facts (code_may hR hk)).1
  have ct := code_turned hR hk hn
  have eA : dueA (orderP p) (cnt p k) = dueA p k := by
    unfold dueA vA
    rw [ct]
    exact held_order hR k (by omega) _ hA
  refine ⟨eA, ?_⟩
  have two : 1 < (asks (turned p k)).length ↔ 1 < (asks (cAt p k)).length := by rw [two_iff, two_iff]; rfl
  by_cases h2 : 1 < (asks (cAt p k)).length
  · have : dueB (orderP p) (cnt p k) = heldAt (orderP p) (cnt p k) (turned p k).b := by
      unfold dueB vB
      rw [ct, if_pos (two.2 h2)]; rfl
    rw [this]
    show heldAt (orderP p) (cnt p k) (if 1 < (asks (cAt p k)).length then _ else _) = _
    rw [if_pos h2]
    exact held_order hR k (by omega) _ hB
  · have e1 : dueB (orderP p) (cnt p k) = dueA (orderP p) (cnt p k) := by
      unfold dueB vB dueA
      rw [ct, if_neg (fun e => h2 (two.1 e))]
    have e2 : dueB p k = dueA p k := if_neg h2
    rw [e1, e2]; exact eA
theorem outs_order {p : PV} (hR : rightP p = true) {i : Nat} (hi : i < p.outs.length) : heldAt (orderP p) (orderP p).code.length ((orderP p).outs[((i : Nat) : Int).toNat]?.getD default) = heldAt p p.code.length (p.outs[((i : Nat) : Int).toNat]?.getD default) := by
  have ho : (orderP p).outs[((i : Nat) : Int).toNat]?.getD default = stand (pkTo p p.code.length).s (heldAt p p.code.length (p.outs[((i : Nat) : Int).toNat]?.getD default)) := by
    show ((lifeP p).outs.map (stand (pkTo p p.code.length).s))[((i : Nat) : Int).toNat]?.getD default = _
    unfold lifeP
    rw [out_values p _ (Nat.le_refl _), List.take_length, List.map_map, List.getElem?_map, Int.toNat_natCast, List.getElem?_eq_getElem hi]
    rfl
  rw [ho, ← cnt_end]
  exact held_order hR _ (Nat.le_refl _) _ ⟨held_in hR (Nat.le_refl _) (out_may hR hi), by rw [due_out hR hi]; exact Int.le_refl _⟩
/-- alive there, alive here -/
theorem due_iff {p : PV} (hR : rightP p = true) {k : Nat} (hk : k ≤ p.code.length) {v : Int} (hv : 0 ≤ v ∧ v < vlen p k) : (cnt p k : Int) ≤ due (orderP p) v ↔ (k : Int) ≤ due p v := by
  have hRq := order_right hR
  constructor
  · intro h
    have hv2 : 0 ≤ v ∧ v < vlen (orderP p) (orderP p).code.length := ⟨hv.1, by have := vlen_mono p hk; rw [← cnt_end, vlen_order hR (Nat.le_refl _)]; omega⟩
    rcases due_who' hRq hv2 with h1 | ⟨t, ht, h1, h2⟩ | ⟨h1, i, hi, e⟩
    · omega
    · obtain ⟨k', hk', hn', e⟩ := cnt_who hR p.code.length (Nat.le_refl _) (i := t) ht
      subst e
      have hkk : k ≤ k' := by
        rcases Nat.lt_or_ge k' k with hlt | hge
        · have := cnt_mono hR k (show k' + 1 ≤ k by omega) hk
          rw [cnt_yes hR hk' hn'] at this
          omega
        · exact hge
      obtain ⟨d1, d2⟩ := due_order hR hk' hn'
      have := due_asked hR hk' (v := v) ⟨hn', by rcases h2.2 with e | e; · left; rw [e, d1]
                                                 · right; rw [e, d2]⟩
      omega
    · have hlen : (orderP p).outs.length = p.outs.length := by show ((lifeP p).outs.map _).length = _; rw [List.length_map]; exact lifeP_outs p
      rw [outs_order hR (by omega)] at e
      rw [← e, due_out hR (by omega)]
      omega
  · intro h
    have ha : Alive p k v := ⟨hv, h⟩
    have h1 := from_alive hR (p.code.length - k) k (by omega) v ha
    have h2 := from_due hRq (stand_in hR hk v) ((orderP p).code.length - cnt p k) (cnt p k) (by have := cnt_mono hR p.code.length hk (Nat.le_refl _); rw [cnt_end] at this; omega) h1
    rw [held_order hR k hk v ha] at h2
    exact h2
theorem due_eq {p : PV} (hR : rightP p = true) {k : Nat} (hk : k < p.code.length) (hn : nAt p k = true) {v : Int} (hv : 0 ≤ v ∧ v < vlen p k) : due (orderP p) v = cnt p k ↔ due p v = k := by
  have h1 := due_iff hR (show k ≤ p.code.length by omega) hv
  have h2 := due_iff hR (show k + 1 ≤ p.code.length by omega) (v := v) ⟨hv.1, by rw [vlen_yes hn]; omega⟩
  rw [cnt_yes hR hk hn] at h2
  omega
theorem free_same {l l' : Life} {k k' : Nat} {s : Pl} {v : Int} (h : l.till[v.toNat]?.getD default = (k : Int) ↔ l'.till[v.toNat]?.getD default = (k' : Int)) : freeAt l k s v = freeAt l' k' s v := by
  unfold freeAt
  by_cases e : l.till[v.toNat]?.getD default = (k : Int)
  · rw [if_pos e, if_pos (h.1 e)]
  · rw [if_neg e, if_neg (fun x => e (h.2 x))]
theorem layTo_same {l l' : Life} : ∀ n : Nat, (∀ v : Int, 0 ≤ v ∧ v < n → (tl l v < 0 ↔ tl l' v < 0)) → layTo l n = layTo l' n
  | 0, _ => rfl
  | n + 1, h => by
    show layP (layTo l n) n _ = layP (layTo l' n) n _
    rw [layTo_same n (fun v hv => h v (by omega))]
    unfold layP
    congr 3
    have := h n (by omega)
    unfold tl at this
    exact decide_eq_decide.2 this
theorem pk_again {p : PV} (hR : rightP p = true) : ∀ k, k ≤ p.code.length → pkTo (orderP p) (cnt p k) = pkTo p k
  | 0, _ => by
    obtain ⟨f1, f2, f3, _⟩ := right_facts hR
    have hz := vlen_zero p
    have hs : ∀ v : Int, 0 ≤ v ∧ v < p.ins + 1 → (0 ≤ due (orderP p) v ↔ 0 ≤ due p v) := fun v hv => due_iff hR (Nat.zero_le _) (v := v) (by omega)
    have e : lay0 (orderP p) (lifeP (orderP p)) = lay0 p (lifeP p) := by
      unfold lay0
      show (if 0 ≤ due (orderP p) p.ins then layP (layTo _ p.ins.toNat) p.ins (due (orderP p) p.ins) else layTo _ p.ins.toNat) = (if 0 ≤ due p p.ins then layP (layTo _ p.ins.toNat) p.ins (due p p.ins) else layTo _ p.ins.toNat)
      have h1 := hs p.ins (by omega)
      have h2 : layTo (lifeP (orderP p)) p.ins.toNat = layTo (lifeP p) p.ins.toNat := layTo_same _ (fun v hv => by
        have := hs v (by omega)
        show due (orderP p) v < 0 ↔ due p v < 0
        omega)
      rw [h2]
      by_cases hd : 0 ≤ due p p.ins
      · rw [if_pos hd, if_pos (h1.2 hd)]
        unfold layP
        congr 3
        exact decide_eq_decide.2 (by omega)
      · rw [if_neg hd, if_neg (fun x => hd (h1.1 x))]
    show (⟨lay0 (orderP p) (lifeP (orderP p)), max p.ins (lay0 (orderP p) (lifeP (orderP p))).free.length, []⟩ : PkS) = ⟨lay0 p (lifeP p), max p.ins (lay0 p (lifeP p)).free.length, []⟩
    rw [e]
  | k + 1, hk => by
    have ih := pk_again hR k (by omega)
    by_cases hn : nAt p k = true
    · have hkn : k < p.code.length := by omega
      have hcl := cnt_lt hR hkn hn
      have hin := due_in hR hkn
      obtain ⟨d1, d2⟩ := due_order hR hkn hn
      have e2 : s2P (orderP p) (cnt p k) (pkTo p k).s = s2P p k (pkTo p k).s := by
        unfold s2P
        rw [d1, d2, free_same (l := lifeP (orderP p)) (l' := lifeP p) (k' := k) (v := dueA p k) (due_eq hR hkn hn hin.1)]
        exact free_same (due_eq hR hkn hn hin.2)
      rw [cnt_yes hR hkn hn, pk_turned (order_right hR) hcl (order_needed hR hcl), pk_turned hR hkn hn]
      have et : turned (orderP p) (cnt p k) = turned p k := by
        unfold turned
        rw [ih, e2, d1, d2, code_turned hR hkn hn]
        have two : 1 < (asks (turned p k)).length ↔ 1 < (asks (cAt p k)).length := by rw [two_iff, two_iff]; rfl
        by_cases h2 : 1 < (asks (cAt p k)).length
        · rw [if_pos h2, if_pos (two.2 h2)]; rfl
        · rw [if_neg h2, if_neg (fun x => h2 (two.1 x))]
          show (⟨_, _, _, (turned p k).b, _⟩ : Sl.Instr) = _
          unfold turned
          rw [if_neg h2]
      rw [et, ih, e2, vlen_order hR (by omega)]
    · rw [cnt_no hn, pk_no hn]; exact ih
/-- the pass of what the pass made -/
theorem order_again {p : PV} (hR : rightP p = true) : orderP (orderP p) = orderP p := by
  have h1 := pk_again hR p.code.length (Nat.le_refl _)
  rw [cnt_end] at h1
  have hlen : (orderP p).outs.length = p.outs.length := by show ((lifeP p).outs.map _).length = _; rw [List.length_map]; exact lifeP_outs p
  have h2 : (lifeP (orderP p)).outs = (lifeP p).outs := by
    unfold lifeP
    rw [out_values _ _ (Nat.le_refl _), out_values _ _ (Nat.le_refl _), List.take_length, List.take_length]
    refine List.ext_getElem (by rw [List.length_map, List.length_map, hlen]) fun i hi1 hi2 => ?_
    rw [List.length_map] at hi1 hi2
    rw [List.getElem_map, List.getElem_map]
    have := outs_order hR hi2
    rw [Int.toNat_natCast, List.getElem?_eq_getElem hi2, List.getElem?_eq_getElem hi1] at this
    exact this
  show (⟨p.ins, (pkTo (orderP p) (orderP p).code.length).regs, (pkTo (orderP p) (orderP p).code.length).code, (lifeP (orderP p)).outs.map (stand (pkTo (orderP p) (orderP p).code.length).s)⟩ : PV) = _
  rw [h1, h2]
  rfl
end Go.Proofs.Ytfleehgbpgmcnaa
set_option linter.unusedVariables false
namespace Go.Proofs.Ytfleehgbpgmcnaa
open Go Go.Sl
/-- how many below N are such -/
def cntR (f : Nat → Bool) : Nat → Nat
  | 0 => 0
  | n + 1 => cntR f n + (if f n = true then 1 else 0)
theorem cntR_congr {f g : Nat → Bool} : ∀ N : Nat, (∀ v, v < N → f v = g v) → cntR f N = cntR g N
  | 0, _ => rfl
  | n + 1, h => by
    unfold cntR
    rw [cntR_congr n (fun v hv => h v (by omega)), h n (by omega)]
theorem cntR_sum {f g h : Nat → Bool} : ∀ N : Nat, (∀ v, v < N → (f v = true ↔ g v = true ∨ h v = true) ∧ ¬ (g v = true ∧ h v = true)) → cntR f N = cntR g N + cntR h N
  | 0, _ => rfl
  | n + 1, H => by
    have ih := cntR_sum n (fun v hv => H v (by omega))
    obtain ⟨h1, h2⟩ := H n (by omega)
    unfold cntR
    rw [ih]
    by_cases hg : g n = true
    · have hf := h1.2 (.inl hg)
      have hh : ¬ h n = true := fun x => h2 ⟨hg, x⟩
      rw [if_pos hf, if_pos hg, if_neg hh]; omega
    · by_cases hh : h n = true
      · rw [if_pos (h1.2 (.inr hh)), if_neg hg, if_pos hh]; omega
      · rw [if_neg (fun x => (h1.1 x).elim hg hh), if_neg hg, if_neg hh]; omega
theorem cntR_none {f : Nat → Bool} : ∀ N : Nat, (∀ v, v < N → f v = false) → cntR f N = 0
  | 0, _ => rfl
  | n + 1, h => by unfold cntR; rw [cntR_none n (fun v hv => h v (by omega)), h n (by omega)]; rfl
theorem cntR_one {f : Nat → Bool} {a : Nat} : ∀ N : Nat, a < N → (∀ v, v < N → (f v = true ↔ v = a)) → cntR f N = 1
  | 0, h, _ => absurd h (Nat.not_lt_zero _)
  | n + 1, h, H => by
    unfold cntR
    by_cases e : a = n
    · subst e
      rw [cntR_none a (fun v hv => by
        cases hx : f v with
        | false => rfl
        | true => have := (H v (by omega)).1 hx; omega), if_pos ((H a (by omega)).2 rfl)]
    · rw [cntR_one n (by omega) (fun v hv => H v (by omega)), if_neg (fun x => e ((H n (by omega)).1 x).symm)]
/-- whoever are found at different places are no more than who are counted -/
theorem cntR_inj {f : Nat → Bool} : ∀ (N m : Nat) (w : Nat → Nat), (∀ i, i < m → w i < N ∧ f (w i) = true) → (∀ i j, i < m → j < m → w i = w j → i = j) → m ≤ cntR f N
  | 0, m, w, h, _ => by
    cases m with
    | zero => exact Nat.le_refl _
    | succ m => exact absurd (h 0 (by omega)).1 (Nat.not_lt_zero _)
  | n + 1, m, w, h, hi => by
    unfold cntR
    by_cases hx : ∃ i, i < m ∧ w i = n
    · obtain ⟨a, ha, hwa⟩ := hx
      have hf : f n = true := by rw [← hwa]; exact (h a ha).2
      rw [if_pos hf]
      have := cntR_inj n (m - 1) (fun i => if i < a then w i else w (i + 1)) (fun i hm => by
        show (if i < a then w i else w (i + 1)) < n ∧ f (if i < a then w i else w (i + 1)) = true
        split
        · have h1 := h i (by omega)
          have h2 : w i ≠ n := fun e => by have := hi i a (by omega) ha (e.trans hwa.symm); omega
          exact ⟨by omega, h1.2⟩
        · have h1 := h (i + 1) (by omega)
          have h2 : w (i + 1) ≠ n := fun e => by have := hi (i + 1) a (by omega) ha (e.trans hwa.symm); omega
          exact ⟨by omega, h1.2⟩) (fun i j hi' hj' e => by
        have e : (if i < a then w i else w (i + 1)) = (if j < a then w j else w (j + 1)) := e
        split at e <;> split at e
        · exact hi i j (by omega) (by omega) e
        · have := hi i (j + 1) (by omega) (by omega) e; omega
        · have := hi (i + 1) j (by omega) (by omega) e; omega
        · have := hi (i + 1) (j + 1) (by omega) (by omega) e; omega)
      omega
    · have := cntR_inj n m w (fun i hm => by
        have h1 := h i hm
        have h2 : w i ≠ n := fun e => hx ⟨i, hm, e⟩
        exact ⟨by omega, h1.2⟩) hi
      omega
/-- how many are alive -/
def nAl (p : PV) (k : Nat) : Nat := cntR (fun v => decide ((k : Int) ≤ due p (v : Int))) (vlen p k)
theorem nAl_no {p : PV} (hR : rightP p = true) {k : Nat} (hk : k < p.code.length) (hn : ¬ nAt p k = true) : nAl p (k + 1) = nAl p k := by
  unfold nAl
  rw [vlen_no hn]
  refine cntR_congr _ fun v hv => decide_eq_decide.2 ?_
  have h1 := alive_no hR hk hn (v := (v : Int))
  unfold Alive at h1
  rw [vlen_no hn] at h1
  exact ⟨fun h => (h1.1 ⟨by omega, h⟩).2, fun h => (h1.2 ⟨by omega, h⟩).2⟩
def gone (p : PV) (k : Nat) : Nat := (if due p (dueA p k) = k then 1 else 0) + (if dueB p k ≠ dueA p k ∧ due p (dueB p k) = k then 1 else 0)
theorem nAl_yes {p : PV} (hR : rightP p = true) {k : Nat} (hk : k < p.code.length) (hn : nAt p k = true) : nAl p (k + 1) + gone p k = nAl p k + 1 := by
  obtain ⟨⟨a0, a1⟩, b0, b1⟩ := due_in hR hk
  have hnew := new_due hR hk hn
  have e1 : nAl p (k + 1) = cntR (fun v => decide (((k + 1 : Nat) : Int) ≤ due p (v : Int))) (vlen p k) + 1 := by
    unfold nAl
    rw [vlen_yes hn]
    show cntR _ (vlen p k) + (if decide (((k + 1 : Nat) : Int) ≤ due p ((vlen p k : Nat) : Int)) = true then 1 else 0) = _
    rw [if_pos (decide_eq_true hnew)]
  have e2 : nAl p k = cntR (fun v => decide (((k + 1 : Nat) : Int) ≤ due p (v : Int))) (vlen p k) + cntR (fun v => decide (due p (v : Int) = k)) (vlen p k) :=
    cntR_sum _ fun v hv => by simp only [decide_eq_true_eq]; omega
  have e3 : cntR (fun v => decide (due p (v : Int) = k)) (vlen p k) = cntR (fun v => decide ((v : Int) = dueA p k ∧ due p (v : Int) = k)) (vlen p k) + cntR (fun v => decide ((v : Int) = dueB p k ∧ dueB p k ≠ dueA p k ∧ due p (v : Int) = k)) (vlen p k) :=
    cntR_sum _ fun v hv => by
      simp only [decide_eq_true_eq]
      constructor
      · constructor
        · intro h
          rcases last_due hR hk (v := (v : Int)) ⟨by omega, by omega⟩ h with e | e
          · exact .inl ⟨e, h⟩
          · by_cases hab : dueB p k = dueA p k
            · exact .inl ⟨e.trans hab, h⟩
            · exact .inr ⟨e, hab, h⟩
        · rintro (h | h)
          · exact h.2
          · exact h.2.2
      · rintro ⟨h1, h2⟩; exact h2.2.1 (h2.1.symm.trans h1.1)
  have e4 : cntR (fun v => decide ((v : Int) = dueA p k ∧ due p (v : Int) = k)) (vlen p k) = if due p (dueA p k) = k then 1 else 0 := by
    by_cases h : due p (dueA p k) = k
    · rw [if_pos h]
      refine cntR_one (a := (dueA p k).toNat) _ (by omega) fun v hv => ?_
      rw [decide_eq_true_eq]
      constructor
      · intro x; omega
      · intro x
        have : (v : Int) = dueA p k := by omega
        exact ⟨this, by rw [this]; exact h⟩
    · rw [if_neg h]
      exact cntR_none _ fun v hv => decide_eq_false (fun x => h (by rw [← x.1]; exact x.2))
  have e5 : cntR (fun v => decide ((v : Int) = dueB p k ∧ dueB p k ≠ dueA p k ∧ due p (v : Int) = k)) (vlen p k) = if dueB p k ≠ dueA p k ∧ due p (dueB p k) = k then 1 else 0 := by
    by_cases h : dueB p k ≠ dueA p k ∧ due p (dueB p k) = k
    · rw [if_pos h]
      refine cntR_one (a := (dueB p k).toNat) _ (by omega) fun v hv => ?_
      rw [decide_eq_true_eq]
      constructor
      · intro x; omega
      · intro x
        have : (v : Int) = dueB p k := by omega
        exact ⟨this, h.1, by rw [this]; exact h.2⟩
    · rw [if_neg h]
      exact cntR_none _ fun v hv => decide_eq_false (fun x => h ⟨x.2.1, by rw [← x.1]; exact x.2.2⟩)
  unfold gone
  omega
/-- the pass's count: now, and the most -/
def alStep (p : PV) (s : Int × Int) (k : Nat) : Int × Int :=
  let n1 := if due p (dueA p k) = k then s.1 - 1 else s.1
  let n2 := if dueB p k ≠ dueA p k ∧ due p (dueB p k) = k then n1 - 1 else n1
  (n2 + 1, max s.2 (n2 + 1))
def al0 (p : PV) : Nat → Int
  | 0 => 0
  | v + 1 => if 0 ≤ due p (v : Int) then al0 p v + 1 else al0 p v
def alTo (p : PV) : Nat → Int × Int
  | 0 => (al0 p (p.ins.toNat + 1), al0 p (p.ins.toNat + 1))
  | k + 1 => if nAt p k = true then alStep p (alTo p k) k else alTo p k
def aliveP (p : PV) : Int := (alTo p p.code.length).2
theorem al0_cnt (p : PV) : ∀ n, al0 p n = cntR (fun v => decide ((0 : Int) ≤ due p (v : Int))) n
  | 0 => rfl
  | n + 1 => by
    unfold al0 cntR
    rw [al0_cnt p n]
    by_cases h : (0 : Int) ≤ due p (n : Int)
    · rw [if_pos h, if_pos (decide_eq_true h)]; omega
    · rw [if_neg h, if_neg (by simpa using h)]; omega
theorem alTo_now {p : PV} (hR : rightP p = true) : ∀ k, k ≤ p.code.length → (alTo p k).1 = nAl p k
  | 0, _ => by
    show al0 p (p.ins.toNat + 1) = _
    rw [al0_cnt]
    unfold nAl
    rw [vlen_zero]; rfl
  | k + 1, hk => by
    have ih := alTo_now hR k (by omega)
    by_cases hn : nAt p k = true
    · have h1 := nAl_yes hR (by omega : k < p.code.length) hn
      have e : alTo p (k + 1) = alStep p (alTo p k) k := if_pos hn
      rw [e]
      unfold alStep gone at *
      simp only
      rw [ih]
      split <;> split <;> simp_all <;> omega
    · have e : alTo p (k + 1) = alTo p k := if_neg hn
      rw [e, nAl_no hR (by omega) hn]; exact ih
theorem alTo_most {p : PV} (hR : rightP p = true) : ∀ k, k ≤ p.code.length → (∀ j, j ≤ k → (nAl p j : Int) ≤ (alTo p k).2) ∧ (∃ j, j ≤ k ∧ (alTo p k).2 = nAl p j)
  | 0, _ => by
    have h0 := alTo_now hR 0 (Nat.zero_le _)
    have e : (alTo p 0).2 = (alTo p 0).1 := rfl
    rw [e, h0]
    exact ⟨fun j hj => by rw [Nat.le_zero.1 hj]; exact Int.le_refl _, 0, Nat.le_refl _, rfl⟩
  | k + 1, hk => by
    obtain ⟨h1, j, hj, h2⟩ := alTo_most hR k (by omega)
    have hnow := alTo_now hR (k + 1) hk
    by_cases hn : nAt p k = true
    · have e : alTo p (k + 1) = alStep p (alTo p k) k := if_pos hn
      have e2 : (alTo p (k + 1)).2 = max (alTo p k).2 (alTo p (k + 1)).1 := by rw [e]; rfl
      rw [e2, hnow]
      refine ⟨fun i hi => ?_, ?_⟩
      · by_cases hik : i = k + 1
        · rw [hik]; omega
        · have := h1 i (by omega); omega
      · by_cases hc : (alTo p k).2 ≤ nAl p (k + 1)
        · exact ⟨k + 1, Nat.le_refl _, by omega⟩
        · exact ⟨j, by omega, by omega⟩
    · have e : alTo p (k + 1) = alTo p k := if_neg hn
      have e9 := nAl_no hR (by omega : k < p.code.length) hn
      rw [e]
      refine ⟨fun i hi => ?_, j, by omega, h2⟩
      by_cases hik : i = k + 1
      · rw [hik, e9]; exact h1 k (Nat.le_refl _)
      · exact h1 i (by omega)
/-- registers are no more than are alive at once, or than there are inputs and one -/
theorem regs_alive {p : PV} (hR : rightP p = true) : ∀ k, k ≤ p.code.length → ((pkTo p k).s.free.length : Int) ≤ p.ins + 1 ∨ ∃ j, j ≤ k ∧ (pkTo p k).s.free.length ≤ nAl p j
  | 0, _ => .inl (lay0_ok (right_facts hR).1 (lifeP p)).2.2
  | k + 1, hk => by
    have hkn : k < p.code.length := by omega
    by_cases hn : nAt p k = true
    · have ho := (pk_occ hR k (by omega)).1
      have ho1 := (pk_occ hR (k + 1) hk).1
      have hfree : (pkTo p (k + 1)).s.free.length = if least (s2P p k (pkTo p k).s).free < (s2P p k (pkTo p k).s).free.length then (s2P p k (pkTo p k).s).free.length else (s2P p k (pkTo p k).s).free.length + 1 := by
        rw [pk_turned hR hkn hn]; exact give_len _ _
      by_cases hlt : least (s2P p k (pkTo p k).s).free < (s2P p k (pkTo p k).s).free.length
      · rw [if_pos hlt, s2_len] at hfree
        rw [hfree]
        rcases regs_alive hR k (by omega) with h | ⟨j, hj, h⟩
        · exact .inl h
        · exact .inr ⟨j, by omega, h⟩
      · rw [if_neg hlt, s2_len] at hfree
        have hle := least_le (s2P p k (pkTo p k).s).free
        have h2l := s2_len p k (pkTo p k).s
        refine .inr ⟨k + 1, Nat.le_refl _, ?_⟩
        have key : ∀ r : Nat, r < (pkTo p (k + 1)).s.free.length → ∃ v : Nat, Alive p (k + 1) (v : Int) ∧ stand (pkTo p (k + 1)).s (v : Int) = r := fun r hr => by
          have hf : fr (pkTo p (k + 1)).s (r : Int) = false := by
            have e : (pkTo p (k + 1)).s = giveP (s2P p k (pkTo p k).s) (vlen p k) := by rw [pk_turned hR hkn hn]
            rw [e] at hr ⊢
            rw [fr_give (by omega)]
            by_cases e2 : (r : Int) = least (s2P p k (pkTo p k).s).free
            · rw [if_pos e2]
            · rw [if_neg e2]
              unfold fr
              rw [Int.toNat_natCast]
              exact none_free hlt r (by rw [← e, hfree] at hr; omega)
          obtain ⟨v, hv, e⟩ := ho1.i3 (r : Int) (by omega) hf
          have h0 := hv.1.1
          exact ⟨v.toNat, by rw [Int.toNat_of_nonneg h0]; exact hv, by rw [Int.toNat_of_nonneg h0]; exact e⟩
        refine cntR_inj _ _ (fun r => if hr : r < (pkTo p (k + 1)).s.free.length then Classical.choose (key r hr) else 0) (fun i hi => ?_) (fun i j hi hj e => ?_)
        · show (if hr : i < _ then Classical.choose (key i hr) else 0) < _ ∧ decide _ = true
          rw [dif_pos hi]
          have h9 := (Classical.choose_spec (key i hi)).1
          exact ⟨by have := h9.1.2; omega, decide_eq_true h9.2⟩
        · have e : (if hr : i < (pkTo p (k + 1)).s.free.length then Classical.choose (key i hr) else 0) = (if hr : j < (pkTo p (k + 1)).s.free.length then Classical.choose (key j hr) else 0) := e
          rw [dif_pos hi, dif_pos hj] at e
          have h1 := (Classical.choose_spec (key i hi)).2
          have h2 := (Classical.choose_spec (key j hj)).2
          rw [e, h2] at h1
          omega
    · rw [pk_no hn]
      rcases regs_alive hR k (by omega) with h | ⟨j, hj, h⟩
      · exact .inl h
      · exact .inr ⟨j, by omega, h⟩
theorem order_alive {p : PV} (hR : rightP p = true) : ¬ ((orderP p).regs > aliveP p + 1 ∧ (orderP p).regs > p.ins + 1) := by
  have h1 := (pk_occ hR p.code.length (Nat.le_refl _)).2
  have h2 : (orderP p).regs = (pkTo p p.code.length).regs := rfl
  have h3 := (alTo_most hR p.code.length (Nat.le_refl _)).1
  rcases regs_alive hR p.code.length (Nat.le_refl _) with h | ⟨j, hj, h⟩
  · omega
  · have := h3 j hj
    unfold aliveP
    omega
end Go.Proofs.Ytfleehgbpgmcnaa
set_option linter.unusedVariables false
namespace Go.Proofs.Ytfleehgbpgmcnaa
open Go Go.Sl
/-- which value stands in a register, as the reference numbers values -/
def heldR (p : PV) : Nat → Int → Int
  | 0, r => if r < p.ins then -1 - r else -1000
  | k + 1, r => if nAt p k = true ∧ (cAt p k).to = r then (k : Int) else heldR p k r
/-- a value's number in the reference -/
def rv (p : PV) : Nat → Int → Int
  | 0, v => if v < p.ins then -1 - v else -1000
  | k + 1, v => if nAt p k = true ∧ v = vlen p k then (k : Int) else rv p k v
def asksR (p : PV) (k : Nat) (w : Int) : Bool := (asks (cAt p k)).any fun r => decide (heldR p k r = w)
def untilTo (p : PV) (w : Int) : Nat → Int
  | 0 => -2000
  | k + 1 => if nAt p k = true ∧ asksR p k w = true then (k : Int) else untilTo p w k
def outR (p : PV) (w : Int) : Bool := p.outs.any fun r => decide (heldR p p.code.length r = w)
def untilR (p : PV) (w : Int) : Int := if outR p w = true then p.code.length else untilTo p w p.code.length
def rvn (p : PV) (v : Int) : Int := rv p p.code.length v
theorem rv_keep {p : PV} {k : Nat} {v : Int} (hv : v < vlen p k) : ∀ j, k ≤ j → rv p j v = rv p k v
  | 0, h => by rw [Nat.le_zero.1 h]
  | j + 1, h => by
    by_cases e : k = j + 1
    · rw [e]
    · have hm := vlen_mono p (show k ≤ j by omega)
      show (if nAt p j = true ∧ v = vlen p j then (j : Int) else rv p j v) = _
      rw [if_neg (fun x => by have := x.2; omega)]
      exact rv_keep hv j (by omega)
theorem rvn_at {p : PV} {k : Nat} (hk : k ≤ p.code.length) {v : Int} (hv : v < vlen p k) : rvn p v = rv p k v := rv_keep hv _ hk
theorem rv_lt (p : PV) : ∀ (k : Nat) (v : Int), 0 ≤ v → rv p k v < k
  | 0, v, h => by
    show (if v < p.ins then -1 - v else -1000) < (0 : Int)
    split <;> omega
  | k + 1, v, h => by
    have := rv_lt p k v h
    show (if nAt p k = true ∧ v = vlen p k then (k : Int) else rv p k v) < _
    split <;> omega
theorem rv_inj {p : PV} (hR : rightP p = true) : ∀ (k : Nat) (v w : Int), 0 ≤ v ∧ v < vlen p k → 0 ≤ w ∧ w < vlen p k → rv p k v = rv p k w → v = w
  | 0, v, w, hv, hw, e => by
    obtain ⟨f1, f2, f3, _⟩ := right_facts hR
    rw [vlen_zero] at hv hw
    have e : (if v < p.ins then -1 - v else -1000) = (if w < p.ins then -1 - w else -1000) := e
    split at e <;> split at e <;> omega
  | k + 1, v, w, hv, hw, e => by
    by_cases hn : nAt p k = true
    · rw [vlen_yes hn] at hv hw
      have e : (if nAt p k = true ∧ v = vlen p k then (k : Int) else rv p k v) = (if nAt p k = true ∧ w = vlen p k then (k : Int) else rv p k w) := e
      have l1 := rv_lt p k v hv.1
      have l2 := rv_lt p k w hw.1
      by_cases h1 : v = vlen p k
      · by_cases h2 : w = vlen p k
        · rw [h1, h2]
        · rw [if_pos ⟨hn, h1⟩, if_neg (fun x => h2 x.2)] at e; omega
      · by_cases h2 : w = vlen p k
        · rw [if_neg (fun x => h1 x.2), if_pos ⟨hn, h2⟩] at e; omega
        · rw [if_neg (fun x => h1 x.2), if_neg (fun x => h2 x.2)] at e
          exact rv_inj hR k v w (by omega) (by omega) e
    · rw [vlen_no hn] at hv hw
      have e : (if nAt p k = true ∧ v = vlen p k then (k : Int) else rv p k v) = (if nAt p k = true ∧ w = vlen p k then (k : Int) else rv p k w) := e
      rw [if_neg (fun x => hn x.1), if_neg (fun x => hn x.1)] at e
      exact rv_inj hR k v w hv hw e
theorem rvn_inj {p : PV} (hR : rightP p = true) {v w : Int} (hv : 0 ≤ v ∧ v < vlen p p.code.length) (hw : 0 ≤ w ∧ w < vlen p p.code.length) (e : rvn p v = rvn p w) : v = w := rv_inj hR _ v w hv hw e
theorem held_ref {p : PV} (hR : rightP p = true) {r : Int} (hr : 0 ≤ r ∧ r < p.regs) : ∀ k, k ≤ p.code.length → heldR p k r = rvn p (heldAt p k r)
  | 0, _ => by
    obtain ⟨f1, f2, f3, _⟩ := right_facts hR
    have hin := held_in hR (Nat.zero_le _) hr
    rw [rvn_at (Nat.zero_le _) hin.2]
    show (if r < p.ins then -1 - r else -1000) = (if heldAt p 0 r < p.ins then -1 - heldAt p 0 r else -1000)
    rw [held_zero hr]
    split <;> split <;> omega
  | k + 1, hk => by
    have ih := held_ref hR hr k (by omega)
    show (if nAt p k = true ∧ (cAt p k).to = r then (k : Int) else heldR p k r) = _
    by_cases hn : nAt p k = true
    · rw [held_yes hR (by omega) hn hr]
      by_cases e : (cAt p k).to = r
      · rw [if_pos ⟨hn, e⟩, if_pos e, rvn_at (k := k + 1) hk (by rw [vlen_yes hn]; omega)]
        exact (if_pos ⟨hn, rfl⟩).symm
      · rw [if_neg (fun x => e x.2), if_neg e]; exact ih
    · rw [if_neg (fun x => hn x.1), held_no hn]; exact ih
theorem asks_reg {i : Sl.Instr} {regs : Int} (hm : mayOk i regs = true) {r : Int} (hr : r ∈ asks i) : 0 ≤ r ∧ r < regs := asks_in hm r hr
theorem asks_due {p : PV} (hR : rightP p = true) {k : Nat} (hk : k < p.code.length) (v : Int) : (∃ r ∈ asks (cAt p k), heldAt p k r = v) ↔ (v = dueA p k ∨ v = dueB p k) := by
  have hm := (may_facts (code_may hR hk)).1
  by_cases h34 : (cAt p k).op = 3 ∨ (cAt p k).op = 4
  · have h2 := (two_iff (cAt p k)).2 h34
    have eB : dueB p k = heldAt p k (cAt p k).b := if_pos h2
    have e : asks (cAt p k) = [(cAt p k).a, (cAt p k).b] := by unfold asks; rw [if_pos h34]
    rw [e, eB]
    constructor
    · rintro ⟨r, hr, h⟩
      rcases List.mem_cons.1 hr with x | x
      · left; rw [← h, x]; rfl
      · right; rw [← h, List.mem_singleton.1 x]
    · rintro (h | h)
      · exact ⟨_, List.mem_cons_self, h.symm⟩
      · exact ⟨_, List.mem_cons_of_mem _ List.mem_cons_self, h.symm⟩
  · have h2 : ¬ 1 < (asks (cAt p k)).length := fun e => h34 ((two_iff _).1 e)
    have eB : dueB p k = dueA p k := if_neg h2
    have e : asks (cAt p k) = [(cAt p k).a] := by unfold asks; rw [if_neg h34, if_pos hm]
    rw [e, eB]
    constructor
    · rintro ⟨r, hr, h⟩
      left; rw [← h, List.mem_singleton.1 hr]; rfl
    · rintro (h | h) <;> exact ⟨_, List.mem_cons_self, h.symm⟩
theorem asksR_iff {p : PV} (hR : rightP p = true) {k : Nat} (hk : k < p.code.length) {v : Int} (hv : 0 ≤ v ∧ v < vlen p p.code.length) : asksR p k (rvn p v) = true ↔ (v = dueA p k ∨ v = dueB p k) := by
  rw [← asks_due hR hk]
  unfold asksR
  rw [List.any_eq_true]
  have hm := vlen_mono p (show k ≤ p.code.length by omega)
  constructor
  · rintro ⟨r, hr, h⟩
    have hrr := asks_reg (code_may hR hk) hr
    have hin := held_in hR (show k ≤ p.code.length by omega) hrr
    rw [decide_eq_true_eq, held_ref hR hrr k (by omega)] at h
    exact ⟨r, hr, rvn_inj hR (by omega) hv h⟩
  · rintro ⟨r, hr, h⟩
    have hrr := asks_reg (code_may hR hk) hr
    exact ⟨r, hr, decide_eq_true (by rw [held_ref hR hrr k (by omega), h])⟩
theorem outR_iff {p : PV} (hR : rightP p = true) {v : Int} (hv : 0 ≤ v ∧ v < vlen p p.code.length) : outR p (rvn p v) = true ↔ due p v = p.code.length := by
  obtain ⟨f1, f2, f3, f4, f5, f6, f7, f8⟩ := right_facts hR
  unfold outR
  rw [List.any_eq_true]
  constructor
  · rintro ⟨r, hr, h⟩
    have hrr := f7 r hr
    have hin := held_in hR (Nat.le_refl _) hrr
    rw [decide_eq_true_eq, held_ref hR hrr _ (Nat.le_refl _)] at h
    have e := rvn_inj hR hin hv h
    obtain ⟨i, hi, hri⟩ := List.mem_iff_getElem.1 hr
    have := due_out hR hi
    rw [Int.toNat_natCast, List.getElem?_eq_getElem hi, Option.getD_some, hri, e] at this
    exact this
  · intro h
    rcases due_who' hR hv with h1 | ⟨t, ht, h1, _⟩ | ⟨_, i, hi, e⟩
    · omega
    · omega
    · rw [Int.toNat_natCast, List.getElem?_eq_getElem hi, Option.getD_some] at e
      exact ⟨_, List.getElem_mem hi, decide_eq_true (by rw [held_ref hR (f7 _ (List.getElem_mem hi)) _ (Nat.le_refl _), e])⟩
theorem untilTo_said {p : PV} (hR : rightP p = true) {v : Int} (hv : 0 ≤ v ∧ v < vlen p p.code.length) : ∀ k, k ≤ p.code.length → untilTo p (rvn p v) k = if v < vlen p k ∧ tl (lifeTo p k) v ≠ -1 then tl (lifeTo p k) v else -2000
  | 0, _ => by
    show (-2000 : Int) = _
    by_cases h : v < vlen p 0
    · rcases tl_said hR 0 (Nat.zero_le _) v ⟨hv.1, h⟩ with e | ⟨t, ht, _⟩
      · rw [if_neg (fun x => x.2 e)]
      · omega
    · rw [if_neg (fun x => h x.1)]
  | k + 1, hk => by
    have ih := untilTo_said hR hv k (by omega)
    have hin := due_in hR (show k < p.code.length by omega)
    show (if nAt p k = true ∧ asksR p k (rvn p v) = true then (k : Int) else untilTo p (rvn p v) k) = _
    by_cases hn : nAt p k = true
    · rw [vlen_yes hn]
      by_cases hl : v < vlen p k
      · rw [tl_step hR (by omega) hn ⟨hv.1, hl⟩]
        by_cases ha : v = dueA p k ∨ v = dueB p k
        · rw [if_pos ⟨hn, (asksR_iff hR (by omega) hv).2 ha⟩, if_pos ha, if_pos ⟨by omega, by omega⟩]
        · rw [if_neg (fun x => ha ((asksR_iff hR (by omega) hv).1 x.2)), if_neg ha, ih]
          by_cases ht : tl (lifeTo p k) v ≠ -1
          · rw [if_pos ⟨hl, ht⟩, if_pos ⟨by omega, ht⟩]
          · rw [if_neg (fun x => ht x.2), if_neg (fun x => ht x.2)]
      · have ha : ¬ (v = dueA p k ∨ v = dueB p k) := by omega
        rw [if_neg (fun x => ha ((asksR_iff hR (by omega) hv).1 x.2)), ih, if_neg (fun x => hl x.1)]
        by_cases e : v = vlen p k
        · rw [e, tl_new hn, if_neg (fun x => x.2 rfl)]
        · rw [if_neg (fun x => by have := x.1; omega)]
    · rw [if_neg (fun x => hn x.1), vlen_no hn, life_no hn]; exact ih
theorem until_due {p : PV} (hR : rightP p = true) {v : Int} (hv : 0 ≤ v ∧ v < vlen p p.code.length) : untilR p (rvn p v) = if due p v = -1 then -2000 else due p v := by
  unfold untilR
  by_cases ho : due p v = p.code.length
  · rw [if_pos ((outR_iff hR hv).2 ho), if_neg (by omega), ho]
  · rw [if_neg (fun x => ho ((outR_iff hR hv).1 x)), untilTo_said hR hv _ (Nat.le_refl _)]
    have e : due p v = tl (lifeTo p p.code.length) v := by
      rcases out_who hR hv p.outs.length (Nat.le_refl _) with h | ⟨h, _⟩
      · exact h
      · exact absurd h ho
    rw [← e]
    by_cases hd : due p v = -1
    · rw [if_neg (fun x => x.2 hd), if_pos hd]
    · rw [if_pos ⟨hv.2, hd⟩, if_neg hd]
theorem until_ge {p : PV} (hR : rightP p = true) {v : Int} (hv : 0 ≤ v ∧ v < vlen p p.code.length) (k : Nat) : (k : Int) ≤ untilR p (rvn p v) ↔ (k : Int) ≤ due p v := by
  rw [until_due hR hv]
  split <;> omega
theorem until_eq {p : PV} (hR : rightP p = true) {v : Int} (hv : 0 ≤ v ∧ v < vlen p p.code.length) (k : Nat) : untilR p (rvn p v) = k ↔ due p v = k := by
  rw [until_due hR hv]
  split <;> omega
theorem rvn_in {p : PV} {v : Int} (hv : 0 ≤ v ∧ v < p.ins) : rvn p v = -1 - v := by
  rw [rvn_at (k := 0) (Nat.zero_le _) (by rw [vlen_zero]; omega)]
  exact if_pos hv.2
theorem rvn_none {p : PV} (h : 1 ≤ p.ins) : rvn p p.ins = -1000 := by
  rw [rvn_at (k := 0) (Nat.zero_le _) (by rw [vlen_zero]; omega)]
  exact if_neg (by omega)
theorem rvn_new {p : PV} {k : Nat} (hk : k < p.code.length) (hn : nAt p k = true) : rvn p (vlen p k) = k := by
  rw [rvn_at (k := k + 1) (by omega) (by rw [vlen_yes hn]; omega)]
  exact if_pos ⟨hn, rfl⟩
end Go.Proofs.Ytfleehgbpgmcnaa
set_option linter.unusedVariables false
namespace Go.Proofs.Ytfleehgbpgmcnaa
open Go Go.Sl
def refIn (p : PV) (k : Nat) : Nat → Int
  | 0 => 0
  | r + 1 => if (k : Int) ≤ untilR p (-1 - (r : Int)) then refIn p k r + 1 else refIn p k r
def refJ (p : PV) (k : Nat) : Nat → Int
  | 0 => 0
  | j + 1 => if nAt p j = true ∧ (k : Int) ≤ untilR p (j : Int) then refJ p k j + 1 else refJ p k j
def refN (p : PV) (k : Nat) : Int := if (k : Int) ≤ untilR p (-1000) then 1 else 0
def refAl (p : PV) (k : Nat) : Int := refN p k + refIn p k p.ins.toNat + refJ p k k
def refMost (p : PV) : Nat → Int
  | 0 => 0
  | k + 1 => if k < p.code.length ∧ ¬ nAt p k = true then refMost p k else max (refMost p k) (refAl p k)
def refAliveP (p : PV) : Int := refMost p (p.code.length + 1)
theorem refIn_cnt {p : PV} (hR : rightP p = true) {k : Nat} : ∀ r : Nat, (r : Int) ≤ p.ins → refIn p k r = cntR (fun v => decide ((k : Int) ≤ due p (v : Int))) r
  | 0, _ => rfl
  | r + 1, h => by
    have hv : (0 : Int) ≤ (r : Int) ∧ (r : Int) < vlen p p.code.length := by
      have := vlen_mono p (Nat.zero_le p.code.length)
      rw [vlen_zero] at this
      omega
    unfold refIn cntR
    rw [refIn_cnt hR r (by omega), ← rvn_in (p := p) (v := (r : Int)) (by omega)]
    have := until_ge hR hv k
    by_cases e : (k : Int) ≤ due p (r : Int)
    · rw [if_pos (this.2 e), if_pos (decide_eq_true e)]; omega
    · rw [if_neg (fun x => e (this.1 x)), if_neg (by simpa using e)]; omega
theorem refJ_cnt {p : PV} (hR : rightP p = true) {k : Nat} : ∀ j : Nat, j ≤ p.code.length → (cntR (fun v => decide ((k : Int) ≤ due p (v : Int))) (p.ins.toNat + 1) : Int) + refJ p k j = cntR (fun v => decide ((k : Int) ≤ due p (v : Int))) (vlen p j)
  | 0, _ => by
    rw [vlen_zero]
    show _ + (0 : Int) = _
    omega
  | j + 1, hj => by
    have ih := refJ_cnt hR (k := k) j (by omega)
    by_cases hn : nAt p j = true
    · rw [vlen_yes hn]
      have hv : (0 : Int) ≤ (vlen p j : Int) ∧ (vlen p j : Int) < vlen p p.code.length := by
        have := vlen_mono p (show j + 1 ≤ p.code.length by omega)
        rw [vlen_yes hn] at this
        omega
      have := until_ge hR hv k
      rw [rvn_new (by omega) hn] at this
      unfold refJ
      show _ = ((cntR _ (vlen p j) + (if decide ((k : Int) ≤ due p ((vlen p j : Nat) : Int)) = true then 1 else 0) : Nat) : Int)
      by_cases e : (k : Int) ≤ due p (vlen p j : Int)
      · rw [if_pos ⟨hn, this.2 e⟩, if_pos (decide_eq_true e)]; omega
      · rw [if_neg (fun x => e (this.1 x.2)), if_neg (by simpa using e)]; omega
    · rw [vlen_no hn]
      unfold refJ
      rw [if_neg (fun x => hn x.1)]
      exact ih
theorem refAl_eq {p : PV} (hR : rightP p = true) {k : Nat} (hk : k ≤ p.code.length) : refAl p k = nAl p k := by
  obtain ⟨f1, _⟩ := right_facts hR
  have h1 := refJ_cnt hR (k := k) k hk
  have h2 := refIn_cnt hR (k := k) p.ins.toNat (by omega)
  have hv : (0 : Int) ≤ p.ins ∧ p.ins < vlen p p.code.length := by
    have := vlen_mono p (Nat.zero_le p.code.length)
    rw [vlen_zero] at this
    omega
  have h3 := until_ge hR hv k
  rw [rvn_none f1] at h3
  have h4 : (cntR (fun v => decide ((k : Int) ≤ due p (v : Int))) (p.ins.toNat + 1) : Int) = refIn p k p.ins.toNat + refN p k := by
    rw [h2]
    show ((cntR _ p.ins.toNat + (if decide ((k : Int) ≤ due p ((p.ins.toNat : Nat) : Int)) = true then 1 else 0) : Nat) : Int) = _
    rw [Int.toNat_of_nonneg (by omega : 0 ≤ p.ins)]
    unfold refN
    by_cases e : (k : Int) ≤ due p p.ins
    · rw [if_pos (decide_eq_true e), if_pos (h3.2 e)]; omega
    · rw [if_neg (by simpa using e), if_neg (fun x => e (h3.1 x))]; omega
  unfold refAl nAl
  omega
theorem refMost_mono (p : PV) {k : Nat} : ∀ j, k ≤ j → refMost p k ≤ refMost p j
  | 0, h => by rw [Nat.le_zero.1 h]; exact Int.le_refl _
  | j + 1, h => by
    by_cases e : k = j + 1
    · rw [e]; exact Int.le_refl _
    · have := refMost_mono p j (show k ≤ j by omega)
      show _ ≤ (if _ then refMost p j else max (refMost p j) (refAl p j))
      split
      · exact this
      · exact Int.le_trans this (Int.le_max_left _ _)
theorem refMost_up {p : PV} (hR : rightP p = true) : ∀ (d j : Nat), j + d = p.code.length → (nAl p j : Int) ≤ refMost p (p.code.length + 1)
  | 0, j, h => by
    have e : j = p.code.length := by omega
    subst e
    show _ ≤ (if p.code.length < p.code.length ∧ _ then _ else max (refMost p p.code.length) (refAl p p.code.length))
    rw [if_neg (fun x => by omega), refAl_eq hR (Nat.le_refl _)]
    omega
  | d + 1, j, h => by
    by_cases hn : nAt p j = true
    · have h1 := refMost_mono p (p.code.length + 1) (show j + 1 ≤ p.code.length + 1 by omega)
      have h2 : refMost p (j + 1) = max (refMost p j) (refAl p j) := if_neg (fun x => x.2 hn)
      rw [h2, refAl_eq hR (by omega)] at h1
      omega
    · rw [← nAl_no hR (by omega) hn]
      exact refMost_up hR d (j + 1) (by omega)
theorem refMost_down {p : PV} (hR : rightP p = true) {M : Int} (h0 : 0 ≤ M) (h : ∀ j, j ≤ p.code.length → (nAl p j : Int) ≤ M) : ∀ k, k ≤ p.code.length + 1 → refMost p k ≤ M
  | 0, _ => h0
  | k + 1, hk => by
    have ih := refMost_down hR h0 h k (by omega)
    have h1 := h k (by omega)
    show (if _ then refMost p k else max (refMost p k) (refAl p k)) ≤ M
    rw [refAl_eq hR (by omega)]
    split
    · exact ih
    · exact Int.max_le.2 ⟨ih, h1⟩
theorem alive_ref {p : PV} (hR : rightP p = true) : refAliveP p = aliveP p := by
  obtain ⟨h1, j, hj, h2⟩ := alTo_most hR p.code.length (Nat.le_refl _)
  have a := refMost_down hR (M := aliveP p) (by unfold aliveP; rw [h2]; omega) h1 (p.code.length + 1) (Nat.le_refl _)
  have b := refMost_up hR (p.code.length - j) j (by omega)
  unfold refAliveP aliveP at *
  omega
def wh : List (Int × Int) → Int → Int
  | [], _ => -1
  | (a, b) :: l, w => if a = w then b else wh l w
theorem wh_eq {w b : Int} : ∀ {l : List (Int × Int)}, (∃ e ∈ l, e.1 = w) → (∀ e ∈ l, e.1 = w → e.2 = b) → wh l w = b
  | [], h, _ => by obtain ⟨e, he, _⟩ := h; cases he
  | (a, c) :: l, h, H => by
    show (if a = w then c else wh l w) = b
    by_cases e : a = w
    · rw [if_pos e]; exact H (a, c) List.mem_cons_self e
    · rw [if_neg e]
      refine wh_eq ?_ (fun x hx => H x (List.mem_cons_of_mem _ hx))
      obtain ⟨x, hx, hw⟩ := h
      rcases List.mem_cons.1 hx with y | y
      · subst y; exact absurd hw e
      · exact ⟨x, y, hw⟩
def takenR (l : List (Int × Int)) (r : Int) : Bool := l.any fun e => decide (e.2 = r)
def leastR (l : List (Int × Int)) : Nat := ((List.range (l.length + 1)).find? fun (r : Nat) => !takenR l (r : Int)).getD 0
theorem taken_len {l : List (Int × Int)} {r : Nat} (h : ∀ q : Nat, q < r → takenR l (q : Int) = true) : r ≤ l.length := by
  have key : ∀ q : Nat, q < r → ∃ i : Nat, i < l.length ∧ (l[i]?.getD (0, 0)).2 = q := fun q hq => by
    have := h q hq
    unfold takenR at this
    rw [List.any_eq_true] at this
    obtain ⟨e, he, h2⟩ := this
    obtain ⟨i, hi, hie⟩ := List.mem_iff_getElem.1 he
    exact ⟨i, hi, by rw [List.getElem?_eq_getElem hi]; show (l[i]).2 = _; rw [hie]; exact of_decide_eq_true h2⟩
  refine pigeon l.length (fun q => if hq : q < r then Classical.choose (key q hq) else 0) r (fun i hi => ?_) (fun i j hi hj e => ?_)
  · show (if hq : i < r then Classical.choose (key i hq) else 0) < _
    rw [dif_pos hi]; exact (Classical.choose_spec (key i hi)).1
  · have e : (if hq : i < r then Classical.choose (key i hq) else 0) = (if hq : j < r then Classical.choose (key j hq) else 0) := e
    rw [dif_pos hi, dif_pos hj] at e
    have h1 := (Classical.choose_spec (key i hi)).2
    have h2 := (Classical.choose_spec (key j hj)).2
    rw [e, h2] at h1
    omega
theorem leastR_eq {l : List (Int × Int)} {r : Nat} (h : ∀ q : Nat, q < r → takenR l (q : Int) = true) (hr : takenR l (r : Int) = false) : leastR l = r := by
  have hl := taken_len h
  unfold leastR
  have e : (List.range (l.length + 1)).find? (fun (q : Nat) => !takenR l (q : Int)) = some r := by
    rw [List.find?_range_eq_some]
    refine ⟨by rw [hr]; rfl, List.mem_range.2 (by omega), fun q hq => ?_⟩
    rw [h q hq]; rfl
  rw [e]; rfl
def refNow (p : PV) : Nat → List (Int × Int)
  | 0 => []
  | r + 1 => if 0 ≤ untilR p (-1 - (r : Int)) then refNow p r ++ [(-1 - (r : Int), (r : Int))] else refNow p r
structure RefS where
  now : List (Int × Int)
  regs : Int
  code : List Sl.Instr
def ref0 (p : PV) : RefS := if 0 ≤ untilR p (-1000) then ⟨refNow p p.ins.toNat ++ [(-1000, p.ins)], p.ins + 1, []⟩ else ⟨refNow p p.ins.toNat, p.ins, []⟩
def restR (p : PV) (k : Nat) (l : List (Int × Int)) : List (Int × Int) := l.filter fun e => !decide (untilR p e.1 = (k : Int))
def refStep (p : PV) (x : RefS) (k : Nat) : RefS :=
  ⟨restR p k x.now ++ [((k : Int), (leastR (restR p k x.now) : Int))], max x.regs ((leastR (restR p k x.now) : Int) + 1),
    x.code ++ [⟨(cAt p k).op, leastR (restR p k x.now), wh x.now (heldR p k (cAt p k).a), if 1 < (asks (cAt p k)).length then wh x.now (heldR p k (cAt p k).b) else 0, (cAt p k).c⟩]⟩
def refTo (p : PV) : Nat → RefS
  | 0 => ref0 p
  | k + 1 => if nAt p k = true then refStep p (refTo p k) k else refTo p k
def refP (p : PV) : PV := ⟨p.ins, (refTo p p.code.length).regs, (refTo p p.code.length).code, p.outs.map fun r => wh (refTo p p.code.length).now (heldR p p.code.length r)⟩
/-- the reference's places are the pass's -/
structure Rel (p : PV) (k : Nat) (l : List (Int × Int)) (s : Pl) : Prop where
  r1 : ∀ v, Alive p k v → (rvn p v, stand s v) ∈ l
  r2 : ∀ e ∈ l, ∃ v, Alive p k v ∧ rvn p v = e.1 ∧ stand s v = e.2
theorem alive_all {p : PV} {k : Nat} (hk : k ≤ p.code.length) {v : Int} (h : Alive p k v) : 0 ≤ v ∧ v < vlen p p.code.length := ⟨h.1.1, by have := vlen_mono p hk; have := h.1.2; omega⟩
theorem Rel.at {p : PV} (hR : rightP p = true) {k : Nat} (hk : k ≤ p.code.length) {l : List (Int × Int)} {s : Pl} (h : Rel p k l s) {v : Int} (hv : Alive p k v) : wh l (rvn p v) = stand s v :=
  wh_eq ⟨_, h.r1 v hv, rfl⟩ fun e he hw => by
    obtain ⟨u, hu, h1, h2⟩ := h.r2 e he
    rw [← h2, rvn_inj hR (alive_all hk hu) (alive_all hk hv) (h1.trans hw)]
theorem refNow_mem {p : PV} : ∀ (n : Nat) (e : Int × Int), e ∈ refNow p n ↔ ∃ r : Nat, r < n ∧ 0 ≤ untilR p (-1 - (r : Int)) ∧ e = (-1 - (r : Int), (r : Int))
  | 0, e => by
    constructor
    · intro h; cases h
    · rintro ⟨r, h, _⟩; omega
  | n + 1, e => by
    have ih := refNow_mem (p := p) n e
    show e ∈ (if _ then refNow p n ++ [_] else refNow p n) ↔ _
    by_cases hu : 0 ≤ untilR p (-1 - (n : Int))
    · rw [if_pos hu, List.mem_append, ih]
      constructor
      · rintro (⟨r, h1, h2, h3⟩ | h)
        · exact ⟨r, by omega, h2, h3⟩
        · exact ⟨n, by omega, hu, List.mem_singleton.1 h⟩
      · rintro ⟨r, h1, h2, h3⟩
        by_cases e9 : r = n
        · subst e9; exact .inr (List.mem_singleton.2 h3)
        · exact .inl ⟨r, by omega, h2, h3⟩
    · rw [if_neg hu, ih]
      constructor
      · rintro ⟨r, h1, h2, h3⟩; exact ⟨r, by omega, h2, h3⟩
      · rintro ⟨r, h1, h2, h3⟩
        refine ⟨r, ?_, h2, h3⟩
        by_cases e9 : r = n
        · subst e9; exact absurd h2 hu
        · omega
theorem rel_zero {p : PV} (hR : rightP p = true) : Rel p 0 (ref0 p).now (pkTo p 0).s ∧ (ref0 p).regs = (pkTo p 0).regs := by
  obtain ⟨f1, f2, f3, _⟩ := right_facts hR
  obtain ⟨g1, g2, g3⟩ := lay0_said f1
  have hz := vlen_zero p
  have hvm := vlen_mono p (Nat.zero_le p.code.length)
  have hreg := (pk_occ hR 0 (Nat.zero_le _)).2
  have hs0 : (pkTo p 0).s = lay0 p (lifeP p) := rfl
  have hst : ∀ v, Alive p 0 v → stand (pkTo p 0).s v = v := fun v hv => by
    have h1 := hv.1
    have h2 := hv.2
    refine (g3 v ⟨h1.1, ?_⟩).1
    by_cases e : v = p.ins
    · subst e; have := g2 h2; omega
    · rcases g1 with g1 | g1 <;> omega
  have hin : ∀ r : Nat, (r : Int) < p.ins → (0 ≤ untilR p (-1 - (r : Int)) ↔ Alive p 0 (r : Int)) := fun r hr => by
    have := until_ge hR (v := (r : Int)) (by omega) 0
    rw [rvn_in (by omega)] at this
    unfold Alive
    exact ⟨fun h => ⟨by omega, this.1 h⟩, fun h => this.2 h.2⟩
  have hno : 0 ≤ untilR p (-1000) ↔ Alive p 0 p.ins := by
    have := until_ge hR (v := p.ins) (by omega) 0
    rw [rvn_none f1] at this
    unfold Alive
    exact ⟨fun h => ⟨by omega, this.1 h⟩, fun h => this.2 h.2⟩
  have base : ∀ v, Alive p 0 v → v < p.ins → (rvn p v, stand (pkTo p 0).s v) ∈ refNow p p.ins.toNat := fun v hv h => by
    have h0 := hv.1.1
    rw [refNow_mem]
    refine ⟨v.toNat, by omega, ?_, ?_⟩
    · rw [hin v.toNat (by omega), Int.toNat_of_nonneg h0]; exact hv
    · rw [rvn_in ⟨h0, h⟩, hst v hv, Int.toNat_of_nonneg h0]
  have base2 : ∀ e ∈ refNow p p.ins.toNat, ∃ v, Alive p 0 v ∧ rvn p v = e.1 ∧ stand (pkTo p 0).s v = e.2 := fun e he => by
    rw [refNow_mem] at he
    obtain ⟨r, h1, h2, h3⟩ := he
    have ha := (hin r (by omega)).1 h2
    rw [h3]
    exact ⟨(r : Int), ha, rvn_in (by omega), hst _ ha⟩
  unfold ref0
  by_cases hd : 0 ≤ untilR p (-1000)
  · rw [if_pos hd]
    have ha := hno.1 hd
    refine ⟨⟨fun v hv => ?_, fun e he => ?_⟩, ?_⟩
    · show _ ∈ refNow p p.ins.toNat ++ [(-1000, p.ins)]
      by_cases e : v = p.ins
      · subst e
        rw [rvn_none f1, hst _ ha]
        exact List.mem_append.2 (.inr (List.mem_singleton.2 rfl))
      · have := hv.1
        exact List.mem_append.2 (.inl (base v hv (by omega)))
    · rcases List.mem_append.1 (show e ∈ refNow p p.ins.toNat ++ [(-1000, p.ins)] from he) with h | h
      · exact base2 e h
      · rw [List.mem_singleton.1 h]
        exact ⟨p.ins, ha, rvn_none f1, hst _ ha⟩
    · rw [hreg, hs0]
      have := g2 ha.2
      show p.ins + 1 = _
      omega
  · rw [if_neg hd]
    refine ⟨⟨fun v hv => base v hv ?_, base2⟩, ?_⟩
    · have := hv.1
      have : v ≠ p.ins := fun e => by subst e; exact hd (hno.2 hv)
      omega
    · rw [hreg, hs0]
      show p.ins = _
      rcases g1 with g1 | ⟨g1, g4⟩
      · omega
      · exact absurd (hno.2 ⟨by omega, g4⟩) hd
theorem rest_rel {p : PV} (hR : rightP p = true) {k : Nat} (hk : k < p.code.length) {l : List (Int × Int)} {s : Pl} (h : Rel p k l s) :
    (∀ v, Alive p k v → due p v ≠ k → (rvn p v, stand s v) ∈ restR p k l) ∧ (∀ e ∈ restR p k l, ∃ v, Alive p k v ∧ due p v ≠ k ∧ rvn p v = e.1 ∧ stand s v = e.2) := by
  unfold restR
  refine ⟨fun v hv hd => ?_, fun e he => ?_⟩
  · rw [List.mem_filter]
    refine ⟨h.r1 v hv, ?_⟩
    rw [decide_eq_false (fun x => hd ((until_eq hR (alive_all (by omega) hv) k).1 x))]; rfl
  · rw [List.mem_filter] at he
    obtain ⟨v, hv, h1, h2⟩ := h.r2 e he.1
    refine ⟨v, hv, fun hd => ?_, h1, h2⟩
    have := (until_eq hR (alive_all (by omega) hv) k).2 hd
    rw [h1] at this
    rw [decide_eq_true this] at he
    exact absurd he.2 (by decide)
theorem least_ref {p : PV} (hR : rightP p = true) {k : Nat} (hk : k < p.code.length) (hn : nAt p k = true) {l : List (Int × Int)} (h : Rel p k l (pkTo p k).s) : leastR (restR p k l) = least (s2P p k (pkTo p k).s).free := by
  obtain ⟨h1, h2⟩ := rest_rel hR hk h
  have ho := (pk_occ hR k (by omega)).1
  obtain ⟨l1, l2⟩ := left hR hk hn ho
  have hle := least_le (s2P p k (pkTo p k).s).free
  have h2l := s2_len p k (pkTo p k).s
  refine leastR_eq (fun q hq => ?_) ?_
  · have hf : fr (s2P p k (pkTo p k).s) (q : Int) = false := by
      unfold fr
      rw [Int.toNat_natCast, List.getElem?_eq_getElem (by omega)]
      have := List.not_of_lt_findIdx (p := fun b => b) (xs := (s2P p k (pkTo p k).s).free) (i := q) (by unfold least at hq; exact hq)
      simpa using this
    obtain ⟨v, hv, hd, e⟩ := l2 (q : Int) (by omega) hf
    unfold takenR
    rw [List.any_eq_true]
    exact ⟨_, h1 v hv hd, decide_eq_true e⟩
  · cases hx : takenR (restR p k l) ((least (s2P p k (pkTo p k).s).free : Nat) : Int) with
    | false => rfl
    | true =>
      unfold takenR at hx
      rw [List.any_eq_true] at hx
      obtain ⟨e, he, h3⟩ := hx
      rw [decide_eq_true_eq] at h3
      obtain ⟨v, hv, hd, h4, h5⟩ := h2 e he
      obtain ⟨_, s2⟩ := stand_apart hR hk hn hv hd
      exact absurd (h5.trans h3).symm s2
theorem ref_rel {p : PV} (hR : rightP p = true) : ∀ k, k ≤ p.code.length → Rel p k (refTo p k).now (pkTo p k).s ∧ (refTo p k).regs = (pkTo p k).regs ∧ (refTo p k).code = (pkTo p k).code
  | 0, _ => by
    obtain ⟨h1, h2⟩ := rel_zero hR
    refine ⟨h1, h2, ?_⟩
    show (ref0 p).code = []
    unfold ref0
    split <;> rfl
  | k + 1, hk => by
    obtain ⟨h1, h2, h3⟩ := ref_rel hR k (by omega)
    have hkn : k < p.code.length := by omega
    by_cases hn : nAt p k = true
    · have e : refTo p (k + 1) = refStep p (refTo p k) k := if_pos hn
      have hl := least_ref hR hkn hn h1
      obtain ⟨q1, q2⟩ := rest_rel hR hkn h1
      obtain ⟨hA, hB⟩ := alive_due hR hkn hn
      have hm := code_may hR hkn
      obtain ⟨m1, m2, m3, m4, _⟩ := may_facts hm
      rw [e, pk_turned hR hkn hn]
      have hs : ∀ v, stand (giveP (s2P p k (pkTo p k).s) (vlen p k)) v = stand (pkTo p (k + 1)).s v := fun v => by rw [pk_turned hR hkn hn]
      refine ⟨⟨fun v hv => ?_, fun e he => ?_⟩, ?_, ?_⟩
      · show _ ∈ restR p k (refTo p k).now ++ [((k : Int), (leastR (restR p k (refTo p k).now) : Int))]
        rw [hs]
        rcases (alive_yes hR hkn hn).1 hv with e9 | ⟨ha, hd⟩
        · rw [e9, rvn_new hkn hn, stand_yes hR hkn hn, if_pos rfl, hl]
          exact List.mem_append.2 (.inr (List.mem_singleton.2 rfl))
        · rw [(stand_apart hR hkn hn ha hd).1]
          exact List.mem_append.2 (.inl (q1 v ha hd))
      · rcases List.mem_append.1 (show e ∈ restR p k (refTo p k).now ++ [((k : Int), (leastR (restR p k (refTo p k).now) : Int))] from he) with x | x
        · obtain ⟨v, hv, hd, a1, a2⟩ := q2 e x
          exact ⟨v, (alive_yes hR hkn hn).2 (.inr ⟨hv, hd⟩), a1, by rw [hs, (stand_apart hR hkn hn hv hd).1]; exact a2⟩
        · rw [List.mem_singleton.1 x]
          exact ⟨vlen p k, (alive_yes hR hkn hn).2 (.inl rfl), rvn_new hkn hn, by rw [hs, stand_yes hR hkn hn, if_pos rfl, hl]⟩
      · show max (refTo p k).regs ((leastR (restR p k (refTo p k).now) : Int) + 1) = max (pkTo p k).regs _
        rw [h2, hl]
      · show (refTo p k).code ++ [_] = (pkTo p k).code ++ [turned p k]
        rw [h3, hl]
        congr 2
        unfold turned
        have eA : wh (refTo p k).now (heldR p k (cAt p k).a) = stand (pkTo p k).s (dueA p k) := by
          rw [held_ref hR m3 k (by omega)]
          exact h1.at hR (by omega) hA
        rw [eA]
        by_cases h9 : 1 < (asks (cAt p k)).length
        · rw [if_pos h9, if_pos h9, held_ref hR (m4 (two_op h9)) k (by omega)]
          have eB : dueB p k = heldAt p k (cAt p k).b := if_pos h9
          rw [← eB, h1.at hR (by omega) hB]
        · rw [if_neg h9, if_neg h9]
          have hb : (cAt p k).b = 0 := by
            rw [mayOk_iff, if_neg (fun x => h9 ((two_iff _).2 x))] at hm
            exact hm.2.1
          rw [hb]
    · have e : refTo p (k + 1) = refTo p k := if_neg hn
      rw [e, pk_no hn]
      exact ⟨⟨fun v hv => h1.r1 v ((alive_no hR hkn hn).1 hv), fun x hx => by
        obtain ⟨v, hv, h4⟩ := h1.r2 x hx
        exact ⟨v, (alive_no hR hkn hn).2 hv, h4⟩⟩, h2, h3⟩
/-- the document's pass is the program's -/
theorem order_ref {p : PV} (hR : rightP p = true) : refP p = orderP p := by
  obtain ⟨f1, f2, f3, f4, f5, f6, f7, f8⟩ := right_facts hR
  obtain ⟨h1, h2, h3⟩ := ref_rel hR p.code.length (Nat.le_refl _)
  show (⟨p.ins, (refTo p p.code.length).regs, (refTo p p.code.length).code, p.outs.map fun r => wh (refTo p p.code.length).now (heldR p p.code.length r)⟩ : PV) = ⟨p.ins, (pkTo p p.code.length).regs, (pkTo p p.code.length).code, (lifeP p).outs.map (stand (pkTo p p.code.length).s)⟩
  rw [h2, h3]
  congr 1
  unfold lifeP
  rw [out_values p _ (Nat.le_refl _), List.take_length, List.map_map]
  refine List.map_congr_left fun r hr => ?_
  have hin := f7 r hr
  obtain ⟨i, hi, hri⟩ := List.mem_iff_getElem.1 hr
  have hdue := due_out hR hi
  rw [Int.toNat_natCast, List.getElem?_eq_getElem hi, Option.getD_some, hri] at hdue
  rw [held_ref hR hin _ (Nat.le_refl _)]
  exact h1.at hR (Nat.le_refl _) ⟨held_in hR (Nat.le_refl _) hin, by omega⟩
end Go.Proofs.Ytfleehgbpgmcnaa
set_option maxRecDepth 100000
set_option linter.unusedVariables false
namespace Go.Proofs.Ytfleehgbpgmcnaa
open Go Go.Sl
set_option maxHeartbeats 4000000
def PlH (s : Pl) (bm bp : Nat) (a : Option Addr) (c : Nat) (junk : List Value) : Hp :=
  [(0, some bp, .cells #[.map (some bm), .slice a s.free.length c] 114), (1, some bm, mapObj s.at_), (2, a.map (·.block), Row 4 s.free junk)]
theorem c94 (G : Imm) (p : PV) (ac ao : Option Addr) (cc co : Nat) (r : Int) :
    Does Try.prog 94 [.agg #[.int .i64 p.ins, .int .i64 p.regs, .slice ac p.code.length cc, .slice ao p.outs.length co], .int .i64 r] G [] (fun v G' Ho => v = .int .i64 (min r p.ins) ∧ G' = G ∧ Ho = []) := by
  refine Does.enter Try.func94 rfl Try.ntmps94 rfl (fun w => ?_)
  refine Wc.seq ?_
  refine Wc.region rfl ?_
  refine Wl.box 0 rfl rfl rfl (fun b1 => ?_)
  refine Wl.q rfl (Qy.assign rfl) ?_
  refine Wl.done ?_
  refine Ar.next ?_
  refine Wc.seq ?_
  refine Wc.region rfl ?_
  refine Wl.q rfl (Qy.move rfl) ?_
  refine Wl.q rfl (Qy.fieldAddr T.fa25_0 rfl) ?_
  refine Wl.q rfl (Qy.load 0 T.one3 rfl rfl rfl) ?_
  refine Wl.q rfl (Qy.min rfl rfl) ?_
  refine Wl.q rfl (Qy.assign rfl) ?_
  refine Wl.done ?_
  refine Ar.next ?_
  refine Wc.ret ?_
  refine Ar.out1 (.inr rfl) (Ho := Hp.only _ []) rfl (.tmp rfl) (Hp.sub_only _ _) ?_
  refine ⟨?_, rfl, rfl⟩
  congr 1
  split <;> omega
theorem least_at {l : List Bool} {k : Nat} (hk : k < l.length) (h : ∀ j : Nat, j < k → l[j]?.getD default = false) (hb : l[k]?.getD default = true) : least l = k := by
  unfold least
  rw [List.findIdx_eq hk]
  rw [List.getElem?_eq_getElem hk] at hb
  refine ⟨hb, fun j hj => ?_⟩
  have := h j hj
  rw [List.getElem?_eq_getElem (by omega)] at this
  exact this
theorem least_none {l : List Bool} (h : ∀ j : Nat, j < l.length → l[j]?.getD default = false) : least l = l.length := by
  unfold least
  rw [List.findIdx_eq_length]
  intro x hx
  obtain ⟨j, hj, rfl⟩ := List.mem_iff_getElem.1 hx
  have := h j hj
  rw [List.getElem?_eq_getElem hj] at this
  exact this
theorem c74 (G : Imm) (s : Pl) (bm bp : Nat) (a : Option Addr) (c : Nat) (junk : List Value) (v u : Int) (ho : OwnA a c s.free junk) (hl : s.free.length ≤ 1048576) :
    Does Try.prog 74 [.pointer (some ⟨bp, 0, none⟩), .int .i64 v, .int .i64 u] G (PlH s bm bp a c junk) (fun r G' Ho => ∃ a' c' j', r = .tuple #[] ∧ OwnA a' c' (layP s v u).free j' ∧ G' = G ∧ Ho = PlH (layP s v u) bm bp a' c' j') := by
  refine Does.enter Try.func74 rfl Try.ntmps74 rfl (fun w => ?_)
  refine Wc.seq ?_
  refine Wc.draw [2, 1, 0] [(1, 10)] T.mixed rfl ?_
  refine Gm.q 0 [] (by kernel_rfl) rfl rfl (Qy.move rfl) ?_
  refine Gm.q 1 [] (by kernel_rfl) rfl rfl (Qy.nilCheck rfl) ?_
  refine Gm.q 2 [] (by kernel_rfl) rfl rfl (Qy.fieldAddr T.fa114_0 rfl) ?_
  refine Gm.q 3 [0] (by kernel_rfl) rfl rfl (Qy.load 0 T.one112 rfl rfl rfl) ?_
  refine Gm.q 4 [] (by kernel_rfl) rfl rfl (Qy.move rfl) ?_
  refine Gm.q 5 [] (by kernel_rfl) rfl rfl (Qy.move rfl) ?_
  refine Gm.q 6 [] (by kernel_rfl) rfl rfl (Qy.nilCheck rfl) ?_
  refine Gm.q 7 [] (by kernel_rfl) rfl rfl (Qy.fieldAddr T.fa114_1 rfl) ?_
  refine Gm.q 8 [0] (by kernel_rfl) rfl rfl (Qy.load 0 T.one64 rfl rfl rfl) ?_
  refine Gm.q 9 [] (by kernel_rfl) rfl rfl (Qy.len T.sl64 rfl) ?_
  refine Gm.one 10 ⟨rfl, rfl, rfl, trivial⟩ (by first | exact Imm.le_refl _ | assumption | (refine Imm.le_trans ?_ (by assumption); first | assumption | (refine Imm.le_trans ?_ (by assumption); assumption))) (by kernel_rfl) rfl ?_
  refine Wl.mapUpdate 1 T.mp112 rfl rfl rfl rfl ?_
  refine Wl.on0 ?_
  refine Gm.doneA (by kernel_rfl) ⟨rfl, rfl, trivial⟩ (by first | exact Imm.le_refl _ | assumption | (refine Imm.le_trans ?_ (by assumption); first | assumption | (refine Imm.le_trans ?_ (by assumption); assumption))) ?_
  refine Ar.next ?_
  refine Wc.region rfl ?_
  refine Wl.q rfl (Qy.move rfl) ?_
  refine Wl.q rfl (Qy.move rfl) ?_
  refine Wl.q rfl (Qy.nilCheck rfl) ?_
  refine Wl.q rfl (Qy.fieldAddr T.fa114_1 rfl) ?_
  refine Wl.q rfl (Qy.load 0 T.one64 rfl rfl rfl) ?_
  refine Wl.q rfl (Qy.move rfl) ?_
  refine Wl.q rfl (Qy.lss rfl rfl) ?_
  refine Wl.lit (α := Bool) 3 [(Decidable.decide (u < 0))] rfl T.sl64 T.el4 rfl rfl rfl rfl rfl (fun b1 => ?_)
  refine Wl.append (α := Bool) 2 rfl T.sl64 T.el4 rfl rfl rfl (by first | assumption | exact OwnA.nil | exact OwnA.made (by simp)) (Src.row 3 rfl) (by first | omega | (simp only [List.length_append, List.length_cons, List.length_nil, maxLen]; omega)) (by first | omega | (simp only [List.length_append, List.length_cons, List.length_nil, maxLen]; omega)) (fun a1 c1 junk1 ho1 => ?_)
  refine Wl.q rfl (Qy.nilCheck rfl) ?_
  refine Wl.q rfl (Qy.fieldAddr T.fa114_1 rfl) ?_
  refine Wl.store 0 T.one64 rfl rfl rfl rfl rfl ?_
  refine Wl.done ?_
  refine Ar.pick [0, 1, 2] (by decide) (Ar.out0 (.inl rfl) rfl  (Hp.sub_self 0 _) ?_)
  exact ⟨a1, c1, junk1, rfl, ho1, rfl, rfl⟩
theorem give_yes (s : Pl) (v : Int) (h : least s.free < s.free.length) : giveP s v = ⟨mput s.at_ v (least s.free), s.free.set (least s.free) false⟩ := by unfold giveP; rw [if_pos h]
theorem give_no (s : Pl) (v : Int) (h : ¬ least s.free < s.free.length) : giveP s v = ⟨mput s.at_ v (least s.free), s.free ++ [false]⟩ := by unfold giveP; rw [if_neg h]
theorem c75 (G : Imm) (s : Pl) (bm bp : Nat) (a : Option Addr) (c : Nat) (junk : List Value) (v : Int) (ho : OwnA a c s.free junk) (hl : s.free.length ≤ 1048576) (hm : mget s.at_ v = none) :
    Does Try.prog 75 [.pointer (some ⟨bp, 0, none⟩), .int .i64 v] G (PlH s bm bp a c junk) (fun r G' Ho => ∃ a' c' j', r = .int .i64 (least s.free) ∧ OwnA a' c' (giveP s v).free j' ∧ G' = G ∧ Ho = PlH (giveP s v) bm bp a' c' j') := by
  refine Does.enter Try.func75 rfl Try.ntmps75 rfl (fun w => ?_)
  refine Wc.seq ?_
  refine Wc.region rfl ?_
  refine Wl.q rfl (Qy.assign rfl) ?_
  refine Wl.done ?_
  refine Ar.next ?_
  refine Wc.scope ?_
  refine Wc.seq ?_
  refine Wc.label ?_
  refine Ar.next ?_
  refine Wc.seq ?_
  refine Wc.seq ?_
  refine Wc.region rfl ?_
  refine Wl.q rfl (Qy.move rfl) ?_
  refine Wl.q rfl (Qy.nilCheck rfl) ?_
  refine Wl.q rfl (Qy.fieldAddr T.fa114_1 rfl) ?_
  refine Wl.q rfl (Qy.load 0 T.one64 rfl rfl rfl) ?_
  refine Wl.q rfl (Qy.len T.sl64 rfl) ?_
  refine Wl.q rfl (Qy.move rfl) ?_
  refine Wl.done ?_
  refine Ar.next ?_
  refine Wc.block ?_
  refine Wc.loop (ι := Nat) (fun k => ([(12, .int .i64 (k : Int)), (4, .int .i64 0), (11, Go.Value.int Go.IntKind.i64 (↑(List.length (Go.Proofs.Ytfleehgbpgmcnaa.Pl.free s)) : Int)), (10, Go.Value.slice a (List.length (Go.Proofs.Ytfleehgbpgmcnaa.Pl.free s)) c), (0, Go.Value.pointer (Option.some (Go.Addr.mk bp 0 Option.none))), (1, Go.Value.int Go.IntKind.i64 v)], [(0, Option.some bp, Go.Obj.cells #[Go.Value.map (Option.some bm), Go.Value.slice a (List.length (Go.Proofs.Ytfleehgbpgmcnaa.Pl.free s)) c] 114), (1, Option.some bm, Go.Sl.mapObj (κ := Int) (Go.Proofs.Ytfleehgbpgmcnaa.Pl.at_ s)), (2, Option.map (fun x => Go.Addr.block x) a, Go.Sl.Row (α := Bool) 4 (Go.Proofs.Ytfleehgbpgmcnaa.Pl.free s) (junk))])) (fun k => k ≤ s.free.length ∧ ∀ j : Nat, j < k → s.free[j]?.getD default = false) (fun k => s.free.length - k) (0) (⟨Nat.zero_le _, fun j hj => by omega⟩) ⟨rfl, rfl, rfl, rfl, rfl, rfl, trivial⟩ ⟨rfl, rfl, rfl, trivial⟩ (fun k => fun (hk : k ≤ s.free.length ∧ ∀ j : Nat, j < k → s.free[j]?.getD default = false) => ?_)
  obtain ⟨hk1, hk2⟩ := hk
  rcases Nat.lt_or_ge k s.free.length with hlt | hge
  · refine Wc.seq ?_
    refine Wc.region rfl ?_
    refine Wl.q rfl (Qy.lss rfl rfl) ?_
    refine Wl.done ?_
    refine Ar.next ?_
    refine Wc.seq ?_
    refine Wc.condP rfl (by first | assumption | omega) ?_
    refine Wc.skip ?_
    refine Ar.next ?_
    refine Wc.seq ?_
    refine Wc.block ?_
    refine Wc.seq ?_
    refine Wc.region rfl ?_
    refine Wl.q rfl (Qy.move rfl) ?_
    refine Wl.q rfl (Qy.indexAddrO (α := Bool) T.sl64 rfl rfl (by assumption) (by omega)) ?_
    refine Wl.q rfl (Qy.loadO 2 0 T.one4 rfl rfl (by assumption) (by omega) rfl rfl) ?_
    refine Wl.q rfl (Qy.assign rfl) ?_
    refine Wl.q rfl (Qy.assign rfl) ?_
    refine Wl.done ?_
    refine Ar.next ?_
    refine Wc.seq ?_
    refine Wc.seq ?_
    refine Wc.region rfl ?_
    refine Wl.q rfl (Qy.move rfl) ?_
    refine Wl.q rfl (Qy.not rfl) ?_
    refine Wl.done ?_
    refine Ar.next ?_
    refine Wc.ite rfl (fun hc1 => ?_) (fun hc1 => ?_)
    refine Wc.exit ?_
    refine Ar.passExit ?_
    refine Ar.here ?_
    refine Ar.next ?_
    refine Wc.region rfl ?_
    refine Wl.q rfl (Qy.add rfl rfl (by omega)) ?_
    refine Wl.q rfl (Qy.move rfl) ?_
    refine Wl.done ?_
    rotate_left
    refine Wc.skip ?_
    refine Ar.next ?_
    refine Wc.seq ?_
    refine Wc.draw [2, 1, 0] [(0, 15), (2, 15), (1, 13), (1, 11)] T.mixed rfl ?_
    refine Gm.q 0 [] (by kernel_rfl) rfl rfl (Qy.move rfl) ?_
    refine Gm.q 1 [] (by kernel_rfl) rfl rfl (Qy.nilCheck rfl) ?_
    refine Gm.q 2 [] (by kernel_rfl) rfl rfl (Qy.fieldAddr T.fa114_0 rfl) ?_
    refine Gm.q 3 [0] (by kernel_rfl) rfl rfl (Qy.load 0 T.one112 rfl rfl rfl) ?_
    refine Gm.q 4 [] (by kernel_rfl) rfl rfl (Qy.move rfl) ?_
    refine Gm.q 5 [] (by kernel_rfl) rfl rfl (Qy.move rfl) ?_
    refine Gm.q 6 [] (by kernel_rfl) rfl rfl (Qy.nilCheck rfl) ?_
    refine Gm.q 7 [] (by kernel_rfl) rfl rfl (Qy.fieldAddr T.fa114_1 rfl) ?_
    refine Gm.q 8 [0] (by kernel_rfl) rfl rfl (Qy.load 0 T.one64 rfl rfl rfl) ?_
    refine Gm.q 9 [] (by kernel_rfl) rfl rfl (Qy.move rfl) ?_
    refine Gm.q 10 [] (by kernel_rfl) rfl rfl (Qy.move rfl) ?_
    refine Gm.one 11 ⟨rfl, rfl, rfl, trivial⟩ (by first | exact Imm.le_refl _ | assumption | (refine Imm.le_trans ?_ (by assumption); first | assumption | (refine Imm.le_trans ?_ (by assumption); assumption))) (by kernel_rfl) rfl ?_
    refine Wl.mapEntry 1 rfl T.mp112 rfl rfl rfl (by assumption) ?_
    refine Wl.on0 ?_
    refine Gm.q 12 [] (by kernel_rfl) rfl rfl (Qy.extract rfl rfl) ?_
    refine Gm.one 13 ⟨rfl, rfl, trivial⟩ (by first | exact Imm.le_refl _ | assumption | (refine Imm.le_trans ?_ (by assumption); first | assumption | (refine Imm.le_trans ?_ (by assumption); assumption))) (by kernel_rfl) rfl ?_
    refine Wl.entryStore 1 rfl rfl rfl rfl ?_
    refine Wl.on0 ?_
    refine Gm.q 14 [] (by kernel_rfl) rfl rfl (Qy.indexAddrO (α := Bool) T.sl64 rfl rfl (by assumption) (by omega)) ?_
    refine Gm.one 15 ⟨rfl, rfl, trivial⟩ (by first | exact Imm.le_refl _ | assumption | (refine Imm.le_trans ?_ (by assumption); first | assumption | (refine Imm.le_trans ?_ (by assumption); assumption))) (by kernel_rfl) rfl ?_
    refine Wl.setO (z := _) 2 T.size4 rfl rfl rfl (by assumption) (by omega) rfl (fun ho1 => ?_)
    refine Wl.on0 ?_
    refine Gm.doneA (by kernel_rfl) trivial (by first | exact Imm.le_refl _ | assumption | (refine Imm.le_trans ?_ (by assumption); first | assumption | (refine Imm.le_trans ?_ (by assumption); assumption))) ?_
    refine Ar.next ?_
    refine Wc.seq ?_
    refine Wc.region rfl ?_
    refine Wl.q rfl (Qy.move rfl) ?_
    refine Wl.q rfl (Qy.assign rfl) ?_
    refine Wl.done ?_
    refine Ar.next ?_
    refine Wc.ret ?_
    refine Ar.outRet ?_
    refine Ar.passRet ?_
    refine Ar.passRet ?_
    refine Ar.outRet ?_
    refine Ar.passRet ?_
    refine Ar.scopeR ?_
    refine Ar.pick [0, 1, 2] (by decide) (Ar.out1 (.inr rfl) rfl (.tmp rfl) (Hp.sub_self 0 _) ?_)
    rotate_left
    · refine Ar.again (k + 1) ?_ ?_ rfl ⟨rfl, rfl, rfl, rfl, rfl, rfl, trivial⟩ ⟨rfl, rfl, rfl, trivial⟩
      · refine ⟨hlt, fun j hj => ?_⟩
        by_cases hjk : j = k
        · subst hjk
          rw [Int.toNat_natCast] at hc1
          simpa using hc1
        · exact hk2 j (by omega)
      · show s.free.length - (k + 1) < s.free.length - k
        omega
    · rw [Int.toNat_natCast] at hc1
      have hle : least s.free = k := least_at hlt hk2 (by simpa using hc1)
      have hg := give_yes s v (by rw [hle]; exact hlt)
      rw [hle] at hg
      rw [Int.toNat_natCast] at ho1
      refine ⟨a, c, junk, by rw [hle], by rw [hg]; exact ho1, rfl, ?_⟩
      rw [hg, mput_none _ _ _ hm, Int.toNat_natCast]
      show _ = [(0, some bp, .cells #[.map (some bm), .slice a (s.free.set k false).length c] 114), (1, some bm, mapObj (s.at_ ++ [(v, (k : Int))])), (2, a.map (·.block), Row 4 (s.free.set k false) junk)]
      rw [List.length_set]
      rfl
  · refine Wc.seq ?_
    refine Wc.region rfl ?_
    refine Wl.q rfl (Qy.lss rfl rfl) ?_
    refine Wl.done ?_
    refine Ar.next ?_
    refine Wc.seq ?_
    refine Wc.condN rfl (by first | assumption | omega) ?_
    refine Wc.exit ?_
    refine Ar.passExit ?_
    refine Ar.passExit ?_
    refine Ar.here ?_
    refine Ar.next ?_
    refine Wc.seq ?_
    refine Wc.draw [2, 1, 0] [(1, 10)] T.mixed rfl ?_
    refine Gm.q 0 [] (by kernel_rfl) rfl rfl (Qy.move rfl) ?_
    refine Gm.q 1 [] (by kernel_rfl) rfl rfl (Qy.nilCheck rfl) ?_
    refine Gm.q 2 [] (by kernel_rfl) rfl rfl (Qy.fieldAddr T.fa114_0 rfl) ?_
    refine Gm.q 3 [0] (by kernel_rfl) rfl rfl (Qy.load 0 T.one112 rfl rfl rfl) ?_
    refine Gm.q 4 [] (by kernel_rfl) rfl rfl (Qy.move rfl) ?_
    refine Gm.q 5 [] (by kernel_rfl) rfl rfl (Qy.move rfl) ?_
    refine Gm.q 6 [] (by kernel_rfl) rfl rfl (Qy.nilCheck rfl) ?_
    refine Gm.q 7 [] (by kernel_rfl) rfl rfl (Qy.fieldAddr T.fa114_1 rfl) ?_
    refine Gm.q 8 [0] (by kernel_rfl) rfl rfl (Qy.load 0 T.one64 rfl rfl rfl) ?_
    refine Gm.q 9 [] (by kernel_rfl) rfl rfl (Qy.len T.sl64 rfl) ?_
    refine Gm.one 10 ⟨rfl, rfl, rfl, trivial⟩ (by first | exact Imm.le_refl _ | assumption | (refine Imm.le_trans ?_ (by assumption); first | assumption | (refine Imm.le_trans ?_ (by assumption); assumption))) (by kernel_rfl) rfl ?_
    refine Wl.mapUpdate 1 T.mp112 rfl rfl rfl rfl ?_
    refine Wl.on0 ?_
    refine Gm.doneA (by kernel_rfl) ⟨rfl, rfl, trivial⟩ (by first | exact Imm.le_refl _ | assumption | (refine Imm.le_trans ?_ (by assumption); first | assumption | (refine Imm.le_trans ?_ (by assumption); assumption))) ?_
    refine Ar.next ?_
    refine Wc.seq ?_
    refine Wc.region rfl ?_
    refine Wl.q rfl (Qy.move rfl) ?_
    refine Wl.q rfl (Qy.move rfl) ?_
    refine Wl.q rfl (Qy.nilCheck rfl) ?_
    refine Wl.q rfl (Qy.fieldAddr T.fa114_1 rfl) ?_
    refine Wl.q rfl (Qy.load 0 T.one64 rfl rfl rfl) ?_
    refine Wl.lit (α := Bool) 3 [(Bool.false)] rfl T.sl64 T.el4 rfl rfl rfl rfl rfl (fun b1 => ?_)
    refine Wl.append (α := Bool) 2 rfl T.sl64 T.el4 rfl rfl rfl (by first | assumption | exact OwnA.nil | exact OwnA.made (by simp)) (Src.row 3 rfl) (by first | omega | (simp only [List.length_append, List.length_cons, List.length_nil, maxLen]; omega)) (by first | omega | (simp only [List.length_append, List.length_cons, List.length_nil, maxLen]; omega)) (fun a1 c1 junk1 ho1 => ?_)
    refine Wl.q rfl (Qy.nilCheck rfl) ?_
    refine Wl.q rfl (Qy.fieldAddr T.fa114_1 rfl) ?_
    refine Wl.store 0 T.one64 rfl rfl rfl rfl rfl ?_
    refine Wl.done ?_
    refine Ar.next ?_
    refine Wc.seq ?_
    refine Wc.region rfl ?_
    refine Wl.q rfl (Qy.move rfl) ?_
    refine Wl.q rfl (Qy.nilCheck rfl) ?_
    refine Wl.q rfl (Qy.fieldAddr T.fa114_1 rfl) ?_
    refine Wl.q rfl (Qy.load 0 T.one64 rfl rfl rfl) ?_
    refine Wl.q rfl (Qy.len T.sl64 rfl) ?_
    refine Wl.q rfl (Qy.subW rfl rfl) ?_
    refine Wl.q rfl (Qy.assign rfl) ?_
    refine Wl.done ?_
    refine Ar.next ?_
    refine Wc.ret ?_
    refine Ar.scopeR ?_
    refine Ar.pick [0, 1, 2] (by decide) (Ar.out1 (.inr rfl) rfl (.tmp rfl) (Hp.sub_self 0 _) ?_)
    have hke : k = s.free.length := by omega
    have hle : least s.free = s.free.length := least_none (fun j hj => hk2 j (by omega))
    have hg := give_no s v (by rw [hle]; omega)
    refine ⟨a1, c1, junk1, ?_, by rw [hg]; exact ho1, rfl, ?_⟩
    · rw [hle, List.length_append]
      show Value.int .i64 (IntKind.i64.wrap (((s.free.length + 1 : Nat) : Int) - 1)) = _
      rw [show (((s.free.length + 1 : Nat) : Int) - 1) = s.free.length by omega]
      rw [IntWalk.i64_in _ (by omega)]
    · rw [hg, hle]
      rfl
end Go.Proofs.Ytfleehgbpgmcnaa
set_option maxRecDepth 100000
set_option linter.unusedVariables false
namespace Go.Proofs.Ytfleehgbpgmcnaa
open Go Go.Sl
set_option maxHeartbeats 4000000
theorem held_eq {xs ys : List Int} (h : xs.length = ys.length) (he : ∀ i : Nat, i < xs.length → xs[i]?.getD default = ys[i]?.getD default) : xs = ys := by
  refine List.ext_getElem h fun i h1 h2 => ?_
  have := he i h1
  rw [List.getElem?_eq_getElem h1, List.getElem?_eq_getElem h2] at this
  exact this
theorem own_set {a : Option Addr} {c : Nat} {xs : List Int} {junk : List Value} (h : OwnA a c xs junk) (n : Nat) (x : Int) : OwnA a c (xs.set n x) junk := by
  rcases h with ⟨h1, h2, h3, h4⟩ | ⟨b, h1, h2, h3, h4⟩
  · exact .inl ⟨h1, by rw [h2]; rfl, h3, h4⟩
  · exact .inr ⟨b, h1, by rw [List.length_set]; exact h2, by rw [List.length_set]; exact h3, h4⟩
theorem outTo_held (p : PV) : ∀ j, (outTo p j).held = (lifeTo p p.code.length).held
  | 0 => rfl
  | j + 1 => outTo_held p j
theorem outTo_same (p : PV) : ∀ j, (outTo p j).a = (lifeTo p p.code.length).a ∧ (outTo p j).b = (lifeTo p p.code.length).b ∧ (outTo p j).sets = (lifeTo p p.code.length).sets
  | 0 => ⟨rfl, rfl, rfl⟩
  | j + 1 => outTo_same p j
def LifeH (p : PV) (l : Life) (ac ao : Option Addr) (cc co u : Nat) (nb : Option Addr) (nc : Nat) (nj : List Value) (x y z n : Nat) (oo : Option Addr) (od : Nat) (oj : List Value) (o : Option Addr) (d : Nat) (j : List Value) : Hp :=
  [(0, some u, .cells #[.int .i64 p.ins, .int .i64 p.regs, .slice ac p.code.length cc, .slice ao p.outs.length co, .slice nb (neededP p).length nc, .slice (some ⟨x, 0, none⟩) l.a.length n, .slice (some ⟨y, 0, none⟩) l.b.length n, .slice (some ⟨z, 0, none⟩) l.sets.length n, .slice oo l.outs.length od, .slice o l.till.length d] 117),
   (1, nb.map (·.block), Row 4 (neededP p) nj), (2, some x, Row 3 l.a []), (3, some y, Row 3 l.b []), (4, some z, Row 3 l.sets []), (5, oo.map (·.block), Row 3 l.outs oj), (6, o.map (·.block), Row 3 l.till j)]
theorem set_back_i {l : List Int} {k : Nat} {x : Int} (h : k < l.length) : (l.set ((k : Nat) : Int).toNat x)[((k : Nat) : Int).toNat]?.getD default = x := by
  rw [Int.toNat_natCast, List.getElem?_set_self h]; rfl
theorem c73 (G : Imm) (p : PV) (ac ao : Option Addr) (cc co : Nat) (hc : Arr G ac p.code) (ho : Arr G ao p.outs) (h1 : p.code.length ≤ 1099511627776) (h2 : p.outs.length ≤ 1099511627776) (hR : rightP p = true) :
    Does Try.prog 73 [.agg #[.int .i64 p.ins, .int .i64 p.regs, .slice ac p.code.length cc, .slice ao p.outs.length co]] G [] (fun v G' Ho => ∃ u nb nc nj x y z n oo od oj o d j, v = .tuple #[.pointer (some ⟨u, 0, none⟩), .int .i64 0] ∧ OwnA nb nc (neededP p) nj ∧ OwnA (some ⟨x, 0, none⟩) n (lifeP p).a [] ∧ OwnA (some ⟨y, 0, none⟩) n (lifeP p).b [] ∧ OwnA (some ⟨z, 0, none⟩) n (lifeP p).sets [] ∧ OwnA oo od (lifeP p).outs oj ∧ OwnA o d (lifeP p).till j ∧
      Ho = LifeH p (lifeP p) ac ao cc co u nb nc nj x y z n oo od oj o d j ∧ G' = G) := by
  obtain ⟨r1, r2, r3, r4, r5, r6, r7, r8⟩ := right_facts hR
  refine Does.enter Try.func73 rfl Try.ntmps73 rfl (fun w => ?_)
  refine Wc.seq ?_
  refine Wc.region rfl ?_
  refine Wl.box 0 rfl rfl rfl (fun b1 => ?_)
  refine Wl.q rfl (Qy.assign rfl) ?_
  refine Wl.q rfl (Qy.assign rfl) ?_
  refine Wl.done ?_
  refine Ar.next ?_
  refine Wc.seq ?_
  refine Wc.region rfl ?_
  refine Wl.q rfl (Qy.loadAll 0 T.agg25 rfl rfl rfl) ?_
  refine Wl.call 1 rfl T.fn44 rfl (c44 _ _ _ _ _ _ (by assumption) (by assumption) (by omega) (by omega) hR) (tags_of trivial) (fun v1 G1 Ho1 hle1 hp => ?_)
  obtain ⟨nb1, nc1, nj1, rfl, hon1, rfl, rfl⟩ := hp
  refine Wl.q rfl (Qy.move rfl) ?_
  refine Wl.q rfl (Qy.extract rfl rfl) ?_
  refine Wl.q rfl (Qy.extract rfl rfl) ?_
  refine Wl.q rfl (Qy.assign rfl) ?_
  refine Wl.q rfl (Qy.assign rfl) ?_
  refine Wl.done ?_
  refine Ar.next ?_
  refine Wc.seq ?_
  refine Wc.seq ?_
  refine Wc.region rfl ?_
  refine Wl.q rfl (Qy.move rfl) ?_
  refine Wl.q rfl (Qy.neq rfl rfl) ?_
  refine Wl.done ?_
  refine Ar.next ?_
  refine Wc.condN rfl (by first | assumption | omega) ?_
  refine Wc.skip ?_
  refine Ar.next ?_
  refine Wc.seq ?_
  refine Wc.region rfl ?_
  refine Wl.q rfl (Qy.fieldAddr T.fa25_2 rfl) ?_
  refine Wl.q rfl (Qy.load 0 T.one22 rfl rfl rfl) ?_
  refine Wl.q rfl (Qy.len T.sl22 rfl) ?_
  refine Wl.q rfl (Qy.assign rfl) ?_
  refine Wl.done ?_
  refine Ar.next ?_
  refine Wc.meet (ι := Nat × Nat × Nat × Nat) (fun (x, y, z, u) => ([(7, .pointer (some ⟨u, 0, none⟩)), (6, Go.Value.int Go.IntKind.i64 (↑(List.length (Go.Proofs.Ytfleehgbpgmcnaa.PV.code p)) : Int)), (4, Go.Value.slice nb1 (List.length (Go.Proofs.Ytfleehgbpgmcnaa.neededP p)) nc1), (3, Go.Value.int Go.IntKind.i64 0), (2, Go.Value.pointer Option.none), (1, Go.Value.pointer (Option.some (Go.Addr.mk b1 0 Option.none)))], [(60, some x, Row 3 (List.replicate p.code.length (0 : Int)) []), (61, some y, Row 3 (List.replicate p.code.length (0 : Int)) []), (62, some z, Row 3 (List.replicate p.code.length (0 : Int)) []), (63, some u, .cells #[.int .i64 p.ins, .int .i64 p.regs, .slice ac p.code.length cc, .slice ao p.outs.length co, .slice nb1 (neededP p).length nc1, .slice (some ⟨x, 0, none⟩) (List.replicate p.code.length (0 : Int)).length (List.replicate p.code.length (0 : Int)).length, .slice (some ⟨y, 0, none⟩) (List.replicate p.code.length (0 : Int)).length (List.replicate p.code.length (0 : Int)).length, .slice (some ⟨z, 0, none⟩) (List.replicate p.code.length (0 : Int)).length (List.replicate p.code.length (0 : Int)).length, .slice none 0 0, .slice none 0 0] 117), (1, Option.map (fun x => Go.Addr.block x) nb1, Go.Sl.Row (α := Bool) 4 (Go.Proofs.Ytfleehgbpgmcnaa.neededP p) (nj1)), (0, Option.some b1, Go.Obj.cells #[Go.Value.int Go.IntKind.i64 (Go.Proofs.Ytfleehgbpgmcnaa.PV.ins p), Go.Value.int Go.IntKind.i64 (Go.Proofs.Ytfleehgbpgmcnaa.PV.regs p), Go.Value.slice ac (List.length (Go.Proofs.Ytfleehgbpgmcnaa.PV.code p)) cc, Go.Value.slice ao (List.length (Go.Proofs.Ytfleehgbpgmcnaa.PV.outs p)) co] 25)])) (fun (x, y, z, u) => True) ?_ (fun ⟨x, y, z, u⟩ => fun (hk : True) => ?_)
  · refine Wc.draw [0, 1] [] T.mixed rfl ?_
    refine Gm.q 0 [0] (by kernel_rfl) rfl rfl (Qy.loadAll 0 T.agg25 rfl rfl rfl) ?_
    refine Gm.q 1 [] (by kernel_rfl) rfl rfl (Qy.move rfl) ?_
    refine Gm.q 2 [] (by kernel_rfl) rfl rfl (Qy.move rfl) ?_
    refine Gm.q 4 [] (by kernel_rfl) rfl rfl (Qy.move rfl) ?_
    refine Gm.q 6 [] (by kernel_rfl) rfl rfl (Qy.move rfl) ?_
    refine Gm.three 3 5 7 ⟨rfl, rfl, trivial⟩ (by first | exact Imm.le_refl _ | assumption | (refine Imm.le_trans ?_ (by assumption); first | assumption | (refine Imm.le_trans ?_ (by assumption); assumption))) (by kernel_rfl) rfl rfl rfl ?_ ?_ ?_
    refine Wl.make (α := Int) 2 rfl T.sl23 T.el3 rfl rfl (by omega) (by omega) (fun b2 => ?_)
    refine Wl.on0 ?_
    refine Gm.two 5 7 ⟨rfl, rfl, trivial⟩ (by first | exact Imm.le_refl _ | assumption | (refine Imm.le_trans ?_ (by assumption); first | assumption | (refine Imm.le_trans ?_ (by assumption); assumption))) (by kernel_rfl) rfl rfl ?_ ?_
    refine Wl.make (α := Int) 3 rfl T.sl23 T.el3 rfl rfl (by omega) (by omega) (fun b3 => ?_)
    refine Wl.on0 ?_
    refine Gm.one 7 ⟨rfl, rfl, trivial⟩ (by first | exact Imm.le_refl _ | assumption | (refine Imm.le_trans ?_ (by assumption); first | assumption | (refine Imm.le_trans ?_ (by assumption); assumption))) (by kernel_rfl) rfl ?_
    refine Wl.make (α := Int) 4 rfl T.sl23 T.el3 rfl rfl (by omega) (by omega) (fun b4 => ?_)
    refine Wl.on0 ?_
    refine Gm.q 8 [] (by kernel_rfl) rfl rfl (Qy.build (cs := [_, _, _, _, _, _, _, _, _, _]) T.st117 rfl rfl rfl) ?_
    refine Gm.one 9 ⟨rfl, rfl, trivial⟩ (by first | exact Imm.le_refl _ | assumption | (refine Imm.le_trans ?_ (by assumption); first | assumption | (refine Imm.le_trans ?_ (by assumption); assumption))) (by kernel_rfl) rfl ?_
    refine Wl.box 5 rfl rfl rfl (fun b5 => ?_)
    refine Wl.on0 ?_
    refine Gm.q 10 [] (by kernel_rfl) rfl rfl (Qy.assign rfl) ?_
    refine Gm.doneA (by kernel_rfl) ⟨rfl, rfl, trivial⟩ (by first | exact Imm.le_refl _ | assumption | (refine Imm.le_trans ?_ (by assumption); first | assumption | (refine Imm.le_trans ?_ (by assumption); assumption))) ?_
    rotate_left
    refine Wl.make (α := Int) 3 rfl T.sl23 T.el3 rfl rfl (by omega) (by omega) (fun b3 => ?_)
    refine Wl.on0 ?_
    refine Gm.one 5 ⟨rfl, rfl, trivial⟩ (by first | exact Imm.le_refl _ | assumption | (refine Imm.le_trans ?_ (by assumption); first | assumption | (refine Imm.le_trans ?_ (by assumption); assumption))) (by kernel_rfl) rfl ?_
    refine Wl.make (α := Int) 4 rfl T.sl23 T.el3 rfl rfl (by omega) (by omega) (fun b4 => ?_)
    refine Wl.on0 ?_
    refine Gm.q 8 [] (by kernel_rfl) rfl rfl (Qy.build (cs := [_, _, _, _, _, _, _, _, _, _]) T.st117 rfl rfl rfl) ?_
    refine Gm.one 9 ⟨rfl, rfl, trivial⟩ (by first | exact Imm.le_refl _ | assumption | (refine Imm.le_trans ?_ (by assumption); first | assumption | (refine Imm.le_trans ?_ (by assumption); assumption))) (by kernel_rfl) rfl ?_
    refine Wl.box 5 rfl rfl rfl (fun b5 => ?_)
    refine Wl.on0 ?_
    refine Gm.q 10 [] (by kernel_rfl) rfl rfl (Qy.assign rfl) ?_
    refine Gm.doneA (by kernel_rfl) ⟨rfl, rfl, trivial⟩ (by first | exact Imm.le_refl _ | assumption | (refine Imm.le_trans ?_ (by assumption); first | assumption | (refine Imm.le_trans ?_ (by assumption); assumption))) ?_
    rotate_left
    refine Wl.make (α := Int) 2 rfl T.sl23 T.el3 rfl rfl (by omega) (by omega) (fun b2 => ?_)
    refine Wl.on0 ?_
    refine Gm.two 3 7 ⟨rfl, rfl, trivial⟩ (by first | exact Imm.le_refl _ | assumption | (refine Imm.le_trans ?_ (by assumption); first | assumption | (refine Imm.le_trans ?_ (by assumption); assumption))) (by kernel_rfl) rfl rfl ?_ ?_
    refine Wl.make (α := Int) 3 rfl T.sl23 T.el3 rfl rfl (by omega) (by omega) (fun b3 => ?_)
    refine Wl.on0 ?_
    refine Gm.one 7 ⟨rfl, rfl, trivial⟩ (by first | exact Imm.le_refl _ | assumption | (refine Imm.le_trans ?_ (by assumption); first | assumption | (refine Imm.le_trans ?_ (by assumption); assumption))) (by kernel_rfl) rfl ?_
    refine Wl.make (α := Int) 4 rfl T.sl23 T.el3 rfl rfl (by omega) (by omega) (fun b4 => ?_)
    refine Wl.on0 ?_
    refine Gm.q 8 [] (by kernel_rfl) rfl rfl (Qy.build (cs := [_, _, _, _, _, _, _, _, _, _]) T.st117 rfl rfl rfl) ?_
    refine Gm.one 9 ⟨rfl, rfl, trivial⟩ (by first | exact Imm.le_refl _ | assumption | (refine Imm.le_trans ?_ (by assumption); first | assumption | (refine Imm.le_trans ?_ (by assumption); assumption))) (by kernel_rfl) rfl ?_
    refine Wl.box 5 rfl rfl rfl (fun b5 => ?_)
    refine Wl.on0 ?_
    refine Gm.q 10 [] (by kernel_rfl) rfl rfl (Qy.assign rfl) ?_
    refine Gm.doneA (by kernel_rfl) ⟨rfl, rfl, trivial⟩ (by first | exact Imm.le_refl _ | assumption | (refine Imm.le_trans ?_ (by assumption); first | assumption | (refine Imm.le_trans ?_ (by assumption); assumption))) ?_
    rotate_left
    refine Wl.make (α := Int) 3 rfl T.sl23 T.el3 rfl rfl (by omega) (by omega) (fun b3 => ?_)
    refine Wl.on0 ?_
    refine Gm.one 3 ⟨rfl, rfl, trivial⟩ (by first | exact Imm.le_refl _ | assumption | (refine Imm.le_trans ?_ (by assumption); first | assumption | (refine Imm.le_trans ?_ (by assumption); assumption))) (by kernel_rfl) rfl ?_
    refine Wl.make (α := Int) 4 rfl T.sl23 T.el3 rfl rfl (by omega) (by omega) (fun b4 => ?_)
    refine Wl.on0 ?_
    refine Gm.q 8 [] (by kernel_rfl) rfl rfl (Qy.build (cs := [_, _, _, _, _, _, _, _, _, _]) T.st117 rfl rfl rfl) ?_
    refine Gm.one 9 ⟨rfl, rfl, trivial⟩ (by first | exact Imm.le_refl _ | assumption | (refine Imm.le_trans ?_ (by assumption); first | assumption | (refine Imm.le_trans ?_ (by assumption); assumption))) (by kernel_rfl) rfl ?_
    refine Wl.box 5 rfl rfl rfl (fun b5 => ?_)
    refine Wl.on0 ?_
    refine Gm.q 10 [] (by kernel_rfl) rfl rfl (Qy.assign rfl) ?_
    refine Gm.doneA (by kernel_rfl) ⟨rfl, rfl, trivial⟩ (by first | exact Imm.le_refl _ | assumption | (refine Imm.le_trans ?_ (by assumption); first | assumption | (refine Imm.le_trans ?_ (by assumption); assumption))) ?_
    rotate_left
    refine Wl.make (α := Int) 2 rfl T.sl23 T.el3 rfl rfl (by omega) (by omega) (fun b2 => ?_)
    refine Wl.on0 ?_
    refine Gm.two 3 5 ⟨rfl, rfl, trivial⟩ (by first | exact Imm.le_refl _ | assumption | (refine Imm.le_trans ?_ (by assumption); first | assumption | (refine Imm.le_trans ?_ (by assumption); assumption))) (by kernel_rfl) rfl rfl ?_ ?_
    refine Wl.make (α := Int) 3 rfl T.sl23 T.el3 rfl rfl (by omega) (by omega) (fun b3 => ?_)
    refine Wl.on0 ?_
    refine Gm.one 5 ⟨rfl, rfl, trivial⟩ (by first | exact Imm.le_refl _ | assumption | (refine Imm.le_trans ?_ (by assumption); first | assumption | (refine Imm.le_trans ?_ (by assumption); assumption))) (by kernel_rfl) rfl ?_
    refine Wl.make (α := Int) 4 rfl T.sl23 T.el3 rfl rfl (by omega) (by omega) (fun b4 => ?_)
    refine Wl.on0 ?_
    refine Gm.q 8 [] (by kernel_rfl) rfl rfl (Qy.build (cs := [_, _, _, _, _, _, _, _, _, _]) T.st117 rfl rfl rfl) ?_
    refine Gm.one 9 ⟨rfl, rfl, trivial⟩ (by first | exact Imm.le_refl _ | assumption | (refine Imm.le_trans ?_ (by assumption); first | assumption | (refine Imm.le_trans ?_ (by assumption); assumption))) (by kernel_rfl) rfl ?_
    refine Wl.box 5 rfl rfl rfl (fun b5 => ?_)
    refine Wl.on0 ?_
    refine Gm.q 10 [] (by kernel_rfl) rfl rfl (Qy.assign rfl) ?_
    refine Gm.doneA (by kernel_rfl) ⟨rfl, rfl, trivial⟩ (by first | exact Imm.le_refl _ | assumption | (refine Imm.le_trans ?_ (by assumption); first | assumption | (refine Imm.le_trans ?_ (by assumption); assumption))) ?_
    rotate_left
    refine Wl.make (α := Int) 3 rfl T.sl23 T.el3 rfl rfl (by omega) (by omega) (fun b3 => ?_)
    refine Wl.on0 ?_
    refine Gm.one 3 ⟨rfl, rfl, trivial⟩ (by first | exact Imm.le_refl _ | assumption | (refine Imm.le_trans ?_ (by assumption); first | assumption | (refine Imm.le_trans ?_ (by assumption); assumption))) (by kernel_rfl) rfl ?_
    refine Wl.make (α := Int) 4 rfl T.sl23 T.el3 rfl rfl (by omega) (by omega) (fun b4 => ?_)
    refine Wl.on0 ?_
    refine Gm.q 8 [] (by kernel_rfl) rfl rfl (Qy.build (cs := [_, _, _, _, _, _, _, _, _, _]) T.st117 rfl rfl rfl) ?_
    refine Gm.one 9 ⟨rfl, rfl, trivial⟩ (by first | exact Imm.le_refl _ | assumption | (refine Imm.le_trans ?_ (by assumption); first | assumption | (refine Imm.le_trans ?_ (by assumption); assumption))) (by kernel_rfl) rfl ?_
    refine Wl.box 5 rfl rfl rfl (fun b5 => ?_)
    refine Wl.on0 ?_
    refine Gm.q 10 [] (by kernel_rfl) rfl rfl (Qy.assign rfl) ?_
    refine Gm.doneA (by kernel_rfl) ⟨rfl, rfl, trivial⟩ (by first | exact Imm.le_refl _ | assumption | (refine Imm.le_trans ?_ (by assumption); first | assumption | (refine Imm.le_trans ?_ (by assumption); assumption))) ?_
    rotate_left
    all_goals first | (refine Ar.retag 2 60 rfl rfl (Ar.retag 3 61 rfl rfl (Ar.retag 4 62 rfl rfl (Ar.retag 5 63 rfl rfl (Ar.meet (b2, b3, b4, b5) trivial rfl ?_ ?_)))) <;> (repeat (first | exact trivial | refine ⟨rfl, ?_⟩)); done) | (refine Ar.retag 2 60 rfl rfl (Ar.retag 4 61 rfl rfl (Ar.retag 3 62 rfl rfl (Ar.retag 5 63 rfl rfl (Ar.meet (b2, b4, b3, b5) trivial rfl ?_ ?_)))) <;> (repeat (first | exact trivial | refine ⟨rfl, ?_⟩)); done) | (refine Ar.retag 3 60 rfl rfl (Ar.retag 2 61 rfl rfl (Ar.retag 4 62 rfl rfl (Ar.retag 5 63 rfl rfl (Ar.meet (b3, b2, b4, b5) trivial rfl ?_ ?_)))) <;> (repeat (first | exact trivial | refine ⟨rfl, ?_⟩)); done) | (refine Ar.retag 3 60 rfl rfl (Ar.retag 4 61 rfl rfl (Ar.retag 2 62 rfl rfl (Ar.retag 5 63 rfl rfl (Ar.meet (b3, b4, b2, b5) trivial rfl ?_ ?_)))) <;> (repeat (first | exact trivial | refine ⟨rfl, ?_⟩)); done) | (refine Ar.retag 4 60 rfl rfl (Ar.retag 2 61 rfl rfl (Ar.retag 3 62 rfl rfl (Ar.retag 5 63 rfl rfl (Ar.meet (b4, b2, b3, b5) trivial rfl ?_ ?_)))) <;> (repeat (first | exact trivial | refine ⟨rfl, ?_⟩)); done) | (refine Ar.retag 4 60 rfl rfl (Ar.retag 3 61 rfl rfl (Ar.retag 2 62 rfl rfl (Ar.retag 5 63 rfl rfl (Ar.meet (b4, b3, b2, b5) trivial rfl ?_ ?_)))) <;> (repeat (first | exact trivial | refine ⟨rfl, ?_⟩)); done)
  · clear hk
    refine Wc.seq ?_
    refine Wc.region rfl ?_
    refine Wl.q rfl (Qy.fieldAddr T.fa25_1 rfl) ?_
    refine Wl.q rfl (Qy.load 0 T.one3 rfl rfl rfl) ?_
    refine Wl.make (α := Int) 64 rfl T.sl23 T.el3 rfl rfl (by omega) (by omega) (fun b2 => ?_)
    refine Wl.q rfl (Qy.assign rfl) ?_
    refine Wl.done ?_
    refine Ar.next ?_
    refine Wc.seq ?_
    refine Wc.seq ?_
    refine Wc.region rfl ?_
    refine Wl.q rfl (Qy.move rfl) ?_
    refine Wl.q rfl (Qy.len T.sl23 rfl) ?_
    refine Wl.q rfl (Qy.move rfl) ?_
    refine Wl.done ?_
    refine Ar.next ?_
    refine Wc.block ?_
    obtain ⟨Z, hZ⟩ : ∃ Z, Z = List.replicate p.code.length (0 : Int) := ⟨_, rfl⟩
    have hZl : Z.length = p.code.length := by rw [hZ, List.length_replicate]
    have hno : ∀ b : Nat, OwnA (some ⟨b, 0, none⟩) Z.length Z [] := fun b => OwnA.made (by simp only [maxLen]; omega)
    obtain ⟨R, hRn⟩ : ∃ R : Nat, p.regs = (R : Int) := ⟨p.regs.toNat, by omega⟩
    have hRt : p.regs.toNat = R := by omega
    rw [← hZ]
    rw [hRt]
    have hown : ∀ h : List Int, h.length = R → OwnA (some ⟨b2, 0, none⟩) R h [] := fun h hh => .inr ⟨b2, rfl, by rw [hh]; rfl, by omega, by simp only [maxLen]; omega⟩
    refine Wc.re 8 rfl (show _ = Value.slice (some ⟨b2, 0, none⟩) (List.replicate R (default : Int)).length R by rw [List.length_replicate]) ?_
    refine Wc.re 39 rfl (show _ = Value.int .i64 (R : Int) by rw [List.length_replicate]) ?_
    refine Wc.loop (ι := Nat × List Int) (fun (k, h) => ([(40, .int .i64 (k : Int)), (8, .slice (some ⟨b2, 0, none⟩) h.length R), (39, Go.Value.int Go.IntKind.i64 (↑R : Int)), (7, Go.Value.pointer (Option.some (Go.Addr.mk u 0 Option.none))), (6, Go.Value.int Go.IntKind.i64 (↑(List.length (Go.Proofs.Ytfleehgbpgmcnaa.PV.code p)) : Int)), (4, Go.Value.slice nb1 (List.length (Go.Proofs.Ytfleehgbpgmcnaa.neededP p)) nc1), (3, Go.Value.int Go.IntKind.i64 0), (2, Go.Value.pointer Option.none), (1, Go.Value.pointer (Option.some (Go.Addr.mk b1 0 Option.none)))], [(64, some b2, Row 3 h []), (60, Option.some x, Go.Sl.Row (α := Int) 3 (Z) ([])), (61, Option.some y, Go.Sl.Row (α := Int) 3 (Z) ([])), (62, Option.some z, Go.Sl.Row (α := Int) 3 (Z) ([])), (63, Option.some u, Go.Obj.cells #[Go.Value.int Go.IntKind.i64 (Go.Proofs.Ytfleehgbpgmcnaa.PV.ins p), Go.Value.int Go.IntKind.i64 (Go.Proofs.Ytfleehgbpgmcnaa.PV.regs p), Go.Value.slice ac (List.length (Go.Proofs.Ytfleehgbpgmcnaa.PV.code p)) cc, Go.Value.slice ao (List.length (Go.Proofs.Ytfleehgbpgmcnaa.PV.outs p)) co, Go.Value.slice nb1 (List.length (Go.Proofs.Ytfleehgbpgmcnaa.neededP p)) nc1, Go.Value.slice (Option.some (Go.Addr.mk x 0 Option.none)) (List.length Z) (List.length Z), Go.Value.slice (Option.some (Go.Addr.mk y 0 Option.none)) (List.length Z) (List.length Z), Go.Value.slice (Option.some (Go.Addr.mk z 0 Option.none)) (List.length Z) (List.length Z), Go.Value.slice Option.none 0 0, Go.Value.slice Option.none 0 0] 117), (1, Option.map (fun x => Go.Addr.block x) nb1, Go.Sl.Row (α := Bool) 4 (Go.Proofs.Ytfleehgbpgmcnaa.neededP p) (nj1)), (0, Option.some b1, Go.Obj.cells #[Go.Value.int Go.IntKind.i64 (Go.Proofs.Ytfleehgbpgmcnaa.PV.ins p), Go.Value.int Go.IntKind.i64 (Go.Proofs.Ytfleehgbpgmcnaa.PV.regs p), Go.Value.slice ac (List.length (Go.Proofs.Ytfleehgbpgmcnaa.PV.code p)) cc, Go.Value.slice ao (List.length (Go.Proofs.Ytfleehgbpgmcnaa.PV.outs p)) co] 25)])) (fun (k, h) => k ≤ R ∧ h.length = R ∧ ∀ q : Nat, q < k → h[q]?.getD default = min (q : Int) p.ins) (fun (k, h) => R - k) ((0, List.replicate R (default : Int))) (⟨Nat.zero_le _, List.length_replicate, fun q hq => by omega⟩) ⟨rfl, rfl, rfl, rfl, rfl, rfl, rfl, rfl, rfl, trivial⟩ ⟨rfl, rfl, rfl, rfl, rfl, rfl, rfl, trivial⟩ (fun ⟨k, h⟩ => fun (hk : k ≤ R ∧ h.length = R ∧ ∀ q : Nat, q < k → h[q]?.getD default = min (q : Int) p.ins) => ?_)
    obtain ⟨hk1, hhl, hhe⟩ := hk
    have hoh := hown h hhl
    rcases Nat.lt_or_ge k R with hkR | hkR
    · refine Wc.seq ?_
      refine Wc.region rfl ?_
      refine Wl.q rfl (Qy.lss rfl rfl) ?_
      refine Wl.done ?_
      refine Ar.next ?_
      refine Wc.seq ?_
      refine Wc.condP rfl (by first | assumption | omega) ?_
      refine Wc.skip ?_
      refine Ar.next ?_
      refine Wc.seq ?_
      refine Wc.block ?_
      refine Wc.seq ?_
      refine Wc.region rfl ?_
      refine Wl.q rfl (Qy.move rfl) ?_
      refine Wl.q rfl (Qy.assign rfl) ?_
      refine Wl.done ?_
      refine Ar.next ?_
      refine Wc.region rfl ?_
      refine Wl.q rfl (Qy.move rfl) ?_
      refine Wl.q rfl (Qy.move rfl) ?_
      refine Wl.q rfl (Qy.loadAll 0 T.agg25 rfl rfl rfl) ?_
      refine Wl.q rfl (Qy.move rfl) ?_
      refine Wl.call0 rfl T.fn94 rfl (c94 _ _ _ _ _ _ _) ?_
      refine Wl.q rfl (Qy.indexAddrO (α := Int) T.sl23 rfl rfl (by assumption) (by omega)) ?_
      refine Wl.setO (z := _) 64 T.size3 rfl rfl rfl (by assumption) (by omega) rfl (fun ho1 => ?_)
      refine Wl.done ?_
      refine Ar.outNormal ?_
      refine Ar.next ?_
      refine Wc.region rfl ?_
      refine Wl.q rfl (Qy.add rfl rfl (by omega)) ?_
      refine Wl.q rfl (Qy.move rfl) ?_
      refine Wl.done ?_
      refine Ar.re 8 rfl (show _ = Value.slice (some ⟨b2, 0, none⟩) (h.set ((k : Nat) : Int).toNat (min (k : Int) p.ins)).length R by rw [List.length_set]) ?_
      refine Ar.again ((k + 1, h.set ((k : Nat) : Int).toNat (min (k : Int) p.ins))) ?_ ?_ rfl ⟨rfl, rfl, rfl, rfl, rfl, rfl, rfl, rfl, rfl, trivial⟩ ⟨rfl, rfl, rfl, rfl, rfl, rfl, rfl, trivial⟩
      · refine ⟨hkR, by rw [List.length_set]; exact hhl, fun q hq => ?_⟩
        rw [Int.toNat_natCast, List.getElem?_set]
        by_cases hqk : k = q
        · subst hqk; rw [if_pos rfl, if_pos (by omega)]; rfl
        · rw [if_neg hqk]; exact hhe q (by omega)
      · show R - (k + 1) < R - k
        omega
    · have hh0 : h = (life0 p).held := by
        refine held_eq (by rw [hhl]; show R = ((List.range p.regs.toNat).map _).length; rw [List.length_map, List.length_range, hRt]) (fun q hq => ?_)
        rw [hhe q (by omega)]
        show _ = ((List.range p.regs.toNat).map fun (r : Nat) => min (r : Int) p.ins)[q]?.getD default
        rw [List.getElem?_map, List.getElem?_range (by omega)]; rfl
      refine Wc.seq ?_
      refine Wc.region rfl ?_
      refine Wl.q rfl (Qy.lss rfl rfl) ?_
      refine Wl.done ?_
      refine Ar.next ?_
      refine Wc.seq ?_
      refine Wc.condN rfl (by first | assumption | omega) ?_
      refine Wc.exit ?_
      refine Ar.passExit ?_
      refine Ar.passExit ?_
      refine Ar.here ?_
      refine Ar.next ?_
      refine Wc.seq ?_
      refine Wc.seq ?_
      refine Wc.region rfl ?_
      refine Wl.q rfl (Qy.fieldAddr T.fa25_0 rfl) ?_
      refine Wl.q rfl (Qy.load 0 T.one3 rfl rfl rfl) ?_
      refine Wl.q rfl (Qy.add rfl rfl (by omega)) ?_
      refine Wl.q rfl (Qy.move rfl) ?_
      refine Wl.done ?_
      refine Ar.next ?_
      refine Wc.block ?_
      refine Wc.nilRow 65 (Row 3 ([] : List Int) []) ?_
      refine Wc.loop (ι := Nat × List Int × (Option Addr × Nat × List Value)) (fun (i, t, (o, d, j)) => ([(53, .int .i64 (i : Int)), (52, Go.Value.int Go.IntKind.i64 (Go.Proofs.Ytfleehgbpgmcnaa.PV.ins p + 1)), (8, Go.Value.slice (Option.some (Go.Addr.mk b2 0 Option.none)) (List.length h) R), (7, Go.Value.pointer (Option.some (Go.Addr.mk u 0 Option.none))), (6, Go.Value.int Go.IntKind.i64 (↑(List.length (Go.Proofs.Ytfleehgbpgmcnaa.PV.code p)) : Int)), (4, Go.Value.slice nb1 (List.length (Go.Proofs.Ytfleehgbpgmcnaa.neededP p)) nc1), (3, Go.Value.int Go.IntKind.i64 0), (2, Go.Value.pointer Option.none), (1, Go.Value.pointer (Option.some (Go.Addr.mk b1 0 Option.none)))], [(63, some u, .cells #[.int .i64 p.ins, .int .i64 p.regs, .slice ac p.code.length cc, .slice ao p.outs.length co, .slice nb1 (neededP p).length nc1, .slice (some ⟨x, 0, none⟩) Z.length Z.length, .slice (some ⟨y, 0, none⟩) Z.length Z.length, .slice (some ⟨z, 0, none⟩) Z.length Z.length, .slice none 0 0, .slice o t.length d] 117), (65, o.map (·.block), Row 3 t j), (64, Option.some b2, Go.Sl.Row (α := Int) 3 (h) ([])), (60, Option.some x, Go.Sl.Row (α := Int) 3 (Z) ([])), (61, Option.some y, Go.Sl.Row (α := Int) 3 (Z) ([])), (62, Option.some z, Go.Sl.Row (α := Int) 3 (Z) ([])), (1, Option.map (fun x => Go.Addr.block x) nb1, Go.Sl.Row (α := Bool) 4 (Go.Proofs.Ytfleehgbpgmcnaa.neededP p) (nj1)), (0, Option.some b1, Go.Obj.cells #[Go.Value.int Go.IntKind.i64 (Go.Proofs.Ytfleehgbpgmcnaa.PV.ins p), Go.Value.int Go.IntKind.i64 (Go.Proofs.Ytfleehgbpgmcnaa.PV.regs p), Go.Value.slice ac (List.length (Go.Proofs.Ytfleehgbpgmcnaa.PV.code p)) cc, Go.Value.slice ao (List.length (Go.Proofs.Ytfleehgbpgmcnaa.PV.outs p)) co] 25)])) (fun (i, t, (o, d, j)) => (i : Int) ≤ p.ins + 1 ∧ t = List.replicate i (-1) ∧ OwnA o d t j) (fun (i, t, (o, d, j)) => p.ins.toNat + 1 - i) ((0, [], (none, 0, []))) (⟨by show (0 : Int) ≤ _; omega, rfl, OwnA.nil⟩) ⟨rfl, rfl, rfl, rfl, rfl, rfl, rfl, rfl, rfl, trivial⟩ ⟨rfl, rfl, rfl, rfl, rfl, rfl, rfl, rfl, trivial⟩ (fun ⟨i, t, (o, d, j)⟩ => fun (hk : (i : Int) ≤ p.ins + 1 ∧ t = List.replicate i (-1) ∧ OwnA o d t j) => ?_)
      obtain ⟨hi1, hti, hot⟩ := hk
      have htl : t.length = i := by rw [hti, List.length_replicate]
      by_cases hii : (i : Int) < p.ins + 1
      · refine Wc.seq ?_
        refine Wc.region rfl ?_
        refine Wl.q rfl (Qy.lss rfl rfl) ?_
        refine Wl.done ?_
        refine Ar.next ?_
        refine Wc.seq ?_
        refine Wc.condP rfl (by first | assumption | omega) ?_
        refine Wc.skip ?_
        refine Ar.next ?_
        refine Wc.seq ?_
        refine Wc.block ?_
        refine Wc.region rfl ?_
        refine Wl.q rfl (Qy.move rfl) ?_
        refine Wl.q rfl (Qy.move rfl) ?_
        refine Wl.q rfl (Qy.nilCheck rfl) ?_
        refine Wl.q rfl (Qy.fieldAddr T.fa117_6 rfl) ?_
        refine Wl.q rfl (Qy.load 63 T.one23 rfl rfl rfl) ?_
        refine Wl.lit (α := Int) 66 [(-1)] rfl T.sl23 T.el3 rfl rfl rfl rfl rfl (fun b3 => ?_)
        refine Wl.append (α := Int) 65 rfl T.sl23 T.el3 rfl rfl rfl (by first | assumption | exact OwnA.nil | exact OwnA.made (by simp)) (Src.row 66 rfl) (by first | omega | (simp only [List.length_append, List.length_cons, List.length_nil, maxLen]; omega)) (by first | omega | (simp only [List.length_append, List.length_cons, List.length_nil, maxLen]; omega)) (fun a1 c1 junk1 ho1 => ?_)
        refine Wl.q rfl (Qy.nilCheck rfl) ?_
        refine Wl.q rfl (Qy.fieldAddr T.fa117_6 rfl) ?_
        refine Wl.store 63 T.one23 rfl rfl rfl rfl rfl ?_
        refine Wl.done ?_
        refine Ar.outNormal ?_
        refine Ar.next ?_
        refine Wc.region rfl ?_
        refine Wl.q rfl (Qy.add rfl rfl (by omega)) ?_
        refine Wl.q rfl (Qy.move rfl) ?_
        refine Wl.done ?_
        refine Ar.again ((i + 1, t ++ [-1], (a1, c1, junk1))) ?_ ?_ rfl ⟨rfl, rfl, rfl, rfl, rfl, rfl, rfl, rfl, rfl, trivial⟩ ⟨rfl, rfl, rfl, rfl, rfl, rfl, rfl, rfl, trivial⟩
        · exact ⟨by omega, by rw [hti, List.replicate_succ'], ho1⟩
        · show p.ins.toNat + 1 - (i + 1) < p.ins.toNat + 1 - i
          omega
      · refine Wc.seq ?_
        refine Wc.region rfl ?_
        refine Wl.q rfl (Qy.lss rfl rfl) ?_
        refine Wl.done ?_
        refine Ar.next ?_
        refine Wc.seq ?_
        refine Wc.condN rfl (by first | assumption | omega) ?_
        refine Wc.exit ?_
        refine Ar.passExit ?_
        refine Ar.passExit ?_
        refine Ar.here ?_
        refine Ar.next ?_
        refine Wc.seq ?_
        refine Wc.seq ?_
        refine Wc.region rfl ?_
        refine Wl.q rfl (Qy.fieldAddr T.fa25_2 rfl) ?_
        refine Wl.q rfl (Qy.load 0 T.one22 rfl rfl rfl) ?_
        refine Wl.q rfl (Qy.len T.sl22 rfl) ?_
        refine Wl.q rfl (Qy.move rfl) ?_
        refine Wl.done ?_
        refine Ar.next ?_
        refine Wc.block ?_
        have htt : t = (life0 p).till := by
          rw [hti, show i = p.ins.toNat + 1 by omega]; rfl
        have hZ' : Z = (life0 p).a := hZ
        subst htt hh0 hZ'
        have hno9 : ∀ (b : Nat) (l : List Int), l.length = p.code.length → OwnA (some ⟨b, 0, none⟩) (life0 p).a.length l [] := fun b l hl => .inr ⟨b, rfl, by rw [hZl, hl]; rfl, by omega, by simp only [maxLen]; omega⟩
        refine Wc.loop (ι := Nat × Life × (Option Addr × Nat × List Value)) (fun (k, l, (o, d, j)) => ([(68, .int .i64 (k : Int)), (8, .slice (some ⟨b2, 0, none⟩) l.held.length R), (67, Go.Value.int Go.IntKind.i64 (↑(List.length (Go.Proofs.Ytfleehgbpgmcnaa.PV.code p)) : Int)), (66, Go.Value.slice ac (List.length (Go.Proofs.Ytfleehgbpgmcnaa.PV.code p)) cc), (7, Go.Value.pointer (Option.some (Go.Addr.mk u 0 Option.none))), (6, Go.Value.int Go.IntKind.i64 (↑(List.length (Go.Proofs.Ytfleehgbpgmcnaa.PV.code p)) : Int)), (4, Go.Value.slice nb1 (List.length (Go.Proofs.Ytfleehgbpgmcnaa.neededP p)) nc1), (3, Go.Value.int Go.IntKind.i64 0), (2, Go.Value.pointer Option.none), (1, Go.Value.pointer (Option.some (Go.Addr.mk b1 0 Option.none)))], [(60, some x, Row 3 l.a []), (61, some y, Row 3 l.b []), (62, some z, Row 3 l.sets []), (64, some b2, Row 3 l.held []), (63, some u, .cells #[.int .i64 p.ins, .int .i64 p.regs, .slice ac p.code.length cc, .slice ao p.outs.length co, .slice nb1 (neededP p).length nc1, .slice (some ⟨x, 0, none⟩) l.a.length (life0 p).a.length, .slice (some ⟨y, 0, none⟩) l.b.length (life0 p).a.length, .slice (some ⟨z, 0, none⟩) l.sets.length (life0 p).a.length, .slice none 0 0, .slice o l.till.length d] 117), (65, o.map (·.block), Row 3 l.till j), (1, Option.map (fun x => Go.Addr.block x) nb1, Go.Sl.Row (α := Bool) 4 (Go.Proofs.Ytfleehgbpgmcnaa.neededP p) (nj1)), (0, Option.some b1, Go.Obj.cells #[Go.Value.int Go.IntKind.i64 (Go.Proofs.Ytfleehgbpgmcnaa.PV.ins p), Go.Value.int Go.IntKind.i64 (Go.Proofs.Ytfleehgbpgmcnaa.PV.regs p), Go.Value.slice ac (List.length (Go.Proofs.Ytfleehgbpgmcnaa.PV.code p)) cc, Go.Value.slice ao (List.length (Go.Proofs.Ytfleehgbpgmcnaa.PV.outs p)) co] 25)])) (fun (k, l, (o, d, j)) => k ≤ p.code.length ∧ l = lifeTo p k ∧ OwnA o d l.till j) (fun (k, l, (o, d, j)) => p.code.length - k) ((0, life0 p, (o, d, j))) (⟨Nat.zero_le _, rfl, hot⟩) ⟨rfl, rfl, rfl, rfl, rfl, rfl, rfl, rfl, rfl, rfl, trivial⟩ ⟨rfl, rfl, rfl, rfl, rfl, rfl, rfl, rfl, trivial⟩ (fun ⟨k, l, (o, d, j)⟩ => fun (hk : k ≤ p.code.length ∧ l = lifeTo p k ∧ OwnA o d l.till j) => ?_)
        obtain ⟨hk9, hlk, hol⟩ := hk
        have hok := lifeTo_ok hR k hk9
        rw [← hlk] at hok
        obtain ⟨k1, k2, k3, k4, k5, k6, k7, k8, k9, k10, k11⟩ := hok
        have hoa := hno9 x l.a k1
        have hob := hno9 y l.b k2
        have hoz := hno9 z l.sets k3
        have hoh2 := hown l.held (by omega)
        rcases Nat.lt_or_ge k p.code.length with hkc | hkc
        · have hm := code_may hR hkc
          unfold cAt at hm
          have hnl : (neededP p).length = p.code.length := (needTo_len p _).2
          have hva : 0 ≤ l.held[(p.code[((k : Nat) : Int).toNat]?.getD default).a.toNat]?.getD default ∧ l.held[(p.code[((k : Nat) : Int).toNat]?.getD default).a.toNat]?.getD default < l.till.length := k7 _ (get_mem (by have := (may_facts hm).2.2.1; omega))
          obtain ⟨m1, m2, m3, m4, m5, m6, m7, m8⟩ := may_facts hm
          have hI : cAt p k = p.code[((k : Nat) : Int).toNat]?.getD default := rfl
          have m4' : 1 < ((asks (p.code[((k : Nat) : Int).toNat]?.getD default)).length : Int) → 0 ≤ (p.code[((k : Nat) : Int).toNat]?.getD default).b ∧ (p.code[((k : Nat) : Int).toNat]?.getD default).b < p.regs := fun h => m4 (two_op (by omega))
          refine Wc.seq ?_
          refine Wc.region rfl ?_
          refine Wl.q rfl (Qy.lss rfl rfl) ?_
          refine Wl.done ?_
          refine Ar.next ?_
          refine Wc.seq ?_
          refine Wc.condP rfl (by first | assumption | omega) ?_
          refine Wc.skip ?_
          refine Ar.next ?_
          refine Wc.seq ?_
          refine Wc.block ?_
          refine Wc.seq ?_
          refine Wc.region rfl ?_
          refine Wl.q rfl (Qy.move rfl) ?_
          refine Wl.q rfl (Qy.at (α := Sl.Instr) T.sl22 rfl rfl (by assumption) (by omega)) ?_
          refine Wl.q rfl (Qy.loadsG T.agg34 rfl (Arr.elem (by assumption) (by omega)) rfl) ?_
          refine Wl.alloc 66 rfl T.zero34 (fun b3 => ?_)
          refine Wl.q rfl (Qy.assign rfl) ?_
          refine Wl.storeAll 66 T.size34 rfl rfl rfl rfl rfl rfl ?_
          refine Wl.done ?_
          refine Ar.next ?_
          refine Wc.seq ?_
          refine Wc.seq ?_
          refine Wc.region rfl ?_
          refine Wl.q rfl (Qy.move rfl) ?_
          refine Wl.q rfl (Qy.move rfl) ?_
          refine Wl.q rfl (Qy.indexAddrO (α := Bool) T.sl64 rfl rfl (by assumption) (by omega)) ?_
          refine Wl.q rfl (Qy.loadO 1 0 T.one4 rfl rfl (by assumption) (by omega) rfl rfl) ?_
          refine Wl.q rfl (Qy.not rfl) ?_
          refine Wl.done ?_
          refine Ar.next ?_
          refine Wc.ite rfl (fun hc1 => ?_) (fun hc1 => ?_)
          refine Wc.exit ?_
          refine Ar.passExit ?_
          refine Ar.here ?_
          refine Ar.next ?_
          refine Wc.region rfl ?_
          refine Wl.q rfl (Qy.add rfl rfl (by omega)) ?_
          refine Wl.q rfl (Qy.move rfl) ?_
          refine Wl.done ?_
          rotate_left
          refine Wc.skip ?_
          refine Ar.next ?_
          refine Wc.seq ?_
          refine Wc.draw [0, 1, 65, 63, 64, 62, 61, 60, 66] [(66, 23), (60, 23), (61, 23), (62, 23), (64, 23), (63, 23), (65, 23), (1, 23), (0, 23), (66, 21), (60, 21), (61, 21), (62, 21), (64, 21), (63, 21), (65, 21), (1, 21), (0, 21)] T.mixed rfl ?_
          refine Gm.q 0 [] (by kernel_rfl) rfl rfl (Qy.move rfl) ?_
          refine Gm.q 1 [] (by kernel_rfl) rfl rfl (Qy.nilCheck rfl) ?_
          refine Gm.q 2 [] (by kernel_rfl) rfl rfl (Qy.fieldAddr T.fa117_2 rfl) ?_
          refine Gm.q 3 [63] (by kernel_rfl) rfl rfl (Qy.load 63 T.one23 rfl rfl rfl) ?_
          refine Gm.q 4 [] (by kernel_rfl) rfl rfl (Qy.move rfl) ?_
          refine Gm.q 5 [] (by kernel_rfl) rfl rfl (Qy.move rfl) ?_
          refine Gm.q 6 [] (by kernel_rfl) rfl rfl (Qy.nilCheck rfl) ?_
          refine Gm.q 7 [] (by kernel_rfl) rfl rfl (Qy.fieldAddr T.fa117_3 rfl) ?_
          refine Gm.q 8 [63] (by kernel_rfl) rfl rfl (Qy.load 63 T.one23 rfl rfl rfl) ?_
          refine Gm.q 9 [] (by kernel_rfl) rfl rfl (Qy.move rfl) ?_
          refine Gm.q 10 [] (by kernel_rfl) rfl rfl (Qy.move rfl) ?_
          refine Gm.q 11 [] (by kernel_rfl) rfl rfl (Qy.fieldAddr T.fa34_2 rfl) ?_
          refine Gm.q 12 [66] (by kernel_rfl) rfl rfl (Qy.load 66 T.one3 rfl rfl rfl) ?_
          refine Gm.q 13 [] (by kernel_rfl) rfl rfl (Qy.indexAddrO (α := Int) T.sl23 rfl rfl (by assumption) (by omega)) ?_
          refine Gm.q 14 [0, 64] (by kernel_rfl) rfl rfl (Qy.loadO 64 0 T.one3 rfl rfl (by assumption) (by omega) rfl rfl) ?_
          refine Gm.q 15 [] (by kernel_rfl) rfl rfl (Qy.move rfl) ?_
          refine Gm.q 16 [] (by kernel_rfl) rfl rfl (Qy.fieldAddr T.fa34_2 rfl) ?_
          refine Gm.one 17 ⟨rfl, rfl, rfl, rfl, rfl, rfl, rfl, rfl, rfl, trivial⟩ (by first | exact Imm.le_refl _ | assumption | (refine Imm.le_trans ?_ (by assumption); first | assumption | (refine Imm.le_trans ?_ (by assumption); assumption))) (by kernel_rfl) rfl ?_
          refine Wl.q rfl (Qy.load 66 T.one3 rfl rfl rfl) ?_
          refine Wl.on0 ?_
          refine Gm.q 18 [] (by kernel_rfl) rfl rfl (Qy.indexAddrO (α := Int) T.sl23 rfl rfl (by assumption) (by omega)) ?_
          refine Gm.q 19 [0, 64] (by kernel_rfl) rfl rfl (Qy.loadO 64 0 T.one3 rfl rfl (by assumption) (by omega) rfl rfl) ?_
          refine Gm.q 20 [] (by kernel_rfl) rfl rfl (Qy.indexAddrO (α := Int) T.sl23 rfl rfl (by assumption) (by omega)) ?_
          refine Gm.one 21 ⟨rfl, rfl, rfl, rfl, rfl, rfl, rfl, rfl, rfl, trivial⟩ (by first | exact Imm.le_refl _ | assumption | (refine Imm.le_trans ?_ (by assumption); first | assumption | (refine Imm.le_trans ?_ (by assumption); assumption))) (by kernel_rfl) rfl ?_
          refine Wl.setO (z := _) 60 T.size3 rfl rfl rfl (by assumption) (by omega) rfl (fun ho1 => ?_)
          refine Wl.on0 ?_
          refine Gm.q 22 [] (by kernel_rfl) rfl rfl (Qy.indexAddrO (α := Int) T.sl23 rfl rfl (by assumption) (by omega)) ?_
          refine Gm.one 23 trivial (by first | exact Imm.le_refl _ | assumption | (refine Imm.le_trans ?_ (by assumption); first | assumption | (refine Imm.le_trans ?_ (by assumption); assumption))) (by kernel_rfl) rfl ?_
          refine Wl.setO (z := _) 61 T.size3 rfl rfl rfl (by assumption) (by omega) rfl (fun ho2 => ?_)
          refine Wl.on0 ?_
          refine Gm.doneA (by kernel_rfl) trivial (by first | exact Imm.le_refl _ | assumption | (refine Imm.le_trans ?_ (by assumption); first | assumption | (refine Imm.le_trans ?_ (by assumption); assumption))) ?_
          refine Ar.next ?_
          rotate_left
          · have hn : ¬ nAt p k = true := by unfold nAt; simpa using hc1
            refine Ar.again ((k + 1, l, (o, d, j))) ?_ ?_ rfl ⟨rfl, rfl, rfl, rfl, rfl, rfl, rfl, rfl, rfl, rfl, trivial⟩ ⟨rfl, rfl, rfl, rfl, rfl, rfl, rfl, rfl, trivial⟩
            · exact ⟨hkc, by rw [hlk]; exact (if_neg hn).symm, hol⟩
            · show p.code.length - (k + 1) < p.code.length - k
              omega
          · have hn : nAt p k = true := by unfold nAt; simpa using hc1
            refine Wc.meet (ι := Int) (fun v => ([(4, .slice nb1 (neededP p).length nc1), (66, .slice ac p.code.length cc), (67, .int .i64 (p.code.length : Int)), (10, Go.Value.int Go.IntKind.i64 (↑k : Int)), (11, Go.Value.pointer (Option.some (Go.Addr.mk b3 0 Option.none))), (68, Go.Value.int Go.IntKind.i64 (↑k : Int)), (8, Go.Value.slice (Option.some (Go.Addr.mk b2 0 Option.none)) (List.length (Go.Proofs.Ytfleehgbpgmcnaa.Life.held l)) R), (7, Go.Value.pointer (Option.some (Go.Addr.mk u 0 Option.none))), (6, Go.Value.int Go.IntKind.i64 (↑(List.length (Go.Proofs.Ytfleehgbpgmcnaa.PV.code p)) : Int)), (3, Go.Value.int Go.IntKind.i64 0), (2, Go.Value.pointer Option.none), (1, Go.Value.pointer (Option.some (Go.Addr.mk b1 0 Option.none)))], [(61, some y, Row 3 (l.b.set ((k : Nat) : Int).toNat v) []), (60, Option.map (fun x => Go.Addr.block x) (Option.some (Go.Addr.mk x 0 Option.none)), Go.Sl.Row (α := Int) 3 (List.set (Go.Proofs.Ytfleehgbpgmcnaa.Life.a l) (Int.toNat (↑k : Int)) (Option.getD (Go.Proofs.Ytfleehgbpgmcnaa.Life.held l)[Int.toNat (Go.Sl.Instr.a (Option.getD (Go.Proofs.Ytfleehgbpgmcnaa.PV.code p)[Int.toNat (↑k : Int)]? Inhabited.default))]? Inhabited.default)) ([])), (66, Option.some b3, Go.Obj.cells (List.toArray (Go.Sl.Cells.enc (Option.getD (Go.Proofs.Ytfleehgbpgmcnaa.PV.code p)[Int.toNat (↑k : Int)]? Inhabited.default))) 34), (62, Option.some z, Go.Sl.Row (α := Int) 3 (Go.Proofs.Ytfleehgbpgmcnaa.Life.sets l) ([])), (64, Option.some b2, Go.Sl.Row (α := Int) 3 (Go.Proofs.Ytfleehgbpgmcnaa.Life.held l) ([])), (63, Option.some u, Go.Obj.cells #[Go.Value.int Go.IntKind.i64 (Go.Proofs.Ytfleehgbpgmcnaa.PV.ins p), Go.Value.int Go.IntKind.i64 (Go.Proofs.Ytfleehgbpgmcnaa.PV.regs p), Go.Value.slice ac (List.length (Go.Proofs.Ytfleehgbpgmcnaa.PV.code p)) cc, Go.Value.slice ao (List.length (Go.Proofs.Ytfleehgbpgmcnaa.PV.outs p)) co, Go.Value.slice nb1 (List.length (Go.Proofs.Ytfleehgbpgmcnaa.neededP p)) nc1, Go.Value.slice (Option.some (Go.Addr.mk x 0 Option.none)) (List.length (Go.Proofs.Ytfleehgbpgmcnaa.Life.a l)) (List.length (Go.Proofs.Ytfleehgbpgmcnaa.Life.a (Go.Proofs.Ytfleehgbpgmcnaa.life0 p))), Go.Value.slice (Option.some (Go.Addr.mk y 0 Option.none)) (List.length (Go.Proofs.Ytfleehgbpgmcnaa.Life.b l)) (List.length (Go.Proofs.Ytfleehgbpgmcnaa.Life.a (Go.Proofs.Ytfleehgbpgmcnaa.life0 p))), Go.Value.slice (Option.some (Go.Addr.mk z 0 Option.none)) (List.length (Go.Proofs.Ytfleehgbpgmcnaa.Life.sets l)) (List.length (Go.Proofs.Ytfleehgbpgmcnaa.Life.a (Go.Proofs.Ytfleehgbpgmcnaa.life0 p))), Go.Value.slice Option.none 0 0, Go.Value.slice o (List.length (Go.Proofs.Ytfleehgbpgmcnaa.Life.till l)) d] 117), (65, Option.map (fun x => Go.Addr.block x) o, Go.Sl.Row (α := Int) 3 (Go.Proofs.Ytfleehgbpgmcnaa.Life.till l) (j)), (1, Option.map (fun x => Go.Addr.block x) nb1, Go.Sl.Row (α := Bool) 4 (Go.Proofs.Ytfleehgbpgmcnaa.neededP p) (nj1)), (0, Option.some b1, Go.Obj.cells #[Go.Value.int Go.IntKind.i64 (Go.Proofs.Ytfleehgbpgmcnaa.PV.ins p), Go.Value.int Go.IntKind.i64 (Go.Proofs.Ytfleehgbpgmcnaa.PV.regs p), Go.Value.slice ac (List.length (Go.Proofs.Ytfleehgbpgmcnaa.PV.code p)) cc, Go.Value.slice ao (List.length (Go.Proofs.Ytfleehgbpgmcnaa.PV.outs p)) co] 25)])) (fun v => v = vB l (p.code[((k : Nat) : Int).toNat]?.getD default)) ?_ (fun v => fun (hk : v = vB l (p.code[((k : Nat) : Int).toNat]?.getD default)) => ?_)
            · by_cases h2 : 1 < ((asks (p.code[((k : Nat) : Int).toNat]?.getD default)).length : Int)
              · have m4b := m4' h2
                have hlb : (l.b.set ((k : Nat) : Int).toNat (l.held[(p.code[((k : Nat) : Int).toNat]?.getD default).a.toNat]?.getD default)).length = l.b.length := List.length_set
                refine Wc.seq ?_
                refine Wc.region rfl ?_
                refine Wl.q rfl (Qy.loadAll 66 T.agg34 rfl rfl rfl) ?_
                refine Wl.call 67 rfl T.fn70 rfl (c70 _ _) (tags_of trivial) (fun v2 G2 Ho2 hle2 hp => ?_)
                obtain ⟨ad2, cd2, junk2, rfl, hoa2, rfl, rfl⟩ := hp
                refine Wl.q rfl (Qy.len T.sl23 rfl) ?_
                refine Wl.q rfl (Qy.gtr rfl rfl) ?_
                refine Wl.done ?_
                refine Ar.next ?_
                refine Wc.condP rfl (by first | assumption | omega) ?_
                refine Wc.draw [0, 1, 65, 63, 64, 62, 66, 60, 61, 68] [(68, 11), (61, 11), (60, 11), (66, 11), (62, 11), (64, 11), (63, 11), (65, 11), (1, 11), (0, 11)] T.mixed rfl ?_
                refine Gm.q 0 [] (by kernel_rfl) rfl rfl (Qy.move rfl) ?_
                refine Gm.q 1 [] (by kernel_rfl) rfl rfl (Qy.nilCheck rfl) ?_
                refine Gm.q 2 [] (by kernel_rfl) rfl rfl (Qy.fieldAddr T.fa117_3 rfl) ?_
                refine Gm.q 3 [63] (by kernel_rfl) rfl rfl (Qy.load 63 T.one23 rfl rfl rfl) ?_
                refine Gm.q 4 [] (by kernel_rfl) rfl rfl (Qy.move rfl) ?_
                refine Gm.q 5 [] (by kernel_rfl) rfl rfl (Qy.move rfl) ?_
                refine Gm.q 6 [] (by kernel_rfl) rfl rfl (Qy.fieldAddr T.fa34_3 rfl) ?_
                refine Gm.q 7 [66] (by kernel_rfl) rfl rfl (Qy.load 66 T.one3 rfl rfl rfl) ?_
                refine Gm.q 8 [] (by kernel_rfl) rfl rfl (Qy.indexAddrO (α := Int) T.sl23 rfl rfl (by assumption) (by omega)) ?_
                refine Gm.q 9 [0, 64] (by kernel_rfl) rfl rfl (Qy.loadO 64 0 T.one3 rfl rfl (by assumption) (by omega) rfl rfl) ?_
                refine Gm.q 10 [] (by kernel_rfl) rfl rfl (Qy.indexAddrO (α := Int) T.sl23 rfl rfl (by assumption) (by omega)) ?_
                refine Gm.one 11 ⟨rfl, rfl, rfl, rfl, rfl, rfl, rfl, rfl, rfl, rfl, trivial⟩ (by first | exact Imm.le_refl _ | assumption | (refine Imm.le_trans ?_ (by assumption); first | assumption | (refine Imm.le_trans ?_ (by assumption); assumption))) (by kernel_rfl) rfl ?_
                refine Wl.setO (z := _) 61 T.size3 rfl rfl rfl (by assumption) (by omega) rfl (fun ho3 => ?_)
                refine Wl.on0 ?_
                refine Gm.doneA (by kernel_rfl) trivial (by first | exact Imm.le_refl _ | assumption | (refine Imm.le_trans ?_ (by assumption); first | assumption | (refine Imm.le_trans ?_ (by assumption); assumption))) ?_
                rw [List.set_set]
                refine Ar.meet (l.held[(p.code[((k : Nat) : Int).toNat]?.getD default).b.toNat]?.getD default) ?_ rfl ⟨rfl, rfl, rfl, rfl, rfl, rfl, rfl, rfl, rfl, rfl, rfl, rfl, trivial⟩ ⟨rfl, rfl, rfl, rfl, rfl, rfl, rfl, rfl, rfl, trivial⟩
                exact (if_pos (by omega)).symm
              · refine Wc.seq ?_
                refine Wc.region rfl ?_
                refine Wl.q rfl (Qy.loadAll 66 T.agg34 rfl rfl rfl) ?_
                refine Wl.call 67 rfl T.fn70 rfl (c70 _ _) (tags_of trivial) (fun v2 G2 Ho2 hle2 hp => ?_)
                obtain ⟨ad2, cd2, junk2, rfl, hoa2, rfl, rfl⟩ := hp
                refine Wl.q rfl (Qy.len T.sl23 rfl) ?_
                refine Wl.q rfl (Qy.gtr rfl rfl) ?_
                refine Wl.done ?_
                refine Ar.next ?_
                refine Wc.condN rfl (by first | assumption | omega) ?_
                refine Wc.skip ?_
                refine Ar.meet (l.held[(p.code[((k : Nat) : Int).toNat]?.getD default).a.toNat]?.getD default) ?_ rfl ⟨rfl, rfl, rfl, rfl, rfl, rfl, rfl, rfl, rfl, rfl, rfl, rfl, trivial⟩ ⟨rfl, rfl, rfl, rfl, rfl, rfl, rfl, rfl, rfl, trivial⟩
                exact (if_neg (by omega)).symm
            · have hvb := vB_ok ⟨k1, k2, k3, k4, k5, k6, k7, k8, k9, k10, k11⟩ hm
              rw [← hk] at hvb
              have hob3 := hno9 y (l.b.set ((k : Nat) : Int).toNat v) (by rw [List.length_set]; exact k2)
              have hra : (l.a.set ((k : Nat) : Int).toNat (l.held[(p.code[((k : Nat) : Int).toNat]?.getD default).a.toNat]?.getD default))[((k : Nat) : Int).toNat]?.getD default = l.held[(p.code[((k : Nat) : Int).toNat]?.getD default).a.toNat]?.getD default := set_back_i (by omega)
              have hrb : (l.b.set ((k : Nat) : Int).toNat v)[((k : Nat) : Int).toNat]?.getD default = v := set_back_i (by omega)
              have hla : (l.a.set ((k : Nat) : Int).toNat (l.held[(p.code[((k : Nat) : Int).toNat]?.getD default).a.toNat]?.getD default)).length = l.a.length := List.length_set
              have hlb : (l.b.set ((k : Nat) : Int).toNat v).length = l.b.length := List.length_set
              have hlt1 : (l.till.set (l.held[(p.code[((k : Nat) : Int).toNat]?.getD default).a.toNat]?.getD default).toNat (k : Int)).length = l.till.length := List.length_set
              have hlt2 : ((l.till.set (l.held[(p.code[((k : Nat) : Int).toNat]?.getD default).a.toNat]?.getD default).toNat (k : Int)).set v.toNat (k : Int)).length = l.till.length := by rw [List.length_set, List.length_set]
              refine Wc.seq ?_
              refine Wc.draw [0, 1, 65, 63, 64, 62, 66, 60, 61] [(61, 27), (60, 27), (66, 27), (62, 27), (64, 27), (63, 27), (65, 27), (1, 27), (0, 27), (61, 25), (60, 25), (66, 25), (62, 25), (64, 25), (63, 25), (65, 25), (1, 25), (0, 25)] T.mixed rfl ?_
              refine Gm.q 0 [] (by kernel_rfl) rfl rfl (Qy.move rfl) ?_
              refine Gm.q 1 [] (by kernel_rfl) rfl rfl (Qy.nilCheck rfl) ?_
              refine Gm.q 2 [] (by kernel_rfl) rfl rfl (Qy.fieldAddr T.fa117_6 rfl) ?_
              refine Gm.q 3 [63] (by kernel_rfl) rfl rfl (Qy.load 63 T.one23 rfl rfl rfl) ?_
              refine Gm.q 4 [] (by kernel_rfl) rfl rfl (Qy.move rfl) ?_
              refine Gm.q 5 [] (by kernel_rfl) rfl rfl (Qy.nilCheck rfl) ?_
              refine Gm.q 6 [] (by kernel_rfl) rfl rfl (Qy.fieldAddr T.fa117_2 rfl) ?_
              refine Gm.q 7 [63] (by kernel_rfl) rfl rfl (Qy.load 63 T.one23 rfl rfl rfl) ?_
              refine Gm.q 8 [] (by kernel_rfl) rfl rfl (Qy.move rfl) ?_
              refine Gm.q 9 [] (by kernel_rfl) rfl rfl (Qy.indexAddrO (α := Int) T.sl23 rfl rfl (by assumption) (by omega)) ?_
              refine Gm.q 10 [0, 60] (by kernel_rfl) rfl rfl (Qy.loadO 60 0 T.one3 rfl rfl (by assumption) (by omega) rfl rfl) ?_
              refine Gm.q 11 [] (by kernel_rfl) rfl rfl (Qy.move rfl) ?_
              refine Gm.q 12 [] (by kernel_rfl) rfl rfl (Qy.nilCheck rfl) ?_
              refine Gm.q 13 [] (by kernel_rfl) rfl rfl (Qy.fieldAddr T.fa117_6 rfl) ?_
              refine Gm.q 14 [63] (by kernel_rfl) rfl rfl (Qy.load 63 T.one23 rfl rfl rfl) ?_
              refine Gm.q 15 [] (by kernel_rfl) rfl rfl (Qy.move rfl) ?_
              refine Gm.q 16 [] (by kernel_rfl) rfl rfl (Qy.nilCheck rfl) ?_
              refine Gm.q 17 [] (by kernel_rfl) rfl rfl (Qy.fieldAddr T.fa117_3 rfl) ?_
              refine Gm.q 18 [63] (by kernel_rfl) rfl rfl (Qy.load 63 T.one23 rfl rfl rfl) ?_
              refine Gm.q 19 [] (by kernel_rfl) rfl rfl (Qy.move rfl) ?_
              refine Gm.q 20 [] (by kernel_rfl) rfl rfl (Qy.indexAddrO (α := Int) T.sl23 rfl rfl (by assumption) (by omega)) ?_
              refine Gm.q 21 [0, 61] (by kernel_rfl) rfl rfl (Qy.loadO 61 0 T.one3 rfl rfl (by assumption) (by omega) rfl rfl) ?_
              refine Gm.q 22 [] (by kernel_rfl) rfl rfl (Qy.move rfl) ?_
              refine Gm.q 23 [] (by kernel_rfl) rfl rfl (Qy.move rfl) ?_
              refine Gm.q 24 [] (by kernel_rfl) rfl rfl (Qy.indexAddrO (α := Int) T.sl23 rfl rfl (by assumption) (by omega)) ?_
              refine Gm.one 25 ⟨rfl, rfl, rfl, rfl, rfl, rfl, rfl, rfl, rfl, trivial⟩ (by first | exact Imm.le_refl _ | assumption | (refine Imm.le_trans ?_ (by assumption); first | assumption | (refine Imm.le_trans ?_ (by assumption); assumption))) (by kernel_rfl) rfl ?_
              refine Wl.setO (z := _) 65 T.size3 rfl rfl rfl (by assumption) (by omega) rfl (fun ho3 => ?_)
              refine Wl.on0 ?_
              refine Gm.q 26 [] (by kernel_rfl) rfl rfl (Qy.indexAddrO (α := Int) T.sl23 rfl rfl (by assumption) (by omega)) ?_
              refine Gm.one 27 trivial (by first | exact Imm.le_refl _ | assumption | (refine Imm.le_trans ?_ (by assumption); first | assumption | (refine Imm.le_trans ?_ (by assumption); assumption))) (by kernel_rfl) rfl ?_
              rw [hra, hrb]
              have hol2 : OwnA o d (l.till.set (l.held[(p.code[((k : Nat) : Int).toNat]?.getD default).a.toNat]?.getD default).toNat (k : Int)) j := own_set hol _ _
              have hoh3 := hown (l.held.set (p.code[((k : Nat) : Int).toNat]?.getD default).to.toNat (l.till.length : Int)) (by rw [List.length_set]; omega)
              refine Wl.setO (z := _) 65 T.size3 rfl rfl rfl (by assumption) (by omega) rfl (fun ho4 => ?_)
              refine Wl.on0 ?_
              refine Gm.doneA (by kernel_rfl) trivial (by first | exact Imm.le_refl _ | assumption | (refine Imm.le_trans ?_ (by assumption); first | assumption | (refine Imm.le_trans ?_ (by assumption); assumption))) ?_
              refine Ar.next ?_
              refine Wc.seq ?_
              refine Wc.draw [0, 1, 63, 64, 62, 66, 60, 61, 65] [(65, 21), (61, 21), (60, 21), (66, 21), (62, 21), (64, 21), (63, 21), (1, 21), (0, 21), (65, 19), (61, 19), (60, 19), (66, 19), (62, 19), (64, 19), (63, 19), (1, 19), (0, 19)] T.mixed rfl ?_
              refine Gm.q 0 [] (by kernel_rfl) rfl rfl (Qy.move rfl) ?_
              refine Gm.q 1 [] (by kernel_rfl) rfl rfl (Qy.nilCheck rfl) ?_
              refine Gm.q 2 [] (by kernel_rfl) rfl rfl (Qy.fieldAddr T.fa117_4 rfl) ?_
              refine Gm.q 3 [63] (by kernel_rfl) rfl rfl (Qy.load 63 T.one23 rfl rfl rfl) ?_
              refine Gm.q 4 [] (by kernel_rfl) rfl rfl (Qy.move rfl) ?_
              refine Gm.q 5 [] (by kernel_rfl) rfl rfl (Qy.move rfl) ?_
              refine Gm.q 6 [] (by kernel_rfl) rfl rfl (Qy.fieldAddr T.fa34_1 rfl) ?_
              refine Gm.q 8 [] (by kernel_rfl) rfl rfl (Qy.move rfl) ?_
              refine Gm.q 9 [] (by kernel_rfl) rfl rfl (Qy.nilCheck rfl) ?_
              refine Gm.q 10 [] (by kernel_rfl) rfl rfl (Qy.fieldAddr T.fa117_6 rfl) ?_
              refine Gm.q 11 [63] (by kernel_rfl) rfl rfl (Qy.load 63 T.one23 rfl rfl rfl) ?_
              refine Gm.q 12 [] (by kernel_rfl) rfl rfl (Qy.len T.sl23 rfl) ?_
              refine Gm.q 13 [] (by kernel_rfl) rfl rfl (Qy.move rfl) ?_
              refine Gm.q 14 [] (by kernel_rfl) rfl rfl (Qy.nilCheck rfl) ?_
              refine Gm.q 15 [] (by kernel_rfl) rfl rfl (Qy.fieldAddr T.fa117_6 rfl) ?_
              refine Gm.q 16 [63] (by kernel_rfl) rfl rfl (Qy.load 63 T.one23 rfl rfl rfl) ?_
              refine Gm.q 17 [] (by kernel_rfl) rfl rfl (Qy.len T.sl23 rfl) ?_
              refine Gm.q 18 [] (by kernel_rfl) rfl rfl (Qy.indexAddrO (α := Int) T.sl23 rfl rfl (by assumption) (by omega)) ?_
              refine Gm.two 7 19 ⟨rfl, rfl, rfl, rfl, rfl, rfl, rfl, rfl, rfl, trivial⟩ (by first | exact Imm.le_refl _ | assumption | (refine Imm.le_trans ?_ (by assumption); first | assumption | (refine Imm.le_trans ?_ (by assumption); assumption))) (by kernel_rfl) rfl rfl ?_ ?_
              refine Wl.q rfl (Qy.load 66 T.one3 rfl rfl rfl) ?_
              refine Wl.on0 ?_
              refine Gm.one 19 ⟨rfl, rfl, rfl, rfl, rfl, rfl, rfl, rfl, rfl, trivial⟩ (by first | exact Imm.le_refl _ | assumption | (refine Imm.le_trans ?_ (by assumption); first | assumption | (refine Imm.le_trans ?_ (by assumption); assumption))) (by kernel_rfl) rfl ?_
              refine Wl.setO (z := _) 62 T.size3 rfl rfl rfl (by assumption) (by omega) rfl (fun ho5 => ?_)
              refine Wl.on0 ?_
              refine Gm.q 20 [] (by kernel_rfl) rfl rfl (Qy.indexAddrO (α := Int) T.sl23 rfl rfl (by assumption) (by omega)) ?_
              refine Gm.one 21 trivial (by first | exact Imm.le_refl _ | assumption | (refine Imm.le_trans ?_ (by assumption); first | assumption | (refine Imm.le_trans ?_ (by assumption); assumption))) (by kernel_rfl) rfl ?_
              refine Wl.setO (z := _) 64 T.size3 rfl rfl rfl (by assumption) (by omega) rfl (fun ho6 => ?_)
              refine Wl.on0 ?_
              refine Gm.doneA (by kernel_rfl) trivial (by first | exact Imm.le_refl _ | assumption | (refine Imm.le_trans ?_ (by assumption); first | assumption | (refine Imm.le_trans ?_ (by assumption); assumption))) ?_
              refine Ar.next ?_
              refine Wc.region rfl ?_
              refine Wl.q rfl (Qy.move rfl) ?_
              refine Wl.q rfl (Qy.move rfl) ?_
              refine Wl.q rfl (Qy.nilCheck rfl) ?_
              refine Wl.q rfl (Qy.fieldAddr T.fa117_6 rfl) ?_
              refine Wl.q rfl (Qy.load 63 T.one23 rfl rfl rfl) ?_
              refine Wl.lit (α := Int) 67 [(-1)] rfl T.sl23 T.el3 rfl rfl rfl rfl rfl (fun b4 => ?_)
              rotate_left
              refine Wl.setO (z := _) 62 T.size3 rfl rfl rfl (by assumption) (by omega) rfl (fun ho5 => ?_)
              refine Wl.on0 ?_
              refine Gm.one 7 trivial (by first | exact Imm.le_refl _ | assumption | (refine Imm.le_trans ?_ (by assumption); first | assumption | (refine Imm.le_trans ?_ (by assumption); assumption))) (by kernel_rfl) rfl ?_
              refine Wl.q rfl (Qy.load 66 T.one3 rfl rfl rfl) ?_
              refine Wl.on0 ?_
              refine Gm.q 20 [] (by kernel_rfl) rfl rfl (Qy.indexAddrO (α := Int) T.sl23 rfl rfl (by assumption) (by omega)) ?_
              refine Gm.one 21 trivial (by first | exact Imm.le_refl _ | assumption | (refine Imm.le_trans ?_ (by assumption); first | assumption | (refine Imm.le_trans ?_ (by assumption); assumption))) (by kernel_rfl) rfl ?_
              refine Wl.setO (z := _) 64 T.size3 rfl rfl rfl (by assumption) (by omega) rfl (fun ho6 => ?_)
              refine Wl.on0 ?_
              refine Gm.doneA (by kernel_rfl) trivial (by first | exact Imm.le_refl _ | assumption | (refine Imm.le_trans ?_ (by assumption); first | assumption | (refine Imm.le_trans ?_ (by assumption); assumption))) ?_
              refine Ar.next ?_
              refine Wc.region rfl ?_
              refine Wl.q rfl (Qy.move rfl) ?_
              refine Wl.q rfl (Qy.move rfl) ?_
              refine Wl.q rfl (Qy.nilCheck rfl) ?_
              refine Wl.q rfl (Qy.fieldAddr T.fa117_6 rfl) ?_
              refine Wl.q rfl (Qy.load 63 T.one23 rfl rfl rfl) ?_
              refine Wl.lit (α := Int) 67 [(-1)] rfl T.sl23 T.el3 rfl rfl rfl rfl rfl (fun b4 => ?_)
              rotate_left
              all_goals
                refine Wl.re 165 rfl (show _ = Value.slice o ((l.till.set (l.held[(p.code[((k : Nat) : Int).toNat]?.getD default).a.toNat]?.getD default).toNat (k : Int)).set v.toNat (k : Int)).length d by rw [hlt2]) ?_
                have hol3 := own_set hol2 v.toNat (k : Int)
                refine Wl.append (α := Int) 65 rfl T.sl23 T.el3 rfl rfl rfl (by first | assumption | exact OwnA.nil | exact OwnA.made (by simp)) (Src.row 67 rfl) (by first | omega | (simp only [List.length_append, List.length_cons, List.length_nil, maxLen]; omega)) (by first | omega | (simp only [List.length_append, List.length_cons, List.length_nil, maxLen]; omega)) (fun a7 c7 junk7 ho7 => ?_)
                refine Wl.q rfl (Qy.nilCheck rfl) ?_
                refine Wl.q rfl (Qy.fieldAddr T.fa117_6 rfl) ?_
                refine Wl.store 63 T.one23 rfl rfl rfl rfl rfl ?_
                refine Wl.done ?_
                refine Ar.outNormal ?_
                refine Ar.next ?_
                refine Wc.region rfl ?_
                refine Wl.q rfl (Qy.add rfl rfl (by omega)) ?_
                refine Wl.q rfl (Qy.move rfl) ?_
                refine Wl.done ?_
                subst hk
                have e1 : (lifeStep l k (p.code[((k : Nat) : Int).toNat]?.getD default)).a.length = l.a.length := List.length_set
                have e2 : (lifeStep l k (p.code[((k : Nat) : Int).toNat]?.getD default)).b.length = l.b.length := List.length_set
                have e3 : (lifeStep l k (p.code[((k : Nat) : Int).toNat]?.getD default)).sets.length = l.sets.length := List.length_set
                have e4 : (lifeStep l k (p.code[((k : Nat) : Int).toNat]?.getD default)).held.length = l.held.length := List.length_set
                refine Ar.reH 63 (.cells #[.int .i64 p.ins, .int .i64 p.regs, .slice ac p.code.length cc, .slice ao p.outs.length co, .slice nb1 (neededP p).length nc1, .slice (some ⟨x, 0, none⟩) (lifeStep l k (p.code[((k : Nat) : Int).toNat]?.getD default)).a.length (life0 p).a.length, .slice (some ⟨y, 0, none⟩) (lifeStep l k (p.code[((k : Nat) : Int).toNat]?.getD default)).b.length (life0 p).a.length, .slice (some ⟨z, 0, none⟩) (lifeStep l k (p.code[((k : Nat) : Int).toNat]?.getD default)).sets.length (life0 p).a.length, .slice none 0 0, .slice a7 (lifeStep l k (p.code[((k : Nat) : Int).toNat]?.getD default)).till.length c7] 117) rfl (by rw [e1, e2, e3]; rfl) ?_
                refine Ar.re 8 rfl (show _ = Value.slice (some ⟨b2, 0, none⟩) (lifeStep l k (p.code[((k : Nat) : Int).toNat]?.getD default)).held.length R by rw [e4]) ?_
                refine Ar.again ((k + 1, lifeStep l k (p.code[((k : Nat) : Int).toNat]?.getD default), (a7, c7, junk7))) ?_ ?_ rfl ⟨rfl, rfl, rfl, rfl, rfl, rfl, rfl, rfl, rfl, rfl, trivial⟩ ⟨rfl, rfl, rfl, rfl, rfl, rfl, rfl, rfl, trivial⟩
                · refine ⟨hkc, ?_, ?_⟩
                  · rw [hlk]; exact (if_pos hn).symm
                  · show OwnA a7 c7 (((l.till.set _ _).set _ _) ++ [-1]) junk7
                    assumption
                · show p.code.length - (k + 1) < p.code.length - k
                  omega
        · have hke : k = p.code.length := Nat.le_antisymm hk9 hkc
          subst hke
          have hlo : l.outs = [] := by rw [hlk]; exact lifeTo_outs p _
          refine Wc.seq ?_
          refine Wc.region rfl ?_
          refine Wl.q rfl (Qy.lss rfl rfl) ?_
          refine Wl.done ?_
          refine Ar.next ?_
          refine Wc.seq ?_
          refine Wc.condN rfl (by first | assumption | omega) ?_
          refine Wc.exit ?_
          refine Ar.passExit ?_
          refine Ar.passExit ?_
          refine Ar.here ?_
          refine Ar.next ?_
          refine Wc.seq ?_
          refine Wc.seq ?_
          refine Wc.region rfl ?_
          refine Wl.q rfl (Qy.fieldAddr T.fa25_3 rfl) ?_
          refine Wl.q rfl (Qy.load 0 T.one23 rfl rfl rfl) ?_
          refine Wl.q rfl (Qy.len T.sl23 rfl) ?_
          refine Wl.q rfl (Qy.move rfl) ?_
          refine Wl.done ?_
          refine Ar.next ?_
          refine Wc.block ?_
          refine Wc.nilRow 69 (Row 3 l.outs []) ?_
          refine Wc.reH 63 (.cells #[.int .i64 p.ins, .int .i64 p.regs, .slice ac p.code.length cc, .slice ao p.outs.length co, .slice nb1 (neededP p).length nc1, .slice (some ⟨x, 0, none⟩) l.a.length (life0 p).a.length, .slice (some ⟨y, 0, none⟩) l.b.length (life0 p).a.length, .slice (some ⟨z, 0, none⟩) l.sets.length (life0 p).a.length, .slice none l.outs.length 0, .slice o l.till.length d] 117) rfl (by rw [hlo]; rfl) ?_
          refine Wc.loop (ι := Nat × Life × (Option Addr × Nat × List Value)) (fun (q, l2, (oo, od, oj)) => ([(174, .int .i64 (q : Int)), (173, Go.Value.int Go.IntKind.i64 (↑(List.length (Go.Proofs.Ytfleehgbpgmcnaa.PV.outs p)) : Int)), (172, Go.Value.slice ao (List.length (Go.Proofs.Ytfleehgbpgmcnaa.PV.outs p)) co), (8, Go.Value.slice (Option.some (Go.Addr.mk b2 0 Option.none)) (List.length (Go.Proofs.Ytfleehgbpgmcnaa.Life.held l)) R), (7, Go.Value.pointer (Option.some (Go.Addr.mk u 0 Option.none))), (6, Go.Value.int Go.IntKind.i64 (↑(List.length (Go.Proofs.Ytfleehgbpgmcnaa.PV.code p)) : Int)), (3, Go.Value.int Go.IntKind.i64 0), (2, Go.Value.pointer Option.none)], [(65, o.map (·.block), Row 3 l2.till j), (69, oo.map (·.block), Row 3 l2.outs oj), (63, some u, .cells #[.int .i64 p.ins, .int .i64 p.regs, .slice ac p.code.length cc, .slice ao p.outs.length co, .slice nb1 (neededP p).length nc1, .slice (some ⟨x, 0, none⟩) l.a.length (life0 p).a.length, .slice (some ⟨y, 0, none⟩) l.b.length (life0 p).a.length, .slice (some ⟨z, 0, none⟩) l.sets.length (life0 p).a.length, .slice oo l2.outs.length od, .slice o l2.till.length d] 117), (60, Option.some x, Go.Sl.Row (α := Int) 3 (Go.Proofs.Ytfleehgbpgmcnaa.Life.a l) ([])), (61, Option.some y, Go.Sl.Row (α := Int) 3 (Go.Proofs.Ytfleehgbpgmcnaa.Life.b l) ([])), (62, Option.some z, Go.Sl.Row (α := Int) 3 (Go.Proofs.Ytfleehgbpgmcnaa.Life.sets l) ([])), (64, Option.some b2, Go.Sl.Row (α := Int) 3 (Go.Proofs.Ytfleehgbpgmcnaa.Life.held l) ([])), (1, Option.map (fun x => Go.Addr.block x) nb1, Go.Sl.Row (α := Bool) 4 (Go.Proofs.Ytfleehgbpgmcnaa.neededP p) (nj1)), (0, Option.some b1, Go.Obj.cells #[Go.Value.int Go.IntKind.i64 (Go.Proofs.Ytfleehgbpgmcnaa.PV.ins p), Go.Value.int Go.IntKind.i64 (Go.Proofs.Ytfleehgbpgmcnaa.PV.regs p), Go.Value.slice ac (List.length (Go.Proofs.Ytfleehgbpgmcnaa.PV.code p)) cc, Go.Value.slice ao (List.length (Go.Proofs.Ytfleehgbpgmcnaa.PV.outs p)) co] 25)])) (fun (q, l2, (oo, od, oj)) => q ≤ p.outs.length ∧ l2 = outTo p q ∧ OwnA oo od l2.outs oj ∧ OwnA o d l2.till j) (fun (q, l2, (oo, od, oj)) => p.outs.length - q) ((0, l, (none, 0, []))) (⟨Nat.zero_le _, hlk, by show OwnA none 0 l.outs []; rw [hlo]; exact OwnA.nil, hol⟩) ⟨rfl, rfl, rfl, rfl, rfl, rfl, rfl, rfl, trivial⟩ ⟨rfl, rfl, rfl, rfl, rfl, rfl, rfl, rfl, rfl, trivial⟩ (fun ⟨q, l2, (oo, od, oj)⟩ => fun (hk : q ≤ p.outs.length ∧ l2 = outTo p q ∧ OwnA oo od l2.outs oj ∧ OwnA o d l2.till j) => ?_)
          obtain ⟨hq1, hl2, hoo, hot2⟩ := hk
          have h2ok := outTo_ok hR q hq1
          have h2h := outTo_held p q
          have h2l := outTo_len p q
          rw [← hl2] at h2ok h2h h2l
          rw [← hlk] at h2h h2l
          rw [hlo] at h2l
          have h2l' : l2.outs.length = q := by rw [h2l]; exact Nat.zero_add q
          have h2t := h2ok.t1
          rcases Nat.lt_or_ge q p.outs.length with hqc | hqc
          · have hr := out_may hR hqc
            have hv2 : 0 ≤ l.held[(p.outs[((q : Nat) : Int).toNat]?.getD default).toNat]?.getD default ∧ l.held[(p.outs[((q : Nat) : Int).toNat]?.getD default).toNat]?.getD default < l2.till.length := h2ok.hb _ (by rw [h2h]; exact get_mem (by omega))
            refine Wc.seq ?_
            refine Wc.region rfl ?_
            refine Wl.q rfl (Qy.lss rfl rfl) ?_
            refine Wl.done ?_
            refine Ar.next ?_
            refine Wc.seq ?_
            refine Wc.condP rfl (by first | assumption | omega) ?_
            refine Wc.skip ?_
            refine Ar.next ?_
            refine Wc.seq ?_
            refine Wc.block ?_
            refine Wc.seq ?_
            refine Wc.region rfl ?_
            refine Wl.q rfl (Qy.at (α := Int) T.sl23 rfl rfl (by assumption) (by omega)) ?_
            refine Wl.q rfl (Qy.loadG T.one3 rfl (Arr.cell (by assumption) (by omega) 0 rfl rfl)) ?_
            refine Wl.q rfl (Qy.assign rfl) ?_
            refine Wl.done ?_
            refine Ar.next ?_
            refine Wc.seq ?_
            refine Wc.draw [0, 1, 64, 62, 61, 60, 63, 69, 65] [(63, 13), (65, 10), (69, 10), (60, 10), (61, 10), (62, 10), (64, 10), (1, 10)] T.mixed rfl ?_
            refine Gm.q 0 [] (by kernel_rfl) rfl rfl (Qy.move rfl) ?_
            refine Gm.q 1 [] (by kernel_rfl) rfl rfl (Qy.move rfl) ?_
            refine Gm.q 2 [] (by kernel_rfl) rfl rfl (Qy.nilCheck rfl) ?_
            refine Gm.q 3 [] (by kernel_rfl) rfl rfl (Qy.fieldAddr T.fa117_5 rfl) ?_
            refine Gm.q 4 [63] (by kernel_rfl) rfl rfl (Qy.load 63 T.one23 rfl rfl rfl) ?_
            refine Gm.q 5 [] (by kernel_rfl) rfl rfl (Qy.move rfl) ?_
            refine Gm.q 6 [] (by kernel_rfl) rfl rfl (Qy.move rfl) ?_
            refine Gm.q 7 [] (by kernel_rfl) rfl rfl (Qy.indexAddrO (α := Int) T.sl23 rfl rfl (by assumption) (by omega)) ?_
            refine Gm.one 8 ⟨rfl, rfl, rfl, rfl, rfl, rfl, rfl, rfl, rfl, trivial⟩ (by first | exact Imm.le_refl _ | assumption | (refine Imm.le_trans ?_ (by assumption); first | assumption | (refine Imm.le_trans ?_ (by assumption); assumption))) (by kernel_rfl) rfl ?_
            refine Wl.q rfl (Qy.loadO 64 0 T.one3 rfl rfl (by assumption) (by omega) rfl rfl) ?_
            refine Wl.on0 ?_
            refine Gm.one 9 ⟨rfl, rfl, rfl, rfl, rfl, rfl, rfl, rfl, rfl, trivial⟩ (by first | exact Imm.le_refl _ | assumption | (refine Imm.le_trans ?_ (by assumption); first | assumption | (refine Imm.le_trans ?_ (by assumption); assumption))) (by kernel_rfl) rfl ?_
            refine Wl.lit (α := Int) 70 [(Option.getD (Go.Proofs.Ytfleehgbpgmcnaa.Life.held l)[Int.toNat (Option.getD (Go.Proofs.Ytfleehgbpgmcnaa.PV.outs p)[Int.toNat (↑q : Int)]? Inhabited.default)]? Inhabited.default)] rfl T.sl23 T.el3 rfl rfl rfl rfl rfl (fun b3 => ?_)
            refine Wl.on0 ?_
            refine Gm.one 10 ⟨rfl, rfl, rfl, rfl, rfl, rfl, rfl, rfl, rfl, trivial⟩ (by first | exact Imm.le_refl _ | assumption | (refine Imm.le_trans ?_ (by assumption); first | assumption | (refine Imm.le_trans ?_ (by assumption); assumption))) (by kernel_rfl) rfl ?_
            refine Wl.append (α := Int) 69 rfl T.sl23 T.el3 rfl rfl rfl (by first | assumption | exact OwnA.nil | exact OwnA.made (by simp)) (Src.row 70 rfl) (by first | omega | (simp only [List.length_append, List.length_cons, List.length_nil, maxLen]; omega)) (by first | omega | (simp only [List.length_append, List.length_cons, List.length_nil, maxLen]; omega)) (fun a1 c1 junk1 ho1 => ?_)
            refine Wl.on0 ?_
            refine Gm.q 11 [] (by kernel_rfl) rfl rfl (Qy.nilCheck rfl) ?_
            refine Gm.q 12 [] (by kernel_rfl) rfl rfl (Qy.fieldAddr T.fa117_5 rfl) ?_
            refine Gm.one 13 ⟨rfl, rfl, trivial⟩ (by first | exact Imm.le_refl _ | assumption | (refine Imm.le_trans ?_ (by assumption); first | assumption | (refine Imm.le_trans ?_ (by assumption); assumption))) (by kernel_rfl) rfl ?_
            refine Wl.store 63 T.one23 rfl rfl rfl rfl rfl ?_
            refine Wl.on0 ?_
            refine Gm.doneA (by kernel_rfl) ⟨rfl, trivial⟩ (by first | exact Imm.le_refl _ | assumption | (refine Imm.le_trans ?_ (by assumption); first | assumption | (refine Imm.le_trans ?_ (by assumption); assumption))) ?_
            refine Ar.next ?_
            refine Wc.draw [0, 1, 64, 62, 61, 60, 65, 70, 69, 63] [(63, 10), (69, 10), (70, 10), (65, 10), (60, 10), (61, 10), (62, 10), (64, 10), (1, 10), (0, 10)] T.mixed rfl ?_
            refine Gm.q 0 [] (by kernel_rfl) rfl rfl (Qy.move rfl) ?_
            refine Gm.q 1 [] (by kernel_rfl) rfl rfl (Qy.nilCheck rfl) ?_
            refine Gm.q 2 [] (by kernel_rfl) rfl rfl (Qy.fieldAddr T.fa117_6 rfl) ?_
            refine Gm.q 3 [63] (by kernel_rfl) rfl rfl (Qy.load 63 T.one23 rfl rfl rfl) ?_
            refine Gm.q 4 [] (by kernel_rfl) rfl rfl (Qy.move rfl) ?_
            refine Gm.q 5 [] (by kernel_rfl) rfl rfl (Qy.move rfl) ?_
            refine Gm.q 6 [] (by kernel_rfl) rfl rfl (Qy.indexAddrO (α := Int) T.sl23 rfl rfl (by assumption) (by omega)) ?_
            refine Gm.q 7 [0, 64] (by kernel_rfl) rfl rfl (Qy.loadO 64 0 T.one3 rfl rfl (by assumption) (by omega) rfl rfl) ?_
            refine Gm.q 8 [] (by kernel_rfl) rfl rfl (Qy.move rfl) ?_
            refine Gm.q 9 [] (by kernel_rfl) rfl rfl (Qy.indexAddrO (α := Int) T.sl23 rfl rfl (by assumption) (by omega)) ?_
            refine Gm.one 10 ⟨rfl, rfl, rfl, rfl, rfl, rfl, rfl, rfl, rfl, rfl, trivial⟩ (by first | exact Imm.le_refl _ | assumption | (refine Imm.le_trans ?_ (by assumption); first | assumption | (refine Imm.le_trans ?_ (by assumption); assumption))) (by kernel_rfl) rfl ?_
            refine Wl.setO (z := _) 65 T.size3 rfl rfl rfl (by assumption) (by omega) rfl (fun ho2 => ?_)
            refine Wl.on0 ?_
            refine Gm.doneA (by kernel_rfl) trivial (by first | exact Imm.le_refl _ | assumption | (refine Imm.le_trans ?_ (by assumption); first | assumption | (refine Imm.le_trans ?_ (by assumption); assumption))) ?_
            refine Ar.outNormal ?_
            refine Ar.next ?_
            refine Wc.region rfl ?_
            refine Wl.q rfl (Qy.add rfl rfl (by omega)) ?_
            refine Wl.q rfl (Qy.move rfl) ?_
            refine Wl.done ?_
            have e5 : (outStep p l2 (p.outs[((q : Nat) : Int).toNat]?.getD default)).till.length = l2.till.length := List.length_set
            have eS : outStep p l2 (p.outs[((q : Nat) : Int).toNat]?.getD default) = { l2 with outs := l2.outs ++ [l.held[(p.outs[((q : Nat) : Int).toNat]?.getD default).toNat]?.getD default], till := l2.till.set (l.held[(p.outs[((q : Nat) : Int).toNat]?.getD default).toNat]?.getD default).toNat p.code.length } := by
              unfold outStep; rw [h2h]
            rw [eS] at e5
            refine Ar.reH 63 (.cells #[.int .i64 p.ins, .int .i64 p.regs, .slice ac p.code.length cc, .slice ao p.outs.length co, .slice nb1 (neededP p).length nc1, .slice (some ⟨x, 0, none⟩) l.a.length (life0 p).a.length, .slice (some ⟨y, 0, none⟩) l.b.length (life0 p).a.length, .slice (some ⟨z, 0, none⟩) l.sets.length (life0 p).a.length, .slice a1 (l2.outs ++ [l.held[(p.outs[((q : Nat) : Int).toNat]?.getD default).toNat]?.getD default]).length c1, .slice o (l2.till.set (l.held[(p.outs[((q : Nat) : Int).toNat]?.getD default).toNat]?.getD default).toNat p.code.length).length d] 117) rfl (by rw [e5]; rfl) ?_
            refine Ar.again ((q + 1, { l2 with outs := l2.outs ++ [l.held[(p.outs[((q : Nat) : Int).toNat]?.getD default).toNat]?.getD default], till := l2.till.set (l.held[(p.outs[((q : Nat) : Int).toNat]?.getD default).toNat]?.getD default).toNat p.code.length }, (a1, c1, junk1))) ?_ ?_ rfl ⟨rfl, rfl, rfl, rfl, rfl, rfl, rfl, rfl, trivial⟩ ⟨rfl, rfl, rfl, rfl, rfl, rfl, rfl, rfl, rfl, trivial⟩
            · refine ⟨hqc, ?_, by assumption, own_set hot2 _ _⟩
              show _ = outStep p (outTo p q) _
              rw [← hl2, eS]
            · show p.outs.length - (q + 1) < p.outs.length - q
              omega
          · have hqe : q = p.outs.length := Nat.le_antisymm hq1 hqc
            subst hqe
            have hlp : l2 = lifeP p := hl2
            have s1 : l.a = (lifeP p).a := by rw [hlk]; exact (outTo_same p _).1.symm
            have s2 : l.b = (lifeP p).b := by rw [hlk]; exact (outTo_same p _).2.1.symm
            have s3 : l.sets = (lifeP p).sets := by rw [hlk]; exact (outTo_same p _).2.2.symm
            subst hlp
            refine Wc.seq ?_
            refine Wc.region rfl ?_
            refine Wl.q rfl (Qy.lss rfl rfl) ?_
            refine Wl.done ?_
            refine Ar.next ?_
            refine Wc.seq ?_
            refine Wc.condN rfl (by first | assumption | omega) ?_
            refine Wc.exit ?_
            refine Ar.passExit ?_
            refine Ar.passExit ?_
            refine Ar.here ?_
            refine Ar.next ?_
            refine Wc.seq ?_
            refine Wc.region rfl ?_
            refine Wl.q rfl (Qy.move rfl) ?_
            refine Wl.q rfl (Qy.assign rfl) ?_
            refine Wl.q rfl (Qy.assign rfl) ?_
            refine Wl.done ?_
            refine Ar.next ?_
            refine Wc.ret ?_
            refine Ar.pick [63, 1, 60, 61, 62, 69, 65] (by decide) (Ar.out2 (.inr rfl) rfl (.tmp rfl) (.tmp rfl) (Hp.sub_self 0 _) ?_)
            rw [s1] at hoa
            rw [s2] at hob
            rw [s3] at hoz
            refine ⟨u, nb1, nc1, nj1, x, y, z, (life0 p).a.length, oo, od, oj, o, d, j, rfl, hon1, hoa, hob, hoz, hoo, hot2, ?_, rfl⟩
            rw [s1, s2, s3]
            rfl
end Go.Proofs.Ytfleehgbpgmcnaa
