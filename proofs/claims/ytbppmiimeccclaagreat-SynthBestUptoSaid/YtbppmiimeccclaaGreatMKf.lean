/- Parts of the proof (part 6): what the rows' text needs of the texts that lead to it. -/
import Derived.Test.YtbppmiimeccclaaGreatMKe
set_option linter.unusedVariables false
namespace Go.Proofs.YtbppmiimeccclaaGreat
open Go Go.Sl
theorem right_ofS {q : PV} (h : 1 ≤ q.ins ∧ q.ins ≤ q.regs ∧ q.regs ≤ 128 ∧ q.code.length ≤ 16384 ∧ 1 ≤ q.outs.length ∧ q.outs.length ≤ 128) (ho : ∀ r ∈ q.outs, 0 ≤ r ∧ r < q.regs) (hc : ∀ i ∈ q.code, mayOk i q.regs = true) : rightP q = true := by
  have h1 : headOk q = true := by
    unfold headOk
    rw [Bool.and_eq_true, decide_eq_true_eq, List.all_eq_true]
    exact ⟨by omega, fun r hr => by rw [decide_eq_true_eq]; exact ho r hr⟩
  have h2 : badAt q = none := by
    unfold badAt
    rw [List.findIdx?_eq_none_iff]
    intro i hi
    rw [hc i hi]; rfl
  unfold rightP checkP
  rw [if_neg (by rw [h1]; decide), h2]; rfl
structure Good (R : Int) (L d : Nat) (l : List Sl.Instr) : Prop where
  fit : ∀ i ∈ l, mayOk i R = true
  len : l.length ≤ L
  dv : divs l ≤ d
theorem divs_append (l m : List Sl.Instr) : divs (l ++ m) = divs l + divs m := by unfold divs; rw [List.filter_append, List.length_append]
theorem Good.nil (R : Int) : Good R 0 0 [] := ⟨fun i h => (by cases h), Nat.le_refl _, Nat.le_refl _⟩
theorem Good.append {R : Int} {L d L' d' : Nat} {l m : List Sl.Instr} (h : Good R L d l) (k : Good R L' d' m) : Good R (L + L') (d + d') (l ++ m) :=
  ⟨fun i hi => (List.mem_append.1 hi).elim (h.fit i) (k.fit i), by rw [List.length_append]; have := h.len; have := k.len; omega, by rw [divs_append]; have := h.dv; have := k.dv; omega⟩
theorem Good.mono {R : Int} {L d L' d' : Nat} {l : List Sl.Instr} (h : Good R L d l) (h1 : L ≤ L') (h2 : d ≤ d') : Good R L' d' l := ⟨h.fit, Nat.le_trans h.len h1, Nat.le_trans h.dv h2⟩
theorem Good.one {R : Int} {i : Sl.Instr} (h : mayOk i R = true) : Good R 1 (if isDiv i then 1 else 0) [i] :=
  ⟨fun j hj => by rw [List.mem_singleton.1 hj]; exact h, Nat.le_refl _, by unfold divs; by_cases hd : isDiv i <;> simp [hd]⟩
theorem may_two {op to a b R : Int} (ho : op = 3 ∨ op = 4) (h1 : 0 ≤ to ∧ to < R) (h2 : 0 ≤ a ∧ a < R) (h3 : 0 ≤ b ∧ b < R) : mayOk ⟨op, to, a, b, 0⟩ R = true := by
  unfold mayOk
  rw [Bool.and_eq_true, Bool.and_eq_true, decide_eq_true_eq, List.all_eq_true]
  refine ⟨⟨(show 1 ≤ op ∧ op ≤ 8 ∧ 0 ≤ to ∧ to < R ∧ (op = 3 ∨ op = 4 ∨ b = 0) by omega), ?_⟩, fun r hr => ?_⟩
  · unfold constOk
    rw [if_neg (show ¬ (op = 5 ∨ op = 6) by omega), if_neg (show ¬ (op = 7 ∨ op = 8) by omega)]; rfl
  · rw [decide_eq_true_eq]
    unfold asks at hr
    rw [if_pos (show op = 3 ∨ op = 4 from ho)] at hr
    rcases List.mem_cons.1 hr with rfl | hr
    · exact h2
    · rw [List.mem_singleton.1 hr]; exact h3
theorem may_one {op to a R : Int} (ho : op = 1 ∨ op = 2) (h1 : 0 ≤ to ∧ to < R) (h2 : 0 ≤ a ∧ a < R) : mayOk ⟨op, to, a, 0, 0⟩ R = true := by
  unfold mayOk
  rw [Bool.and_eq_true, Bool.and_eq_true, decide_eq_true_eq, List.all_eq_true]
  refine ⟨⟨(show 1 ≤ op ∧ op ≤ 8 ∧ 0 ≤ to ∧ to < R ∧ (op = 3 ∨ op = 4 ∨ (0 : Int) = 0) by omega), ?_⟩, fun r hr => ?_⟩
  · unfold constOk
    rw [if_neg (show ¬ (op = 5 ∨ op = 6) by omega), if_neg (show ¬ (op = 7 ∨ op = 8) by omega)]; rfl
  · rw [decide_eq_true_eq]
    unfold asks at hr
    rw [if_neg (show ¬ (op = 3 ∨ op = 4) by omega), if_pos (show 1 ≤ op ∧ op ≤ 8 by omega)] at hr
    rw [List.mem_singleton.1 hr]; exact h2
theorem may_const {op to a c R : Int} (ho : op = 5 ∨ op = 6) (h1 : 0 ≤ to ∧ to < R) (h2 : 0 ≤ a ∧ a < R) (hc : c ≠ 0 ∧ -512 ≤ c ∧ c ≤ 512) : mayOk ⟨op, to, a, 0, c⟩ R = true := by
  unfold mayOk
  rw [Bool.and_eq_true, Bool.and_eq_true, decide_eq_true_eq, List.all_eq_true]
  refine ⟨⟨(show 1 ≤ op ∧ op ≤ 8 ∧ 0 ≤ to ∧ to < R ∧ (op = 3 ∨ op = 4 ∨ (0 : Int) = 0) by omega), ?_⟩, fun r hr => ?_⟩
  · unfold constOk
    rw [if_pos (show op = 5 ∨ op = 6 from ho), decide_eq_true_eq]; exact hc
  · rw [decide_eq_true_eq]
    unfold asks at hr
    rw [if_neg (show ¬ (op = 3 ∨ op = 4) by omega), if_pos (show 1 ≤ op ∧ op ≤ 8 by omega)] at hr
    rw [List.mem_singleton.1 hr]; exact h2
theorem add_good {R to a b : Int} (h1 : 0 ≤ to ∧ to < R) (h2 : 0 ≤ a ∧ a < R) (h3 : 0 ≤ b ∧ b < R) : Good R 1 0 [⟨3, to, a, b, 0⟩] := (Good.one (may_two (.inl rfl) h1 h2 h3)).mono (Nat.le_refl _) (Nat.le_of_eq (if_neg (show ¬ ((3 : Int) = 6 ∨ (3 : Int) = 8) by decide)))
theorem sub_good {R to a b : Int} (h1 : 0 ≤ to ∧ to < R) (h2 : 0 ≤ a ∧ a < R) (h3 : 0 ≤ b ∧ b < R) : Good R 1 0 [⟨4, to, a, b, 0⟩] := (Good.one (may_two (.inr rfl) h1 h2 h3)).mono (Nat.le_refl _) (Nat.le_of_eq (if_neg (show ¬ ((4 : Int) = 6 ∨ (4 : Int) = 8) by decide)))
theorem times_good {R to x c : Int} (h1 : 0 ≤ to ∧ to < R) (h2 : 0 ≤ x ∧ x < R) (hc : -512 ≤ c ∧ c ≤ 512) : Good R 1 0 (timesI to x c) := by
  unfold timesI
  split
  · exact sub_good h1 h2 h2
  rename_i h0
  split
  · exact (Good.nil R).mono (by omega) (by omega)
  split
  · exact (Good.one (may_one (.inl rfl) h1 h2)).mono (Nat.le_refl _) (Nat.le_of_eq (if_neg (show ¬ ((1 : Int) = 6 ∨ (1 : Int) = 8) by decide)))
  split
  · exact (Good.one (may_one (.inr rfl) h1 h2)).mono (Nat.le_refl _) (Nat.le_of_eq (if_neg (show ¬ ((2 : Int) = 6 ∨ (2 : Int) = 8) by decide)))
  · exact (Good.one (may_const (.inl rfl) h1 h2 ⟨h0, hc⟩)).mono (Nat.le_refl _) (Nat.le_of_eq (if_neg (show ¬ ((5 : Int) = 6 ∨ (5 : Int) = 8) by decide)))
theorem over_good {R to c : Int} (h1 : 0 ≤ to ∧ to < R) (h0 : c ≠ 0) (hc : -512 ≤ c ∧ c ≤ 512) : Good R 1 (if c = 1 then 0 else 1) (overI to c) := by
  unfold overI
  split
  · exact (Good.nil R).mono (by omega) (by omega)
  split
  · exact (Good.one (may_one (.inr rfl) h1 h1)).mono (Nat.le_refl _) (by split <;> omega)
  · exact (Good.one (may_const (.inr rfl) h1 h1 ⟨h0, hc⟩)).mono (Nat.le_refl _) (by split <;> omega)
theorem many_good {R to c : Int} (h1 : 0 ≤ to ∧ to < R) (h0 : c ≠ 0) (hc : -512 ≤ c ∧ c ≤ 512) : ∀ m : Nat, Good R m (if c = 1 then 0 else m) (List.replicate m (overI to c)).flatten
  | 0 => (Good.nil R).mono (Nat.le_refl _) (Nat.zero_le _)
  | m + 1 => by
    rw [List.replicate_succ, List.flatten_cons]
    refine ((over_good h1 h0 hc).append (many_good h1 h0 hc m)).mono (by omega) ?_
    split <;> omega
theorem powL_good {R to c : Int} (h1 : 0 ≤ to ∧ to < R) (hc : -512 ≤ c ∧ c ≤ 512) : ∀ (e : Nat) (fr k : Int), 0 ≤ fr ∧ fr < R → -512 ≤ k ∧ k ≤ 512 → Good R (e + 1) 0 (powL to c fr k e)
  | 0, fr, k, h2, hk => times_good h1 h2 hk
  | e + 1, fr, k, h2, hk => by
    unfold powL
    split
    · exact ((times_good h1 h2 hk).append (powL_good h1 hc e to c h1 hc)).mono (by omega) (by omega)
    · exact (powL_good h1 hc e fr (k * c) h2 (by omega)).mono (by omega) (by omega)
theorem powI_good {R to a c : Int} (h1 : 0 ≤ to ∧ to < R) (h2 : 0 ≤ a ∧ a < R) (hc : -512 ≤ c ∧ c ≤ 512) (e : Nat) : Good R (e + 1) 0 (powI to a c e) := by
  unfold powI
  split
  · refine (times_good h1 h2 ?_).mono (by omega) (by omega)
    split <;> omega
  · exact powL_good h1 hc e a 1 h2 (by omega)
theorem lin_rng {u v a b : Int} (h : u.natAbs + v.natAbs ≤ 17) (hn : near a b) : -512 ≤ u * a + v * b ∧ u * a + v * b ≤ 512 := by
  unfold near at hn
  have h1 : (u * a).natAbs ≤ u.natAbs * 16 := by rw [Int.natAbs_mul]; exact Nat.mul_le_mul_left _ (by omega)
  have h2 : (v * b).natAbs ≤ v.natAbs * 16 := by rw [Int.natAbs_mul]; exact Nat.mul_le_mul_left _ (by omega)
  omega
theorem det_rng {a b c d : Int} (h : near a b) (k : near c d) : -512 ≤ a * d - c * b ∧ a * d - c * b ≤ 512 := by
  unfold near at h k
  have h1 : (a * d).natAbs ≤ 16 * 16 := by rw [Int.natAbs_mul]; exact Nat.mul_le_mul (by omega) (by omega)
  have h2 : (c * b).natAbs ≤ 16 * 16 := by rw [Int.natAbs_mul]; exact Nat.mul_le_mul (by omega) (by omega)
  omega
/-- what is asked of points without common factors -/
structure Wh (wh : List R2) (o : List Int) : Prop where
  near : ∀ k ∈ o, near (ptW wh k).a (ptW wh k).b
  cop : ∀ k ∈ o, Int.gcd (ptW wh k).a (ptW wh k).b = 1
  bez : ∀ k ∈ o, bezS (ptW wh k).a (ptW wh k).b * (ptW wh k).a + bezT (ptW wh k).a (ptW wh k).b * (ptW wh k).b = 1
  small : ∀ k ∈ o, (bezS (ptW wh k).a (ptW wh k).b).natAbs + (bezT (ptW wh k).a (ptW wh k).b).natAbs ≤ 17
  det : ∀ k ∈ o, ∀ i ∈ o, k ≠ i → detC wh k i ≠ 0
theorem Wh.tail {wh : List R2} {k : Int} {o : List Int} (h : Wh wh (k :: o)) : Wh wh o :=
  ⟨fun i hi => h.near i (List.mem_cons_of_mem _ hi), fun i hi => h.cop i (List.mem_cons_of_mem _ hi), fun i hi => h.bez i (List.mem_cons_of_mem _ hi), fun i hi => h.small i (List.mem_cons_of_mem _ hi),
    fun k hk i hi => h.det k (List.mem_cons_of_mem _ hk) i (List.mem_cons_of_mem _ hi)⟩
theorem awayOne_good {n : Int} {wh : List R2} {k i : Int} (e : Nat) (hk : 0 ≤ k ∧ k < n) (hi : 0 ≤ i ∧ i < n) (h1 : near (ptW wh k).a (ptW wh k).b) (h2 : near (ptW wh i).a (ptW wh i).b) (h3 : (bezS (ptW wh k).a (ptW wh k).b).natAbs + (bezT (ptW wh k).a (ptW wh k).b).natAbs ≤ 17) (h4 : detC wh k i ≠ 0) :
    Good (3 * n + 1) (e + 3) 1 (awayOne n wh k e i) := by
  have hl := lin_rng h3 h2
  have hd := det_rng h1 h2
  unfold awayOne
  have e1 : Good (3 * n + 1) (e + 2) 0 (if linC wh k i ≠ 0 ∨ e = 0 then powI (3 * n) k (linC wh k i) e ++ [⟨4, i, i, 3 * n, 0⟩] else []) := by
    split
    · exact (powI_good (by omega) (by omega) hl e).append (sub_good (by omega) (by omega) (by omega))
    · exact (Good.nil _).mono (by omega) (by omega)
  have e2 : Good (3 * n + 1) 1 1 (if detC wh k i = 1 then [] else overI i (detC wh k i)) := by
    split
    · exact (Good.nil _).mono (by omega) (by omega)
    · exact (over_good (by omega) h4 hd).mono (Nat.le_refl _) (by split <;> omega)
  exact (e1.append e2).mono (by omega) (by omega)
theorem awayI_good {n : Int} {wh : List R2} {k : Int} (e : Nat) (hk : 0 ≤ k ∧ k < n) (h1 : near (ptW wh k).a (ptW wh k).b) (h3 : (bezS (ptW wh k).a (ptW wh k).b).natAbs + (bezT (ptW wh k).a (ptW wh k).b).natAbs ≤ 17) :
    ∀ left : List Int, (∀ i ∈ left, 0 ≤ i ∧ i < n) → (∀ i ∈ left, near (ptW wh i).a (ptW wh i).b ∧ detC wh k i ≠ 0) → Good (3 * n + 1) (left.length * (e + 3)) left.length (awayI n wh k e left)
  | [], _, _ => (Good.nil _).mono (Nat.zero_le _) (Nat.zero_le _)
  | i :: left, hi, h => by
    have h5 := h i List.mem_cons_self
    refine ((awayOne_good e hk (hi i List.mem_cons_self) h1 h5.1 h3 h5.2).append (awayI_good e hk h1 h3 left (fun j hj => hi j (List.mem_cons_of_mem _ hj)) (fun j hj => h j (List.mem_cons_of_mem _ hj)))).mono ?_ ?_
    · rw [List.length_cons, Nat.succ_mul]; omega
    · rw [List.length_cons]; omega
/-- 0 + 1 + .. -/
def tri : Nat → Nat
  | 0 => 0
  | m + 1 => m + tri m
theorem awayAll_good {n : Int} {wh : List R2} : ∀ o : List Int, o.length ≤ 15 → (∀ i ∈ o, 0 ≤ i ∧ i < n) → o.Nodup → Wh wh o → Good (3 * n + 1) (238 * o.length) (tri o.length) (awayAll n wh o)
  | [], _, _, _, _ => (Good.nil _).mono (Nat.zero_le _) (Nat.zero_le _)
  | k :: left, hl, hr, hn, hw => by
    obtain ⟨hn1, hn2⟩ := List.nodup_cons.1 hn
    rw [List.length_cons] at hl
    have h1 := awayI_good (n := n) (wh := wh) left.length (hr k List.mem_cons_self) (hw.near k List.mem_cons_self) (hw.small k List.mem_cons_self) left (fun i hi => hr i (List.mem_cons_of_mem _ hi)) (fun i hi => ⟨hw.near i (List.mem_cons_of_mem _ hi), hw.det k List.mem_cons_self i (List.mem_cons_of_mem _ hi) (fun e => hn1 (e ▸ hi))⟩)
    have h2 := awayAll_good left (by omega) (fun i hi => hr i (List.mem_cons_of_mem _ hi)) hn2 hw.tail
    refine (h1.append h2).mono ?_ ?_
    · rw [List.length_cons]
      have : left.length * (left.length + 3) ≤ 14 * 17 := Nat.mul_le_mul (by omega) (by omega)
      omega
    · exact Nat.le_refl _
theorem rStep_good {n u v : Int} {th : List Bool} {j : Nat} (hj : (j : Int) < n) (hu : -512 ≤ u ∧ u ≤ 512) (hv : -512 ≤ v ∧ v ≤ 512) : Good (3 * n + 1) 3 0 (rStep n u v th j).2 := by
  unfold rStep
  simp only
  by_cases hj0 : 0 < j
  · have h1 : Good (3 * n + 1) 1 0 (timesI (3 * n) (2 * n + (j - 1)) u) := times_good (by omega) (by omega) hu
    have h2 : Good (3 * n + 1) 1 0 (timesI (2 * n + j) (2 * n + j) v) := times_good (by omega) (by omega) hv
    have h3 : Good (3 * n + 1) 1 0 (timesI (2 * n + j) (3 * n) 1) := times_good (by omega) (by omega) (by omega)
    have h4 : Good (3 * n + 1) 1 0 [(⟨3, 2 * n + j, 2 * n + j, 3 * n, 0⟩ : Sl.Instr)] := add_good (by omega) (by omega) (by omega)
    generalize (decide (0 < j) && th[j - 1]?.getD false && decide (u ≠ 0)) = low
    generalize (th[j]?.getD false && decide (v ≠ 0)) = own
    cases low <;> cases own
    · exact (Good.nil _).mono (by omega) (by omega)
    · exact h2.mono (by omega) (by omega)
    · exact (h1.append h3).mono (by omega) (by omega)
    · exact (h1.append (h2.append h4)).mono (by omega) (by omega)
  · have h2 : Good (3 * n + 1) 1 0 (timesI (2 * n + j) (2 * n + j) v) := times_good (by omega) (by omega) hv
    rw [decide_eq_false hj0]
    generalize (th[j]?.getD false && decide (v ≠ 0)) = own
    cases own
    · exact (Good.nil _).mono (by omega) (by omega)
    · exact h2.mono (by omega) (by omega)
theorem rIn_good {n u v : Int} (hu : -512 ≤ u ∧ u ≤ 512) (hv : -512 ≤ v ∧ v ≤ 512) : ∀ (m : Nat) (th : List Bool), (m : Int) ≤ n → Good (3 * n + 1) (3 * m) 0 (rIn n u v m th).2
  | 0, _, _ => Good.nil _
  | m + 1, th, h => ((rStep_good (by omega) hu hv).append (rIn_good hu hv m _ (by omega))).mono (by omega) (by omega)
theorem rOut_good {n u v : Int} (hu : -512 ≤ u ∧ u ≤ 512) (hv : -512 ≤ v ∧ v ≤ 512) (hn : n ≤ 15) : ∀ (m d : Nat) (th : List Bool), ((d + m : Nat) : Int) ≤ n → Good (3 * n + 1) (45 * m) 0 (rOut n u v m d th).2
  | 0, _, _, _ => Good.nil _
  | m + 1, d, th, h => ((rIn_good hu hv (d + 1) th (by omega)).append (rOut_good hu hv hn m (d + 1) _ (by omega))).mono (by omega) (by omega)
theorem raised_good {n u v k : Int} {e : Nat} (hu : -512 ≤ u ∧ u ≤ 512) (hv : -512 ≤ v ∧ v ≤ 512) (hn : n ≤ 15) (he : (e : Int) < n) (hk : 0 ≤ k ∧ k < n) : Good (3 * n + 1) (1 + 45 * e) 0 (raisedI n u v k e) :=
  (times_good (by omega) (by omega) (by omega)).append (rOut_good hu hv hn e 1 _ (by omega))
theorem bkIn_good {n : Int} {p : R2} (hp : near p.a p.b) : ∀ m : Nat, (m : Int) ≤ n → Good (3 * n + 1) (3 * m) 0 (bkIn n p m)
  | 0, _ => Good.nil _
  | j + 1, h => by
    unfold near at hp
    unfold bkIn
    have h1 : Good (3 * n + 1) 1 0 (if 0 < j then timesI (3 * n) (n + ((j : Int) - 1)) p.b else []) := by
      split
      · exact times_good (by omega) (by omega) (by omega)
      · exact (Good.nil _).mono (by omega) (by omega)
    have h2 : Good (3 * n + 1) 1 0 (timesI (n + j) (n + j) p.a) := times_good (by omega) (by omega) (by omega)
    have h3 : Good (3 * n + 1) 1 0 (if 0 < j then [(⟨4, n + j, n + j, 3 * n, 0⟩ : Sl.Instr)] else []) := by
      split
      · exact sub_good (by omega) (by omega) (by omega)
      · exact (Good.nil _).mono (by omega) (by omega)
    exact (h1.append (h2.append (h3.append (bkIn_good hp j (by omega))))).mono (by omega) (by omega)
theorem addAll_good {n : Int} : ∀ (th : List Bool) (j : Nat), ((j + th.length : Nat) : Int) ≤ n → Good (3 * n + 1) th.length 0 (addAll n th j)
  | [], _, _ => Good.nil _
  | t :: th, j, h => by
    rw [List.length_cons] at h
    have h1 : Good (3 * n + 1) 1 0 (if t then [(⟨3, n + j, n + j, 2 * n + j, 0⟩ : Sl.Instr)] else []) := by
      split
      · exact add_good (by omega) (by omega) (by omega)
      · exact (Good.nil _).mono (by omega) (by omega)
    exact (h1.append (addAll_good th (j + 1) (by omega))).mono (by rw [List.length_cons]; omega) (by omega)
theorem back_good {n : Int} {wh : List R2} {k : Int} {e : Nat} (hn : n ≤ 15) (h1 : 1 ≤ e) (he : (e : Int) < n) (hk : 0 ≤ k ∧ k < n) (hp : near (ptW wh k).a (ptW wh k).b) (hs : (bezS (ptW wh k).a (ptW wh k).b).natAbs + (bezT (ptW wh k).a (ptW wh k).b).natAbs ≤ 17) : Good (3 * n + 1) 700 0 (backI n wh k e) := by
  have a1 := times_good (R := 3 * n + 1) (to := n + e) (x := n + ((e : Int) - 1)) (c := -(ptW wh k).b) (by omega) (by omega) (by unfold near at hp; omega)
  have a2 := bkIn_good (n := n) hp e (by omega)
  have a3 := raised_good (n := n) (u := bezS (ptW wh k).a (ptW wh k).b) (v := bezT (ptW wh k).a (ptW wh k).b) (k := k) (e := e) (by omega) (by omega) hn he hk
  have a4 := addAll_good (n := n) (raisedT n (bezS (ptW wh k).a (ptW wh k).b) (bezT (ptW wh k).a (ptW wh k).b) e) 0 (by rw [raisedT_len]; omega)
  have hl := raisedT_len n (bezS (ptW wh k).a (ptW wh k).b) (bezT (ptW wh k).a (ptW wh k).b) e
  exact ((a1.append a2).append (a3.append a4)).mono (by rw [hl]; omega) (by omega)
theorem backAll_good {n : Int} {wh : List R2} (hn : n ≤ 15) : ∀ o : List Int, (o.length : Int) ≤ n → (∀ i ∈ o, 0 ≤ i ∧ i < n) → Wh wh o → Good (3 * n + 1) (700 * o.length) 0 (backAll n wh o)
  | [], _, _, _ => Good.nil _
  | [k], _, hr, _ => by
    have := hr k List.mem_cons_self
    exact (times_good (by omega) (by omega) (by omega)).mono (by simp) (Nat.le_refl _)
  | k :: i :: left, hl, hr, hw => by
    rw [List.length_cons] at hl
    have h1 := backAll_good hn (i :: left) (by omega) (fun j hj => hr j (List.mem_cons_of_mem _ hj)) hw.tail
    have h2 := back_good (n := n) (wh := wh) (k := k) (e := (i :: left).length) hn (by simp) (by omega) (hr k List.mem_cons_self) (hw.near k List.mem_cons_self) (hw.small k List.mem_cons_self)
    exact (h1.append h2).mono (by rw [List.length_cons (a := k)]; omega) (by omega)
def normAll (m : Nat) : List R2 → Nat → List Sl.Instr
  | [], _ => []
  | p :: l, k => (List.replicate m (overI k (Int.gcd p.a p.b))).flatten ++ normAll m l (k + 1)
def wholeP (p : R2) : R2 := ⟨p.a.tdiv (Int.gcd p.a p.b), p.b.tdiv (Int.gcd p.a p.b)⟩
def codeP (l : List R2) (o : List Int) : List Sl.Instr := normAll (l.length - 1) l 0 ++ (awayAll l.length (l.map wholeP) o ++ backAll l.length (l.map wholeP) o)
def madeP (l : List R2) (o : List Int) : PV := ⟨l.length, 3 * l.length + 1, codeP l o, (List.range l.length).map fun j : Nat => (l.length : Int) + j⟩
theorem gcd_near {p : R2} (h : okP p) : 1 ≤ Int.gcd p.a p.b ∧ Int.gcd p.a p.b ≤ 16 := by
  obtain ⟨h1, h2⟩ := h
  have hg0 : 0 < Int.gcd p.a p.b := Nat.pos_of_ne_zero fun h1 => h2 (Int.gcd_eq_zero_iff.mp h1)
  refine ⟨hg0, ?_⟩
  unfold near at h1
  by_cases ha : p.a = 0
  · have hb : p.b ≠ 0 := fun hb => h2 ⟨ha, hb⟩
    have := Nat.le_of_dvd (by omega) (show Int.gcd p.a p.b ∣ p.b.natAbs from Nat.gcd_dvd_right _ _)
    omega
  · have := Nat.le_of_dvd (by omega) (show Int.gcd p.a p.b ∣ p.a.natAbs from Nat.gcd_dvd_left _ _)
    omega
theorem normAll_good {n : Int} (m : Nat) : ∀ (l : List R2) (k : Nat), ((k + l.length : Nat) : Int) ≤ n → (∀ p ∈ l, okP p) → Good (3 * n + 1) (l.length * m) (m * uneven l) (normAll m l k)
  | [], _, _, _ => (Good.nil _).mono (Nat.zero_le _) (Nat.zero_le _)
  | p :: l, k, h, hp => by
    rw [List.length_cons] at h
    have hg := gcd_near (hp p List.mem_cons_self)
    have h1 := many_good (R := 3 * n + 1) (to := (k : Int)) (c := (Int.gcd p.a p.b : Int)) (by omega) (by omega) (by omega) m
    have h2 := normAll_good (n := n) m l (k + 1) (by omega) (fun q hq => hp q (List.mem_cons_of_mem _ hq))
    refine (h1.append h2).mono ?_ ?_
    · rw [List.length_cons, Nat.succ_mul]; omega
    · have e : uneven (p :: l) = (if Int.gcd p.a p.b = 1 then 0 else 1) + uneven l := by
        unfold uneven
        rw [List.filter_cons]
        by_cases hh : Int.gcd p.a p.b = 1
        · rw [if_neg (by simp [hh]), if_pos hh, Nat.zero_add]
        · rw [if_pos (by simp [hh]), if_neg hh, List.length_cons, Nat.add_comm]
      rw [e, Nat.mul_add]
      by_cases hh : Int.gcd p.a p.b = 1
      · rw [if_pos (by omega), if_pos hh]; omega
      · rw [if_neg (by omega), if_neg hh]; omega
theorem ptW_map (l : List R2) {k : Int} (h0 : 0 ≤ k) (h : k < l.length) : ptW (l.map wholeP) k = wholeP (l[k.toNat]?.getD default) := by
  unfold ptW
  rw [List.getElem?_map, List.getElem?_eq_getElem (show k.toNat < l.length by omega)]; rfl
theorem whole_facts {p : R2} (h : okP p) : p.a = Int.gcd p.a p.b * (wholeP p).a ∧ p.b = Int.gcd p.a p.b * (wholeP p).b ∧ Int.gcd (wholeP p).a (wholeP p).b = 1 ∧ okP (wholeP p) := by
  obtain ⟨g1, g2⟩ := gcd_near h
  have e1 : p.a.tdiv (Int.gcd p.a p.b) * Int.gcd p.a p.b = p.a := Int.tdiv_mul_cancel (Int.gcd_dvd_left p.a p.b)
  have e2 : p.b.tdiv (Int.gcd p.a p.b) * Int.gcd p.a p.b = p.b := Int.tdiv_mul_cancel (Int.gcd_dvd_right p.a p.b)
  have q1 := tdiv_rng p.a (Int.gcd p.a p.b)
  have q2 := tdiv_rng p.b (Int.gcd p.a p.b)
  refine ⟨by rw [Int.mul_comm]; exact e1.symm, by rw [Int.mul_comm]; exact e2.symm, ?_, ?_, ?_⟩
  · show Nat.gcd (p.a.tdiv (Int.gcd p.a p.b)).natAbs (p.b.tdiv (Int.gcd p.a p.b)).natAbs = 1
    rw [show (p.a.tdiv (Int.gcd p.a p.b)).natAbs = p.a.natAbs / Int.gcd p.a p.b from Int.natAbs_tdiv _ _, show (p.b.tdiv (Int.gcd p.a p.b)).natAbs = p.b.natAbs / Int.gcd p.a p.b from Int.natAbs_tdiv _ _]
    exact Nat.coprime_div_gcd_div_gcd g1
  · have h1 := h.1
    unfold near at *
    show _ ≤ p.a.tdiv _ ∧ p.a.tdiv _ ≤ _ ∧ _ ≤ p.b.tdiv _ ∧ p.b.tdiv _ ≤ _
    omega
  · intro ⟨z1, z2⟩
    apply h.2
    have z1 : p.a.tdiv (Int.gcd p.a p.b) = 0 := z1
    have z2 : p.b.tdiv (Int.gcd p.a p.b) = 0 := z2
    rw [z1, Int.zero_mul] at e1
    rw [z2, Int.zero_mul] at e2
    exact ⟨e1.symm, e2.symm⟩
theorem det_ne {l : List R2} (hR : RightL l) {i j : Nat} (hij : i < j) (hj : j < l.length) : (l[i]?.getD default).a * (l[j]?.getD default).b - (l[j]?.getD default).a * (l[i]?.getD default).b ≠ 0 := by
  obtain ⟨h1, h2, h3, h4⟩ := hR
  intro h
  apply h4
  obtain ⟨p1, p2⟩ := h3 i (by omega)
  obtain ⟨q1, q2⟩ := h3 j hj
  refine ⟨j, hj, i, hij, p1, q1, (same_iff _ _ _ _).2 ?_⟩
  unfold oneR
  rw [if_neg (fun h => h.elim p2 q2)]
  exact h
theorem wh_right {l : List R2} (hR : RightL l) {o : List Int} (ho : ∀ k ∈ o, 0 ≤ k ∧ k < l.length) : Wh (l.map wholeP) o := by
  have hok : ∀ k ∈ o, okP (l[k.toNat]?.getD default) := fun k hk => hR.2.2.1 _ (by have := ho k hk; omega)
  have hpt : ∀ k ∈ o, ptW (l.map wholeP) k = wholeP (l[k.toNat]?.getD default) := fun k hk => ptW_map l (ho k hk).1 (ho k hk).2
  have hb : ∀ k ∈ o, bezS (ptW (l.map wholeP) k).a (ptW (l.map wholeP) k).b * (ptW (l.map wholeP) k).a + bezT (ptW (l.map wholeP) k).a (ptW (l.map wholeP) k).b * (ptW (l.map wholeP) k).b = 1 ∧ (bezS (ptW (l.map wholeP) k).a (ptW (l.map wholeP) k).b).natAbs + (bezT (ptW (l.map wholeP) k).a (ptW (l.map wholeP) k).b).natAbs ≤ 17 := fun k hk => by
    rw [hpt k hk]
    obtain ⟨_, _, w3, w4⟩ := whole_facts (hok k hk)
    obtain ⟨b1, b2, _⟩ := bez_facts w4.1 w4.2
    rw [w3] at b1
    exact ⟨b1, b2⟩
  refine ⟨fun k hk => by rw [hpt k hk]; exact (whole_facts (hok k hk)).2.2.2.1, fun k hk => by rw [hpt k hk]; exact (whole_facts (hok k hk)).2.2.1, fun k hk => (hb k hk).1, fun k hk => (hb k hk).2, fun k hk i hi hne => ?_⟩
  have hd : ((l[k.toNat]?.getD default).a * (l[i.toNat]?.getD default).b - (l[i.toNat]?.getD default).a * (l[k.toNat]?.getD default).b) ≠ 0 := by
    have h1 := ho k hk
    have h2 := ho i hi
    rcases Nat.lt_or_ge k.toNat i.toNat with h | h
    · exact det_ne hR h (by omega)
    · have := det_ne hR (show i.toNat < k.toNat by omega) (by omega)
      intro h3; apply this; omega
  intro h0
  apply hd
  unfold detC at h0
  rw [hpt k hk, hpt i hi] at h0
  obtain ⟨a1, a2, _⟩ := whole_facts (hok k hk)
  obtain ⟨c1, c2, _⟩ := whole_facts (hok i hi)
  generalize (l[k.toNat]?.getD default) = p at *
  generalize (l[i.toNat]?.getD default) = q at *
  have key : p.a * q.b - q.a * p.b = ((wholeP p).a * (wholeP q).b - (wholeP q).a * (wholeP p).b) * ((Int.gcd p.a p.b : Int) * (Int.gcd q.a q.b : Int)) := by
    rw [Int.sub_mul]
    calc p.a * q.b - q.a * p.b = (Int.gcd p.a p.b * (wholeP p).a) * (Int.gcd q.a q.b * (wholeP q).b) - (Int.gcd q.a q.b * (wholeP q).a) * (Int.gcd p.a p.b * (wholeP p).b) := by rw [← a1, ← a2, ← c1, ← c2]
      _ = _ := by congr 1 <;> ac_rfl
  rw [key, h0, Int.zero_mul]
theorem code_good {l : List R2} {o : List Int} (hR : RightL l) (ho : OrderP o l.length) : Good (3 * l.length + 1) 16384 (tri l.length + (l.length - 1) * uneven l) (codeP l o) := by
  obtain ⟨o1, o2, o3⟩ := ho
  have hl := hR.2.1
  have hw := wh_right hR o2
  have hok : ∀ p ∈ l, okP p := fun p hp => by
    obtain ⟨i, hi, rfl⟩ := List.mem_iff_getElem.1 hp
    have := hR.2.2.1 i hi
    rw [List.getElem?_eq_getElem hi] at this
    exact this
  have h1 := normAll_good (n := l.length) (l.length - 1) l 0 (by omega) hok
  have h2 := awayAll_good (n := l.length) (wh := l.map wholeP) o (by omega) o2 o3 hw
  have h3 := backAll_good (n := l.length) (wh := l.map wholeP) (by omega) o (by omega) o2 hw
  refine (h1.append (h2.append h3)).mono ?_ ?_
  · have : l.length * (l.length - 1) ≤ 15 * 14 := Nat.mul_le_mul (by omega) (by omega)
    omega
  · rw [o1]; omega
theorem made_right {l : List R2} {o : List Int} (hR : RightL l) (ho : OrderP o l.length) : rightP (madeP l o) = true := by
  have hg := code_good hR ho
  have hl := hR.1
  have hl2 := hR.2.1
  refine right_ofS ⟨?_, ?_, ?_, hg.len, ?_, ?_⟩ ?_ hg.fit
  · show (1 : Int) ≤ l.length; omega
  · show (l.length : Int) ≤ 3 * l.length + 1; omega
  · show (3 * l.length + 1 : Int) ≤ 128; omega
  · show 1 ≤ ((List.range l.length).map _).length; rw [List.length_map, List.length_range]; exact hl
  · show ((List.range l.length).map _).length ≤ 128; rw [List.length_map, List.length_range]; omega
  · intro r hr
    obtain ⟨j, hj, rfl⟩ := List.mem_map.1 hr
    have := List.mem_range.1 hj
    show 0 ≤ (l.length : Int) + j ∧ (l.length : Int) + j < 3 * l.length + 1
    omega
end Go.Proofs.YtbppmiimeccclaaGreat
set_option maxRecDepth 100000
set_option linter.unusedVariables false
namespace Go.Proofs.YtbppmiimeccclaaGreat
open Go Go.Sl
theorem flat_int (l : List Int) : flat l = l.map (Value.int .i64) := by
  induction l with
  | nil => rfl
  | cons x l ih => rw [flat_cons, ih]; rfl
theorem put_flat (l l' : List Int) (jk : List Value) (h : l'.length = l.length) : Go.Sort.putCells (Value.int .i64) 0 l'.toArray (flat l ++ jk).toArray = (flat l' ++ jk).toArray := by
  rw [flat_int, flat_int]
  apply Array.ext_getElem?
  intro k
  simp only [Go.Sort.putCells, Array.getElem?_mapIdx, List.getElem?_toArray, List.size_toArray, Nat.zero_le, true_and, Nat.zero_add, Nat.sub_zero]
  by_cases hk : k < l'.length
  · rw [List.getElem?_append_left (by rw [List.length_map]; omega), List.getElem?_append_left (by rw [List.length_map]; omega), List.getElem?_map, List.getElem?_map, List.getElem?_eq_getElem (show k < l.length by omega), List.getElem?_eq_getElem hk]
    simp [hk]
  · rw [List.getElem?_append_right (by rw [List.length_map]; omega), List.getElem?_append_right (by rw [List.length_map]; omega), List.length_map, List.length_map, h]
    cases jk[k - l.length]? with
    | none => rfl
    | some v => simp [hk]; intro h2; omega
theorem holds_row {w : World} {G : Imm} {b : Nat} {l : List Int} {jk : List Value} {E : TypeId} (hw : HoldH [(0, some b, Row E l jk)] G w) : Go.Sort.Holds (Value.int .i64) w b 0 l.toArray := by
  intro j hj
  have hj : j < l.length := by simpa using hj
  have ho : w.heap[b]? = some (Row E l jk) := hw.own 0 b _ rfl
  constructor
  · show World.cell? w ⟨b, 0 + j, none⟩ = _
    unfold World.cell?
    rw [show w.heap[(⟨b, 0 + j, none⟩ : Addr).block]? = some (Row E l jk) from ho]
    show (flat l ++ jk).toArray[0 + j]? = _
    rw [Nat.zero_add, List.getElem?_toArray, flat_int, List.getElem?_append_left (by rw [List.length_map]; exact hj), List.getElem?_map, List.getElem?_eq_getElem hj]
    simp [hj]
  · show World.frozen? w ⟨b, 0 + j, none⟩ = _
    unfold World.frozen?
    rw [show w.heap[(⟨b, 0 + j, none⟩ : Addr).block]? = some (Row E l jk) from ho]
    show (decide (0 ≤ 0 + j) && decide (0 + j < 0)) = false
    simp
theorem row_put {w : World} {G : Imm} {b n : Nat} {l l' : List Int} {jk : List Value} {E : TypeId} {os : Array Obj} (hw : HoldH [(0, some b, Row E l jk)] G w) (hlen : l'.length = l.length) {v : Value} :
    DoesPost G [(0, some b, Row E l jk)] w (fun v' G' Ho => v' = v ∧ G' = G ∧ Ho = [(0, some b, Row E l' jk)]) (.returned v) (Go.Sort.grow (Go.Sort.putRow (Value.int .i64) (Go.Sort.ahead w n) b 0 l'.toArray) os) := by
  have ho : w.heap[b]? = some (Row E l jk) := hw.own 0 b _ rfl
  have hb : b < w.heap.size := by
    rcases Nat.lt_or_ge b w.heap.size with h | h
    · exact h
    · rw [Array.getElem?_eq_none h] at ho; cases ho
  have hget : ∀ k, k < w.heap.size → (Go.Sort.grow (Go.Sort.putRow (Value.int .i64) (Go.Sort.ahead w n) b 0 l'.toArray) os).heap[k]? = if b = k then some (Row E l' jk) else w.heap[k]? := by
    intro k hk
    show ((w.heap.modify b (Go.Sort.onCells (Go.Sort.putCells (Value.int .i64) 0 l'.toArray))) ++ os)[k]? = _
    rw [Array.getElem?_append_left (by rw [Array.size_modify]; exact hk), Array.getElem?_modify]
    split
    · rename_i e
      subst e
      rw [ho]
      show some (Obj.cells (Go.Sort.putCells (Value.int .i64) 0 l'.toArray (flat l ++ jk).toArray) E (0, 0)) = _
      rw [put_flat _ _ _ hlen]; rfl
    · rfl
  have hone : ∀ {o' : Obj} {t b' : Nat} {o : Obj}, Hp.get [(0, some b, o')] t = some (some b', o) → t = 0 ∧ b = b' ∧ o' = o := by
    intro o' t b' o h
    rw [Hp.get_cons] at h
    split at h
    · rename_i e
      simp at h
      exact ⟨e.symm, h.1, h.2⟩
    · simp [Hp.get] at h
  refine ⟨v, G, [(0, some b, Row E l' jk)], rfl, ⟨?_, ?_, ?_, ?_⟩, Imm.le_refl _, ⟨rfl, rfl, rfl, ?_, ?_⟩, ?_, ?_, rfl, rfl, rfl⟩
  · intro t b' o h
    obtain ⟨_, e, e2⟩ := hone h
    subst e; subst e2
    rw [hget b hb, if_pos rfl]
  · intro t t' b' o o' h h'
    rw [(hone h).1, (hone h').1]
  · intro b' o h
    have h1 := hw.imm b' o h
    have h2 : b' < w.heap.size := by
      rcases Nat.lt_or_ge b' w.heap.size with h | h
      · exact h
      · rw [Array.getElem?_eq_none h] at h1; cases h1
    rw [hget b' h2, if_neg]
    · exact h1
    · intro e
      subst e
      have := hw.off 0 b _ rfl
      rw [h] at this; cases this
  · intro t b' o h
    obtain ⟨_, e, _⟩ := hone h
    subst e
    exact hw.off 0 b _ rfl
  · show w.heap.size ≤ ((w.heap.modify b _) ++ os).size
    rw [Array.size_append, Array.size_modify]; omega
  · intro k hk hx
    rw [hget k hk, if_neg]
    intro e
    subst e
    exact hx ⟨0, _, rfl⟩
  · intro b' h h'; exact absurd h' h
  · intro t b' o h
    obtain ⟨_, e, _⟩ := hone h
    subst e
    exact .inr ⟨0, _, rfl⟩
theorem c147 (G : Imm) (b c : Nat) (l : List Int) (jk : List Value) (h : l.length < 4611686018427387904) :
    Does Tryz.prog 147 [.slice (some ⟨b, 0, none⟩) l.length c] G [(0, some b, Row 3 l jk)] (fun v G' Ho => v = .tuple #[] ∧ G' = G ∧ Ho = [(0, some b, Row 3 (l.mergeSort fun x y => decide (x ≤ y)) jk)]) := fun w hw => by
  have ho : w.heap[b]? = some (Row 3 l jk) := hw.own 0 b _ rfl
  have hb : b < w.heap.size := by
    rcases Nat.lt_or_ge b w.heap.size with h | h
    · exact h
    · rw [Array.getElem?_eq_none h] at ho; cases ho
  have h69 : Calls Tryz.prog 147 #[.slice (some ⟨b, 0, none⟩) l.length c] w _ := Any.slices_Sort_int Tryz.laysSort b 0 c l w (holds_row hw) hb h
  refine h69.mono ?_
  rintro e w' ⟨rfl, n, os, rfl⟩
  exact row_put hw (List.length_mergeSort l)
theorem c147N (G : Imm) (c : Nat) : Does Tryz.prog 147 [.slice none 0 c] G [] (fun v G' Ho => v = .tuple #[] ∧ G' = G ∧ Ho = []) := fun w hw => by
  have h69 : Calls Tryz.prog 147 #[.slice none 0 c] w _ := Any.slices_Sort_int_none Tryz.laysSort none c w
  refine h69.mono ?_
  rintro e w' ⟨rfl, rfl⟩
  exact ⟨_, G, [], rfl, hw, Imm.le_refl _, Upd.refl _ _, fun _ h h' => absurd h' h, fun t b o h => by simp [Hp.get] at h, rfl, rfl, rfl⟩
theorem sorted_le (l : List Int) : (l.mergeSort fun x y => decide (x ≤ y)).Pairwise (· ≤ ·) :=
  (List.pairwise_mergeSort (le := fun x y : Int => decide (x ≤ y)) (fun a b c h1 h2 => by simp at *; omega) (fun a b => by simp; omega) l).imp (fun h => by simpa using h)
theorem row_cut (l : List Int) (m : Nat) (jk : List Value) (E : TypeId) : Row E (l ++ List.replicate m (0 : Int)) jk = Row E l (List.replicate m (.int .i64 0) ++ jk) := by
  unfold Row
  rw [flat_append, List.append_assoc, flat_int (List.replicate m 0), List.map_replicate]
end Go.Proofs.YtbppmiimeccclaaGreat
set_option maxRecDepth 100000
set_option linter.unusedVariables false
namespace Go.Proofs.YtbppmiimeccclaaGreat
open Go Go.Sl
set_option maxHeartbeats 4000000
attribute [local irreducible] RightL
theorem c141N (G : Imm) (a b c d : Int) (h : near a b) (h' : near c d) : Does Tryz.prog 141 [.agg #[.int .i64 a, .int .i64 b], .agg #[.int .i64 c, .int .i64 d]] G [] (fun v G' Ho => v = .tuple #[.int .i64 (a * d - c * b), .int .i64 0] ∧ G' = G ∧ Ho = []) :=
  (c141 G a b c d).mono fun v G' Ho _ ⟨e1, e2, e3⟩ => ⟨by rw [e1, if_pos ⟨h, h'⟩, if_pos ⟨h, h'⟩], e2, e3⟩
end Go.Proofs.YtbppmiimeccclaaGreat
set_option maxRecDepth 100000
set_option linter.unusedVariables false
namespace Go.Proofs.YtbppmiimeccclaaGreat
open Go Go.Sl
set_option maxHeartbeats 4000000
theorem c88 (G : Imm) (b : Nat) (ac : Option Addr) (cc : Nat) (code : List Sl.Instr) (j : List Value) (wa : Option Addr) (wc : Nat) (wh : List R2) (k : Int) (la : Option Addr) (lc : Nat) (left : List Int) (e : Nat) (ho : OwnA ac cc code j) (hw : Arr G wa wh) (hla : Arr G la left)
    (hwl : wh.length ≤ 15) (hk : 0 ≤ k ∧ k < wh.length) (hll : left.length ≤ 15) (hleft : ∀ i, i < left.length → 0 ≤ left[i]?.getD default ∧ left[i]?.getD default < wh.length) (he : e ≤ 14) (hok : ∀ i, i < wh.length → okP (wh[i]?.getD default)) (hl : (code ++ awayI wh.length wh k e left).length ≤ 1048576) :
    Does Tryz.prog 88 [.pointer (some ⟨b, 0, none⟩), .int .i64 k, .slice la left.length lc, .int .i64 e] G [(0, some b, .cells #[.int .i64 wh.length, .slice ac code.length cc, .slice wa wh.length wc] 149), (1, ac.map (·.block), Row 93 code j)]
      (fun v G' Ho => v = .tuple #[] ∧ G' = G ∧ ∃ (a' : Option Addr) (c' : Nat) (j' : List Value), OwnA a' c' (code ++ awayI wh.length wh k e left) j' ∧ Ho = [(0, some b, .cells #[.int .i64 wh.length, .slice a' (code ++ awayI wh.length wh k e left).length c', .slice wa wh.length wc] 149), (1, a'.map (·.block), Row 93 (code ++ awayI wh.length wh k e left) j')]) := by
  have hl0 : code.length ≤ 1048576 := by rw [List.length_append] at hl; omega
  obtain ⟨hnk, hzk⟩ := hok k.toNat (by omega)
  obtain ⟨_, b2, _, _⟩ := bez_facts hnk hzk
  refine Does.enter Tryz.func88 rfl Tryz.ntmps88 rfl (fun w => ?_)
  refine Wc.scope ?_
  refine Wc.gl 7 [0] ?_
  refine Wl.q rfl (Qy.at (α := R2) T.sl26 rfl rfl (by assumption) (by omega)) ?_
  refine Wl.q rfl (Qy.loadsG T.agg59 rfl (Arr.elem (by assumption) (by omega)) rfl) ?_
  refine Wl.alloc 2 rfl T.zero59 (fun b1 => ?_)
  refine Wl.gl 6 [2, 2] ?_
  refine Wl.call0 rfl T.fn86 rfl (c86 _ _ _ (by assumption) (by assumption)) ?_
  refine Wl.gc 22 [] ?_
  generalize hTg : code ++ awayI wh.length wh k e left = Tg at *
  refine Wc.loop (ι := Nat × List Sl.Instr × (Option Addr × Nat × List Value)) (fun (t, cd, (o, d, q)) => ([(35, .int .i64 (t : Int)), (34, Go.Value.int Go.IntKind.i64 (↑(List.length left) : Int)), (33, Go.Value.slice la (List.length left) lc), (11, Go.Value.int Go.IntKind.i64 (Go.Proofs.YtbppmiimeccclaaGreat.bezT (Go.Sl.R2.a (Option.getD wh[Int.toNat k]? Inhabited.default)) (Go.Sl.R2.b (Option.getD wh[Int.toNat k]? Inhabited.default)))), (10, Go.Value.int Go.IntKind.i64 (Go.Proofs.YtbppmiimeccclaaGreat.bezS (Go.Sl.R2.a (Option.getD wh[Int.toNat k]? Inhabited.default)) (Go.Sl.R2.b (Option.getD wh[Int.toNat k]? Inhabited.default)))), (8, Go.Value.pointer (Option.some (Go.Addr.mk b1 0 Option.none))), (0, Go.Value.pointer (Option.some (Go.Addr.mk b 0 Option.none))), (1, Go.Value.int Go.IntKind.i64 k), (3, Go.Value.int Go.IntKind.i64 (↑e : Int))], [(0, some b, .cells #[.int .i64 wh.length, .slice o cd.length d, .slice wa wh.length wc] 149), (1, o.map (·.block), Row 93 cd q), (2, Option.some b1, Go.Obj.cells (List.toArray (Go.Sl.Cells.enc (Option.getD wh[Int.toNat k]? Inhabited.default))) 59)])) (fun (t, cd, (o, d, q)) => t ≤ left.length ∧ cd ++ awayI wh.length wh k e (left.drop t) = Tg ∧ OwnA o d cd q) (fun (t, cd, (o, d, q)) => left.length - t) ((0, code, (ac, cc, j))) (⟨Nat.zero_le _, hTg, ho⟩) ⟨rfl, rfl, rfl, rfl, rfl, rfl, rfl, rfl, rfl, trivial⟩ ⟨rfl, rfl, rfl, trivial⟩ (fun ⟨t, cd, (o, d, q)⟩ => fun (hk : t ≤ left.length ∧ cd ++ awayI wh.length wh k e (left.drop t) = Tg ∧ OwnA o d cd q) => ?_)
  obtain ⟨ht1, ht3, ht4⟩ := hk
  have htl : cd.length ≤ 1048576 := by rw [← ht3, List.length_append] at hl; omega
  rcases Nat.lt_or_ge t left.length with hte | hte
  · have hi := hleft t hte
    have hdr : left.drop t = left[((t : Nat) : Int).toNat]?.getD default :: left.drop (t + 1) := by
      rw [List.drop_eq_getElem_cons hte, Int.toNat_natCast, List.getElem?_eq_getElem hte]; rfl
    rw [Int.toNat_natCast] at hdr
    obtain ⟨hni, hzi⟩ := hok (left[((t : Nat) : Int).toNat]?.getD default).toNat (by rw [Int.toNat_natCast]; omega)
    have hi' : 0 ≤ left[((t : Nat) : Int).toNat]?.getD default ∧ left[((t : Nat) : Int).toNat]?.getD default < wh.length := by rw [Int.toNat_natCast]; exact hi
    rw [hdr] at ht3
    have ht3 : cd ++ (awayOne wh.length wh k e (left[((t : Nat) : Int).toNat]?.getD default) ++ awayI wh.length wh k e (left.drop (t + 1))) = Tg := by rw [Int.toNat_natCast]; exact ht3
    have hlr : -512 ≤ linC wh k (left[((t : Nat) : Int).toNat]?.getD default) ∧ linC wh k (left[((t : Nat) : Int).toNat]?.getD default) ≤ 512 := lin_rng b2 hni
    have hm1 : (bezS (wh[k.toNat]?.getD default).a (wh[k.toNat]?.getD default).b * (wh[(left[((t : Nat) : Int).toNat]?.getD default).toNat]?.getD default).a).natAbs ≤ 17 * 16 := by rw [Int.natAbs_mul]; exact Nat.mul_le_mul (by omega) (by unfold near at hni; omega)
    have hm2 : (bezT (wh[k.toNat]?.getD default).a (wh[k.toNat]?.getD default).b * (wh[(left[((t : Nat) : Int).toNat]?.getD default).toNat]?.getD default).b).natAbs ≤ 17 * 16 := by rw [Int.natAbs_mul]; exact Nat.mul_le_mul (by omega) (by unfold near at hni; omega)
    have hTl : cd.length + (awayOne wh.length wh k e (left[((t : Nat) : Int).toNat]?.getD default)).length ≤ 1048576 := by rw [← ht3, List.length_append, List.length_append] at hl; omega
    unfold awayOne at ht3 hTl
    rw [List.length_append] at hTl
    refine Wc.gl 13 [1] ?_
    refine Wl.q rfl (Qy.at (α := Int) T.sl23 rfl rfl (by assumption) (by omega)) ?_
    refine Wl.q rfl (Qy.loadG T.one3 rfl (Arr.cell (by assumption) (by omega) 0 rfl rfl)) ?_
    refine Wl.gl 10 [0] ?_
    refine Wl.q rfl (Qy.at (α := R2) T.sl26 rfl rfl (by assumption) (by omega)) ?_
    refine Wl.q rfl (Qy.loadsG T.agg59 rfl (Arr.elem (by assumption) (by omega)) rfl) ?_
    refine Wl.alloc 3 rfl T.zero59 (fun b3 => ?_)
    refine Wl.gl 7 [3, 2, 3] ?_
    refine Wl.call0 rfl T.fn141 rfl (c141N _ _ _ _ _ (by assumption) (by assumption)) ?_
    refine Wl.gl 12 [3] ?_
    refine Wl.q rfl (Qy.mul rfl rfl (by omega)) ?_
    refine Wl.ll0 3 [3] ?_
    refine Wl.q rfl (Qy.mul rfl rfl (by omega)) ?_
    refine Wl.gl 10 [] ?_
    apply Wl.joinOr 3 63 66 rfl
    intro hg1
    refine Wl.ll0 5 [] ?_
    exact Wl.back 3 0 rfl rfl rfl rfl rfl
    intro hg1
    refine Wl.ll0 3 [] ?_
    exact Wl.back 3 0 rfl rfl rfl rfl rfl
    refine Wl.gc 2 [] ?_
    refine Wc.cond rfl (fun hc1 => ?_) (fun hc1 => ?_)
    refine Wc.gl 4 [] ?_
    refine Wl.call1 0 rfl T.fn143 rfl (c143 _ b _ _ _ (by omega)) (tags_of ⟨rfl, trivial⟩) ?_
    refine Wl.ll0 3 [] ?_
    rotate_left
    refine Wc.gc 9 [] ?_
    refine Wc.cond rfl (fun hc2 => ?_) (fun hc2 => ?_)
    refine Wc.ga 8 [] ?_
    rotate_left
    refine Wc.gl 6 [] ?_
    rotate_left
    · have hcc : linC wh k (left[((t : Nat) : Int).toNat]?.getD default) ≠ 0 ∨ e = 0 := by
        rcases hc1 with h | h
        · exact .inl h
        · exact .inr (by omega)
      rw [if_pos hcc] at ht3 hTl
      rw [List.length_append, List.length_singleton] at hTl
      have hq1 : (cd ++ powI (3 * (wh.length : Int)) k (linC wh k (left[((t : Nat) : Int).toNat]?.getD default)) e).length ≤ 1048576 := by rw [List.length_append]; omega
      refine Wl.call 0 rfl T.fn142 rfl (c142 _ b _ o d cd q wa _ wc (3 * (wh.length : Int)) k (linC wh k (left[((t : Nat) : Int).toNat]?.getD default)) e ht4 hq1 hlr (by omega)) (tags_of ⟨rfl, rfl, trivial⟩) (fun v1 G1 Ho1 hle1 hp => ?_)
      obtain ⟨rfl, rfl, a1, d1, j1, ho1, rfl⟩ := hp
      refine Wl.gl 7 [] ?_
      refine Wl.call1 0 rfl T.fn143 rfl (c143 _ b _ _ _ (by omega)) (tags_of ⟨rfl, trivial⟩) ?_
      refine Wl.call 0 rfl T.fn140 rfl (c140 _ b _ a1 d1 (cd ++ powI (3 * (wh.length : Int)) k (linC wh k (left[((t : Nat) : Int).toNat]?.getD default)) e) j1 wa _ wc _ _ _ _ _ ho1 hq1) (tags_of ⟨rfl, rfl, trivial⟩) (fun v2 G2 Ho2 hle2 hp => ?_)
      obtain ⟨rfl, rfl, a2, d2, j2, ho2, rfl⟩ := hp
      refine Wl.gc 9 [] ?_
      refine Wc.cond rfl (fun hc2 => ?_) (fun hc2 => ?_)
      refine Wc.ga 8 [] ?_
      rotate_left
      refine Wc.gl 6 [] ?_
      rotate_left
      · have hdd : detC wh k (left[((t : Nat) : Int).toNat]?.getD default) = 1 := hc2
        rw [if_pos hdd, List.append_nil] at ht3
        refine Ar.re 35 rfl (show _ = Value.int .i64 ((t + 1 : Nat) : Int) from rfl) ?_
        refine Ar.again ((t + 1, (cd ++ powI (3 * (wh.length : Int)) k (linC wh k (left[((t : Nat) : Int).toNat]?.getD default)) e ++ [(⟨4, (left[((t : Nat) : Int).toNat]?.getD default), (left[((t : Nat) : Int).toNat]?.getD default), 3 * (wh.length : Int), 0⟩ : Sl.Instr)]), (a2, d2, j2))) ?_ ?_ rfl ⟨rfl, rfl, rfl, rfl, rfl, rfl, rfl, rfl, rfl, trivial⟩ ⟨rfl, rfl, rfl, trivial⟩
        · refine ⟨hte, ?_, ho2⟩
          rw [← ht3]; simp only [List.append_assoc]
        · show left.length - (t + 1) < left.length - t
          omega
      · have hdd : ¬ detC wh k (left[((t : Nat) : Int).toNat]?.getD default) = 1 := hc2
        rw [if_neg hdd] at ht3 hTl
        have hq2 : (cd ++ powI (3 * (wh.length : Int)) k (linC wh k (left[((t : Nat) : Int).toNat]?.getD default)) e ++ [(⟨4, (left[((t : Nat) : Int).toNat]?.getD default), (left[((t : Nat) : Int).toNat]?.getD default), 3 * (wh.length : Int), 0⟩ : Sl.Instr)]).length ≤ 1048576 := by rw [List.length_append, List.length_append, List.length_singleton]; omega
        refine Wl.call 0 rfl T.fn87 rfl (c87 _ b _ a2 d2 (cd ++ powI (3 * (wh.length : Int)) k (linC wh k (left[((t : Nat) : Int).toNat]?.getD default)) e ++ [(⟨4, (left[((t : Nat) : Int).toNat]?.getD default), (left[((t : Nat) : Int).toNat]?.getD default), 3 * (wh.length : Int), 0⟩ : Sl.Instr)]) j2 wa _ wc _ _ ho2 hq2) (tags_of ⟨rfl, rfl, trivial⟩) (fun v3 G3 Ho3 hle3 hp => ?_)
        obtain ⟨rfl, rfl, a3, d3, j3, ho3, rfl⟩ := hp
        refine Wl.ga 7 [] ?_
        refine Ar.re 35 rfl (show _ = Value.int .i64 ((t + 1 : Nat) : Int) from rfl) ?_
        refine Ar.again ((t + 1, (cd ++ powI (3 * (wh.length : Int)) k (linC wh k (left[((t : Nat) : Int).toNat]?.getD default)) e ++ [(⟨4, (left[((t : Nat) : Int).toNat]?.getD default), (left[((t : Nat) : Int).toNat]?.getD default), 3 * (wh.length : Int), 0⟩ : Sl.Instr)]) ++ overI (left[((t : Nat) : Int).toNat]?.getD default) (detC wh k (left[((t : Nat) : Int).toNat]?.getD default)), (a3, d3, j3))) ?_ ?_ rfl ⟨rfl, rfl, rfl, rfl, rfl, rfl, rfl, rfl, rfl, trivial⟩ ⟨rfl, rfl, rfl, trivial⟩
        · refine ⟨hte, ?_, ho3⟩
          rw [← ht3]; simp only [List.append_assoc]
        · show left.length - (t + 1) < left.length - t
          omega
    · have hcc : ¬ (linC wh k (left[((t : Nat) : Int).toNat]?.getD default) ≠ 0 ∨ e = 0) := fun h => hc1 (h.elim .inl (fun h => .inr (by omega)))
      rw [if_neg hcc] at ht3 hTl
      have hdd : detC wh k (left[((t : Nat) : Int).toNat]?.getD default) = 1 := hc2
      rw [if_pos hdd] at ht3
      refine Ar.re 35 rfl (show _ = Value.int .i64 ((t + 1 : Nat) : Int) from rfl) ?_
      refine Ar.again ((t + 1, cd, (o, d, q))) ?_ ?_ rfl ⟨rfl, rfl, rfl, rfl, rfl, rfl, rfl, rfl, rfl, trivial⟩ ⟨rfl, rfl, rfl, trivial⟩
      · exact ⟨hte, ht3, ht4⟩
      · show left.length - (t + 1) < left.length - t
        omega
    · have hcc : ¬ (linC wh k (left[((t : Nat) : Int).toNat]?.getD default) ≠ 0 ∨ e = 0) := fun h => hc1 (h.elim .inl (fun h => .inr (by omega)))
      rw [if_neg hcc] at ht3 hTl
      have hdd : ¬ detC wh k (left[((t : Nat) : Int).toNat]?.getD default) = 1 := hc2
      rw [if_neg hdd] at ht3
      refine Wl.call 0 rfl T.fn87 rfl (c87 _ b _ o d cd q wa _ wc _ _ ht4 htl) (tags_of ⟨rfl, rfl, trivial⟩) (fun v1 G1 Ho1 hle1 hp => ?_)
      obtain ⟨rfl, rfl, a1, d1, j1, ho1, rfl⟩ := hp
      refine Wl.ga 7 [] ?_
      refine Ar.re 35 rfl (show _ = Value.int .i64 ((t + 1 : Nat) : Int) from rfl) ?_
      refine Ar.again ((t + 1, cd ++ overI (left[((t : Nat) : Int).toNat]?.getD default) (detC wh k (left[((t : Nat) : Int).toNat]?.getD default)), (a1, d1, j1))) ?_ ?_ rfl ⟨rfl, rfl, rfl, rfl, rfl, rfl, rfl, rfl, rfl, trivial⟩ ⟨rfl, rfl, rfl, trivial⟩
      · refine ⟨hte, ?_, ho1⟩
        rw [← ht3, List.nil_append]; simp only [List.append_assoc]
      · show left.length - (t + 1) < left.length - t
        omega
  · have hte : t = left.length := by omega
    subst hte
    rw [List.drop_length] at ht3
    have ht3 : cd = Tg := by rw [← ht3]; exact (List.append_nil _).symm
    subst ht3
    refine Wc.ga 11 [0] ?_
    refine Ar.scopeN ?_
    refine Ar.out0 (by first | exact .inl rfl | exact .inr rfl) (Ho := [(0, some b, .cells #[.int .i64 wh.length, .slice o cd.length d, .slice wa wh.length wc] 149), (1, o.map (·.block), Row 93 cd q)]) rfl ⟨rfl, rfl, trivial⟩ ?_
    exact ⟨rfl, rfl, o, d, q, ht4, rfl⟩
end Go.Proofs.YtbppmiimeccclaaGreat
set_option maxRecDepth 100000
set_option linter.unusedVariables false
namespace Go.Proofs.YtbppmiimeccclaaGreat
open Go Go.Sl
set_option maxHeartbeats 4000000
theorem rStep_eq {n u v : Int} {ti : List Bool} {m : Nat} {low own : Bool} (hl : (decide (0 < m) && ti[m - 1]?.getD false && decide (u ≠ 0)) = low) (ho : (ti[m]?.getD false && decide (v ≠ 0)) = own) :
    rStep n u v ti m = (ti.set m (own || low), (if low then timesI (3 * n) (2 * n + (m - 1)) u else []) ++ (if own && low then timesI (2 * n + m) (2 * n + m) v ++ [⟨3, 2 * n + m, 2 * n + m, 3 * n, 0⟩] else if own then timesI (2 * n + m) (2 * n + m) v else if low then timesI (2 * n + m) (3 * n) 1 else [])) := by
  subst hl ho; rfl
theorem c144 (G : Imm) (b : Nat) (ac : Option Addr) (cc : Nat) (code : List Sl.Instr) (j : List Value) (wa : Option Addr) (wc : Nat) (wh : List R2) (k : Int) (e : Nat) (ho : OwnA ac cc code j) (hw : Arr G wa wh)
    (hwl : wh.length ≤ 15) (hk : 0 ≤ k ∧ k < wh.length) (he : e < wh.length) (hok : okP (wh[k.toNat]?.getD default)) (hl : (code ++ raisedI wh.length (bezS (wh[k.toNat]?.getD default).a (wh[k.toNat]?.getD default).b) (bezT (wh[k.toNat]?.getD default).a (wh[k.toNat]?.getD default).b) k e).length ≤ 1048576) :
    Does Tryz.prog 144 [.pointer (some ⟨b, 0, none⟩), .int .i64 k, .int .i64 e] G [(0, some b, .cells #[.int .i64 wh.length, .slice ac code.length cc, .slice wa wh.length wc] 149), (1, ac.map (·.block), Row 93 code j)]
      (fun v G' Ho => G' = G ∧ ∃ (a' : Option Addr) (c' : Nat) (j' : List Value) (th : List Bool) (cd : List Sl.Instr) (tb : Nat), th = raisedT wh.length (bezS (wh[k.toNat]?.getD default).a (wh[k.toNat]?.getD default).b) (bezT (wh[k.toNat]?.getD default).a (wh[k.toNat]?.getD default).b) e ∧
        cd = code ++ raisedI wh.length (bezS (wh[k.toNat]?.getD default).a (wh[k.toNat]?.getD default).b) (bezT (wh[k.toNat]?.getD default).a (wh[k.toNat]?.getD default).b) k e ∧ v = .slice (some ⟨tb, 0, none⟩) th.length th.length ∧ OwnA a' c' cd j' ∧ OwnA (some ⟨tb, 0, none⟩) th.length th [] ∧
        Ho = [(0, some b, .cells #[.int .i64 wh.length, .slice a' cd.length c', .slice wa wh.length wc] 149), (1, a'.map (·.block), Row 93 cd j'), (2, some tb, Row 4 th [])]) := by
  have hl0 : code.length ≤ 1048576 := by rw [List.length_append] at hl; omega
  obtain ⟨hnk, hzk⟩ := hok
  obtain ⟨_, b2, _, _⟩ := bez_facts hnk hzk
  refine Does.enter Tryz.func144 rfl Tryz.ntmps144 rfl (fun w => ?_)
  refine Wc.gl 12 [0] ?_
  refine Wl.q rfl (Qy.at (α := R2) T.sl26 rfl rfl (by assumption) (by omega)) ?_
  refine Wl.q rfl (Qy.loadsG T.agg59 rfl (Arr.elem (by assumption) (by omega)) rfl) ?_
  refine Wl.call0 rfl T.fn86 rfl (c86 _ _ _ (by assumption) (by assumption)) ?_
  refine Wl.gl 15 [] ?_
  refine Wl.make (α := Bool) 2 rfl T.sl87 T.el4 rfl rfl (by omega) (by omega) (fun b1 => ?_)
  refine Wl.gl 6 [] ?_
  generalize hu : bezS (wh[k.toNat]?.getD default).a (wh[k.toNat]?.getD default).b = u at *
  generalize hv : bezT (wh[k.toNat]?.getD default).a (wh[k.toNat]?.getD default).b = v at *
  have hR1 : List.replicate ((e : Int) + 1).toNat (default : Bool) = List.replicate (e + 1) false := by rw [show ((e : Int) + 1).toNat = e + 1 by omega]; rfl
  generalize hR0 : List.replicate ((e : Int) + 1).toNat (default : Bool) = R0 at *
  have hR0l : R0.length = e + 1 := by rw [hR1, List.length_replicate]
  have hoR : OwnA (some ⟨b1, 0, none⟩) R0.length R0 [] := OwnA.made (by simp only [maxLen]; omega)
  refine Wl.q rfl (Qy.indexAddrO (α := Bool) T.sl87 rfl rfl (by assumption) (by omega)) ?_
  refine Wl.setO (z := _) 2 T.size4 rfl rfl rfl (by assumption) (by omega) rfl (fun ho1 => ?_)
  refine Wl.gl 6 [] ?_
  refine Wl.call1 0 rfl T.fn145 rfl (c145 _ b _ _ _ _ (by omega) (by omega)) (tags_of ⟨rfl, trivial⟩) ?_
  refine Wl.q rfl (Qy.move rfl) ?_
  refine Wl.call 0 rfl T.fn89 rfl (c89 _ b _ ac cc code j wa _ wc _ _ _ ho hl0) (tags_of ⟨rfl, rfl, trivial⟩) (fun v1 G1 Ho1 hle1 hp => ?_)
  obtain ⟨rfl, rfl, a1, d1, j1, ho1, rfl⟩ := hp
  refine Wl.gc 9 [] ?_
  have hTg : code ++ raisedI wh.length u v k e = (code ++ timesI (2 * (wh.length : Int) + 0) k 1) ++ (rOut wh.length u v e 1 (R0.set (Int.toNat 0) true)).2 := by
    unfold raisedI
    rw [Int.add_zero, hR1, List.append_assoc]; rfl
  have hTh : raisedT wh.length u v e = (rOut wh.length u v e 1 (R0.set (Int.toNat 0) true)).1 := by unfold raisedT; rw [hR1]; rfl
  generalize code ++ raisedI wh.length u v k e = Tg at *
  generalize raisedT wh.length u v e = Th at *
  refine Wc.re 11 rfl (show _ = Value.slice (some ⟨b1, 0, none⟩) (R0.set (Int.toNat 0) true).length (e + 1) by rw [List.length_set, hR0l]) ?_
  refine Wc.loop (ι := Nat × List Bool × List Sl.Instr × (Option Addr × Nat × List Value)) (fun (d, th, cd, (o, dd, q)) => ([(12, .int .i64 (d : Int)), (11, .slice (some ⟨b1, 0, none⟩) th.length (e + 1)), (9, Go.Value.int Go.IntKind.i64 v), (8, Go.Value.int Go.IntKind.i64 u), (6, Go.Value.slice Option.none 0 0), (0, Go.Value.pointer (Option.some (Go.Addr.mk b 0 Option.none))), (2, Go.Value.int Go.IntKind.i64 (↑e : Int))], [(0, some b, .cells #[.int .i64 wh.length, .slice o cd.length dd, .slice wa wh.length wc] 149), (1, o.map (·.block), Row 93 cd q), (2, some b1, Row 4 th [])])) (fun (d, th, cd, (o, dd, q)) => (1 ≤ d ∧ d ≤ e + 1) ∧ th.length = e + 1 ∧ (rOut wh.length u v (e + 1 - d) d th).1 = Th ∧ cd ++ (rOut wh.length u v (e + 1 - d) d th).2 = Tg ∧ OwnA (some ⟨b1, 0, none⟩) (e + 1) th [] ∧ OwnA o dd cd q) (fun (d, th, cd, (o, dd, q)) => e + 1 - d) ((1, _, code ++ timesI (2 * (wh.length : Int) + 0) k 1, (a1, d1, j1))) (⟨by omega, by rw [List.length_set, hR0l], hTh.symm, hTg.symm, by rw [← hR0l]; assumption, ho1⟩) ⟨rfl, rfl, rfl, rfl, rfl, rfl, rfl, trivial⟩ ⟨rfl, rfl, rfl, trivial⟩ (fun ⟨d, th, cd, (o, dd, q)⟩ => fun (hk : (1 ≤ d ∧ d ≤ e + 1) ∧ th.length = e + 1 ∧ (rOut wh.length u v (e + 1 - d) d th).1 = Th ∧ cd ++ (rOut wh.length u v (e + 1 - d) d th).2 = Tg ∧ OwnA (some ⟨b1, 0, none⟩) (e + 1) th [] ∧ OwnA o dd cd q) => ?_)
  obtain ⟨⟨hd1, hd2⟩, hth, hT1, hT2, hoT, hoC⟩ := hk
  have hcl : cd.length ≤ 1048576 := by rw [← hT2, List.length_append] at hl; omega
  rcases Nat.lt_or_ge d (e + 1) with hde | hde
  · have e1 : e + 1 - d = (e + 1 - (d + 1)) + 1 := by omega
    rw [e1] at hT1 hT2
    unfold rOut at hT1 hT2
    simp only at hT1 hT2
    refine Wc.gc 20 [1] ?_
    generalize hA1 : (rIn wh.length u v (d + 1) th).1 = A1 at *
    generalize hB1 : (rIn wh.length u v (d + 1) th).2 = B1 at *
    have hcb : (cd ++ B1).length ≤ 1048576 := by rw [← hT2, ← List.append_assoc, List.length_append] at hl; omega
    refine Wc.re 13 rfl (show _ = Value.int .i64 (((d + 1 : Nat) : Int) - 1) by congr 1; omega) ?_
    refine Wc.loop (ι := Nat × List Bool × List Sl.Instr × (Option Addr × Nat × List Value)) (fun (m, ti, ci, (o, dd, q)) => ([(13, .int .i64 ((m : Int) - 1)), (2, .int .i64 (e : Int)), (12, .int .i64 (d : Int)), (11, .slice (some ⟨b1, 0, none⟩) ti.length (e + 1)), (9, Go.Value.int Go.IntKind.i64 v), (8, Go.Value.int Go.IntKind.i64 u), (6, Go.Value.slice Option.none 0 0), (0, Go.Value.pointer (Option.some (Go.Addr.mk b 0 Option.none)))], [(0, some b, .cells #[.int .i64 wh.length, .slice o ci.length dd, .slice wa wh.length wc] 149), (1, o.map (·.block), Row 93 ci q), (2, some b1, Row 4 ti [])])) (fun (m, ti, ci, (o, dd, q)) => m ≤ d + 1 ∧ ti.length = e + 1 ∧ (rIn wh.length u v m ti).1 = A1 ∧ ci ++ (rIn wh.length u v m ti).2 = cd ++ B1 ∧ OwnA (some ⟨b1, 0, none⟩) (e + 1) ti [] ∧ OwnA o dd ci q) (fun (m, ti, ci, (o, dd, q)) => m) ((d + 1, th, cd, (o, dd, q))) (⟨Nat.le_refl _, hth, hA1, by rw [hB1], hoT, hoC⟩) ⟨rfl, rfl, rfl, rfl, rfl, rfl, rfl, rfl, trivial⟩ ⟨rfl, rfl, rfl, trivial⟩ (fun ⟨m, ti, ci, (o, dd, q)⟩ => fun (hk : m ≤ d + 1 ∧ ti.length = e + 1 ∧ (rIn wh.length u v m ti).1 = A1 ∧ ci ++ (rIn wh.length u v m ti).2 = cd ++ B1 ∧ OwnA (some ⟨b1, 0, none⟩) (e + 1) ti [] ∧ OwnA o dd ci q) => ?_)
    obtain ⟨hm1, hti, hS1, hS2, hoTi, hoCi⟩ := hk
    have hcil : ci.length ≤ 1048576 := by rw [← hS2, List.length_append] at hcb; omega
    match m, hm1, hS1, hS2 with
    | 0, hm1, hS1, hS2 =>
      have hS1 : ti = A1 := hS1
      have hS2 : ci = cd ++ B1 := by rw [← hS2]; exact (List.append_nil _).symm
      refine Wc.ga 19 [0] ?_
      refine Ar.re 12 rfl (show _ = Value.int .i64 ((d + 1 : Nat) : Int) from rfl) ?_
      refine Ar.again ((d + 1, ti, ci, (o, dd, q))) ?_ ?_ rfl ⟨rfl, rfl, rfl, rfl, rfl, rfl, rfl, trivial⟩ ⟨rfl, rfl, rfl, trivial⟩
      · refine ⟨by omega, hti, ?_, ?_, hoTi, hoCi⟩
        · rw [hS1]; exact hT1
        · rw [hS1, hS2, List.append_assoc]; exact hT2
      · show e + 1 - (d + 1) < e + 1 - d
        omega
    | m + 1, hm1, hS1, hS2 =>
      refine Wc.re 13 rfl (show _ = Value.int .i64 (m : Int) by congr 1; omega) ?_
      unfold rIn at hS1 hS2
      simp only at hS1 hS2
      have hdf : ∀ z : Nat, ti[z]?.getD default = ti[z]?.getD false := fun z => rfl
      have hlowF : (¬ (0 < m ∧ ti[m - 1]?.getD false = true ∧ u ≠ 0)) → (decide (0 < m) && ti[m - 1]?.getD false && decide (u ≠ 0)) = false := fun h => by
        cases hx : ti[m - 1]?.getD false <;> by_cases h1 : 0 < m <;> by_cases h2 : u ≠ 0 <;> simp [h1, h2]
        exact h ⟨h1, hx, h2⟩
      have hownF : (¬ (ti[m]?.getD false = true ∧ v ≠ 0)) → (ti[m]?.getD false && decide (v ≠ 0)) = false := fun h => by
        cases hx : ti[m]?.getD false <;> by_cases h2 : v ≠ 0 <;> simp [h2]
        exact h ⟨hx, h2⟩
      have hownT : (ti[m]?.getD false = true ∧ v ≠ 0) → (ti[m]?.getD false && decide (v ≠ 0)) = true := fun h => by rw [h.1, decide_eq_true h.2]; rfl
      have hlowT : (0 < m ∧ ti[m - 1]?.getD false = true ∧ u ≠ 0) → (decide (0 < m) && ti[m - 1]?.getD false && decide (u ≠ 0)) = true := fun h => by rw [h.2.1, decide_eq_true h.1, decide_eq_true h.2.2]; rfl
      have hbd : (ci ++ (rStep wh.length u v ti m).2).length ≤ 1048576 := by
        have : (ci ++ ((rStep wh.length u v ti m).2 ++ (rIn wh.length u v m (rStep wh.length u v ti m).1).2)).length ≤ 1048576 := by rw [hS2]; exact hcb
        rw [List.length_append, List.length_append] at this
        rw [List.length_append]; omega
      have hoN : ∀ {x : Bool}, OwnA (some ⟨b1, 0, none⟩) (e + 1) (ti.set m x) [] := hoTi.elim (fun h => by cases h.1) (fun ⟨b, h1, h2, h3, h4⟩ => .inr ⟨b, h1, by rw [List.length_set]; exact h2, by rw [List.length_set]; exact h3, h4⟩)
      rcases Nat.eq_zero_or_pos m with hm0 | hm0
      · by_cases hO : ti[(m : Int).toNat]?.getD default = true ∧ v ≠ 0
        · have hrs := rStep_eq (n := wh.length) (hlowF (fun h => by omega)) (hownT hO)
          rw [hrs] at hbd
          refine Wc.gl 17 [1] ?_
          refine Wl.no 51 rfl (by first | assumption | omega) ?_
          refine Wl.gl 17 [] ?_
          refine Wl.q rfl (Qy.indexAddrO (α := Bool) T.sl87 rfl rfl (by assumption) (by omega)) ?_
          refine Wl.q rfl (Qy.loadO 2 0 T.one4 rfl rfl (by assumption) (by omega) rfl rfl) ?_
          refine Wl.q rfl (Qy.move rfl) ?_
          refine Wl.re 66 rfl (Go.Sl.boolDec _) ?_
          apply Wl.joinAnd 3 66 69 rfl
          intro hg1
          refine Wl.ll0 5 [] ?_
          exact Wl.back 3 0 rfl rfl rfl rfl rfl
          intro hg1
          refine Wl.ll0 3 [] ?_
          exact Wl.back 3 0 rfl rfl rfl rfl rfl
          refine Wl.gl 18 [0] ?_
          refine Wl.yes 82 rfl (by first | assumption | omega) ?_
          refine Wl.gl 18 [0, 1] ?_
          refine Wl.call1 0 rfl T.fn145 rfl (c145 _ b _ _ _ _ (by omega) (by omega)) (tags_of ⟨rfl, trivial⟩) ?_
          refine Wl.ll0 2 [] ?_
          refine Wl.call1 0 rfl T.fn145 rfl (c145 _ b _ _ _ _ (by omega) (by omega)) (tags_of ⟨rfl, trivial⟩) ?_
          refine Wl.q rfl (Qy.move rfl) ?_
          refine Wl.call 0 rfl T.fn89 rfl (c89 _ b _ o dd ci q wa _ wc _ _ _ hoCi hcil) (tags_of ⟨rfl, rfl, trivial⟩) (fun v2 G2 Ho2 hle2 hp => ?_)
          obtain ⟨rfl, rfl, a2, d2, j2, ho2, rfl⟩ := hp
          refine Wl.gl 8 [] ?_
          refine Wl.yes 127 rfl (by first | assumption | omega) ?_
          refine Wl.ll0 2 [] ?_
          refine Wl.q rfl (Qy.indexAddrO (α := Bool) T.sl87 rfl rfl (by assumption) (by omega)) ?_
          refine Wl.setO (z := _) 2 T.size4 rfl rfl rfl (by assumption) (by omega) rfl (fun ho3 => ?_)
          refine Wl.ga 8 [] ?_
          refine Ar.reH 2 (Row 4 (ti.set m (true || false)) []) rfl (by first | rfl | (rw [Int.toNat_natCast]; first | rfl | (rw [decide_eq_false hL]; rfl) | (rw [decide_eq_true hL]; rfl) | (rw [decide_eq_false hO]; rfl) | (rw [decide_eq_true hO]; rfl))) ?_
          refine Ar.re 13 rfl (show _ = Value.int .i64 ((m : Int) - 1) from rfl) ?_
          refine Ar.re 11 rfl (show _ = Value.slice (some ⟨b1, 0, none⟩) (ti.set m (true || false)).length (e + 1) by rw [List.length_set]) ?_
          refine Ar.again ((m, ti.set m (true || false), ci ++ timesI (2 * (wh.length : Int) + (m : Int)) (2 * (wh.length : Int) + (m : Int)) v, (a2, d2, j2))) ?_ ?_ rfl ⟨rfl, rfl, rfl, rfl, rfl, rfl, rfl, rfl, trivial⟩ ⟨rfl, rfl, rfl, trivial⟩
          · refine ⟨by omega, by rw [List.length_set]; exact hti, ?_, ?_, hoN, ho2⟩
            · rw [← hS1, hrs]
            · rw [← hS2, hrs]
              simp
          · show m < m + 1
            omega
        · have hrs := rStep_eq (n := wh.length) (hlowF (fun h => by omega)) (hownF hO)
          refine Wc.gl 17 [1] ?_
          refine Wl.no 51 rfl (by first | assumption | omega) ?_
          refine Wl.gl 17 [] ?_
          refine Wl.q rfl (Qy.indexAddrO (α := Bool) T.sl87 rfl rfl (by assumption) (by omega)) ?_
          refine Wl.q rfl (Qy.loadO 2 0 T.one4 rfl rfl (by assumption) (by omega) rfl rfl) ?_
          refine Wl.q rfl (Qy.move rfl) ?_
          refine Wl.re 66 rfl (Go.Sl.boolDec _) ?_
          apply Wl.joinAnd 3 66 69 rfl
          intro hg1
          refine Wl.ll0 5 [] ?_
          exact Wl.back 3 0 rfl rfl rfl rfl rfl
          intro hg1
          refine Wl.ll0 3 [] ?_
          exact Wl.back 3 0 rfl rfl rfl rfl rfl
          refine Wl.gl 18 [0] ?_
          refine Wl.no 82 rfl (by first | assumption | omega) ?_
          refine Wl.gl 28 [0, 0, 0] ?_
          refine Wl.no 127 rfl (by first | assumption | omega) ?_
          refine Wl.ll0 3 [] ?_
          refine Wl.q rfl (Qy.indexAddrO (α := Bool) T.sl87 rfl rfl (by assumption) (by omega)) ?_
          refine Wl.setO (z := _) 2 T.size4 rfl rfl rfl (by assumption) (by omega) rfl (fun ho2 => ?_)
          refine Wl.ga 8 [] ?_
          refine Ar.reH 2 (Row 4 (ti.set m (false || false)) []) rfl (by first | rfl | (rw [Int.toNat_natCast]; first | rfl | (rw [decide_eq_false hL]; rfl) | (rw [decide_eq_true hL]; rfl) | (rw [decide_eq_false hO]; rfl) | (rw [decide_eq_true hO]; rfl))) ?_
          refine Ar.re 13 rfl (show _ = Value.int .i64 ((m : Int) - 1) from rfl) ?_
          refine Ar.re 11 rfl (show _ = Value.slice (some ⟨b1, 0, none⟩) (ti.set m (false || false)).length (e + 1) by rw [List.length_set]) ?_
          refine Ar.again ((m, ti.set m (false || false), ci, (o, dd, q))) ?_ ?_ rfl ⟨rfl, rfl, rfl, rfl, rfl, rfl, rfl, rfl, trivial⟩ ⟨rfl, rfl, rfl, trivial⟩
          · refine ⟨by omega, by rw [List.length_set]; exact hti, ?_, ?_, hoN, hoCi⟩
            · rw [← hS1, hrs]
            · rw [← hS2, hrs]
              simp
          · show m < m + 1
            omega
      · have hm1e : ((m : Int) - 1).toNat = m - 1 := by omega
        by_cases hL : ti[((m : Int) - 1).toNat]?.getD default = true ∧ u ≠ 0
        · have hlow := hlowT ⟨hm0, by rw [← hm1e]; exact hL.1, hL.2⟩
          by_cases hO : ti[(m : Int).toNat]?.getD default = true ∧ v ≠ 0
          · have hOL : (ti[(m : Int).toNat]?.getD default = true ∧ v ≠ 0) ∧ ti[((m : Int) - 1).toNat]?.getD default = true ∧ u ≠ 0 := ⟨hO, hL⟩
            have hrs := rStep_eq (n := wh.length) hlow (hownT hO)
            rw [hrs] at hbd
            have hb1 : ((ci ++ timesI (3 * (wh.length : Int)) (2 * (wh.length : Int) + ((m : Int) - 1)) u) ++ timesI (2 * (wh.length : Int) + (m : Int)) (2 * (wh.length : Int) + (m : Int)) v).length ≤ 1048576 := by
              simp only [Bool.and_self, if_true, List.length_append, List.length_singleton] at hbd
              simp only [List.length_append]
              omega
            have hb0 : (ci ++ timesI (3 * (wh.length : Int)) (2 * (wh.length : Int) + ((m : Int) - 1)) u).length ≤ 1048576 := by rw [List.length_append] at hb1; omega
            refine Wc.gl 17 [1] ?_
            refine Wl.yes 51 rfl (by first | assumption | omega) ?_
            refine Wl.ll0 7 [] ?_
            refine Wl.q rfl (Qy.indexAddrO (α := Bool) T.sl87 rfl rfl (by assumption) (by omega)) ?_
            refine Wl.want rfl rfl ?_
            refine Wl.q rfl (Qy.loadO 2 0 T.one4 rfl rfl (by assumption) (by omega) rfl rfl) ?_
            refine Wl.ll0 2 [] ?_
            refine Wl.re 58 rfl (Go.Sl.boolDec _) ?_
            apply Wl.joinAnd 3 58 61 rfl
            intro hg1
            refine Wl.ll0 5 [] ?_
            exact Wl.back 3 0 rfl rfl rfl rfl rfl
            intro hg1
            refine Wl.ll0 3 [] ?_
            exact Wl.back 3 0 rfl rfl rfl rfl rfl
            refine Wl.gl 7 [] ?_
            refine Wl.q rfl (Qy.indexAddrO (α := Bool) T.sl87 rfl rfl (by assumption) (by omega)) ?_
            refine Wl.q rfl (Qy.loadO 2 0 T.one4 rfl rfl (by assumption) (by omega) rfl rfl) ?_
            refine Wl.q rfl (Qy.move rfl) ?_
            refine Wl.re 66 rfl (Go.Sl.boolDec _) ?_
            apply Wl.joinAnd 3 66 69 rfl
            intro hg1
            refine Wl.ll0 5 [] ?_
            exact Wl.back 3 0 rfl rfl rfl rfl rfl
            intro hg1
            refine Wl.ll0 3 [] ?_
            exact Wl.back 3 0 rfl rfl rfl rfl rfl
            refine Wl.gl 13 [1] ?_
            refine Wl.call1 0 rfl T.fn143 rfl (c143 _ b _ _ _ (by omega)) (tags_of ⟨rfl, trivial⟩) ?_
            refine Wl.ll0 3 [] ?_
            refine Wl.call1 0 rfl T.fn145 rfl (c145 _ b _ _ _ _ (by omega) (by omega)) (tags_of ⟨rfl, trivial⟩) ?_
            refine Wl.q rfl (Qy.move rfl) ?_
            refine Wl.call 0 rfl T.fn89 rfl (c89 _ b _ o dd ci q wa _ wc _ _ _ hoCi hcil) (tags_of ⟨rfl, rfl, trivial⟩) (fun v2 G2 Ho2 hle2 hp => ?_)
            obtain ⟨rfl, rfl, a2, d2, j2, ho2, rfl⟩ := hp
            refine Wl.gl 8 [] ?_
            refine Wl.yes 82 rfl (by first | assumption | omega) ?_
            refine Wl.gl 12 [1] ?_
            refine Wl.call1 0 rfl T.fn145 rfl (c145 _ b _ _ _ _ (by omega) (by omega)) (tags_of ⟨rfl, trivial⟩) ?_
            refine Wl.ll0 2 [] ?_
            refine Wl.call1 0 rfl T.fn145 rfl (c145 _ b _ _ _ _ (by omega) (by omega)) (tags_of ⟨rfl, trivial⟩) ?_
            refine Wl.q rfl (Qy.move rfl) ?_
            refine Wl.call 0 rfl T.fn89 rfl (c89 _ b _ a2 d2 (ci ++ timesI (3 * (wh.length : Int)) (2 * (wh.length : Int) + ((m : Int) - 1)) u) j2 wa _ wc _ _ _ ho2 hb0) (tags_of ⟨rfl, rfl, trivial⟩) (fun v3 G3 Ho3 hle3 hp => ?_)
            obtain ⟨rfl, rfl, a3, d3, j3, ho3, rfl⟩ := hp
            refine Wl.gl 6 [] ?_
            refine Wl.call1 0 rfl T.fn145 rfl (c145 _ b _ _ _ _ (by omega) (by omega)) (tags_of ⟨rfl, trivial⟩) ?_
            refine Wl.ll0 2 [] ?_
            refine Wl.call1 0 rfl T.fn145 rfl (c145 _ b _ _ _ _ (by omega) (by omega)) (tags_of ⟨rfl, trivial⟩) ?_
            refine Wl.q rfl (Qy.move rfl) ?_
            refine Wl.call1 0 rfl T.fn143 rfl (c143 _ b _ _ _ (by omega)) (tags_of ⟨rfl, trivial⟩) ?_
            refine Wl.call 0 rfl T.fn140 rfl (c140 _ b _ a3 d3 ((ci ++ timesI (3 * (wh.length : Int)) (2 * (wh.length : Int) + ((m : Int) - 1)) u) ++ timesI (2 * (wh.length : Int) + (m : Int)) (2 * (wh.length : Int) + (m : Int)) v) j3 wa _ wc _ _ _ _ _ ho3 hb1) (tags_of ⟨rfl, rfl, trivial⟩) (fun v4 G4 Ho4 hle4 hp => ?_)
            obtain ⟨rfl, rfl, a4, d4, j4, ho4, rfl⟩ := hp
            refine Wl.gl 8 [] ?_
            refine Wl.yes 127 rfl (by first | assumption | omega) ?_
            refine Wl.ll0 2 [] ?_
            refine Wl.q rfl (Qy.indexAddrO (α := Bool) T.sl87 rfl rfl (by assumption) (by omega)) ?_
            refine Wl.setO (z := _) 2 T.size4 rfl rfl rfl (by assumption) (by omega) rfl (fun ho5 => ?_)
            refine Wl.ga 8 [] ?_
            refine Ar.reH 2 (Row 4 (ti.set m (true || true)) []) rfl (by first | rfl | (rw [Int.toNat_natCast]; first | rfl | (rw [decide_eq_false hL]; rfl) | (rw [decide_eq_true hL]; rfl) | (rw [decide_eq_false hO]; rfl) | (rw [decide_eq_true hO]; rfl))) ?_
            refine Ar.re 13 rfl (show _ = Value.int .i64 ((m : Int) - 1) from rfl) ?_
            refine Ar.re 11 rfl (show _ = Value.slice (some ⟨b1, 0, none⟩) (ti.set m (true || true)).length (e + 1) by rw [List.length_set]) ?_
            refine Ar.again ((m, ti.set m (true || true), ((ci ++ timesI (3 * (wh.length : Int)) (2 * (wh.length : Int) + ((m : Int) - 1)) u) ++ timesI (2 * (wh.length : Int) + (m : Int)) (2 * (wh.length : Int) + (m : Int)) v) ++ [(⟨3, 2 * (wh.length : Int) + (m : Int), 2 * (wh.length : Int) + (m : Int), 3 * (wh.length : Int), 0⟩ : Sl.Instr)], (a4, d4, j4))) ?_ ?_ rfl ⟨rfl, rfl, rfl, rfl, rfl, rfl, rfl, rfl, trivial⟩ ⟨rfl, rfl, rfl, trivial⟩
            · refine ⟨by omega, by rw [List.length_set]; exact hti, ?_, ?_, hoN, ho4⟩
              · rw [← hS1, hrs]
              · rw [← hS2, hrs]
                simp
            · show m < m + 1
              omega
          · have hOL : ¬ ((ti[(m : Int).toNat]?.getD default = true ∧ v ≠ 0) ∧ ti[((m : Int) - 1).toNat]?.getD default = true ∧ u ≠ 0) := fun h => hO h.1
            have hrs := rStep_eq (n := wh.length) hlow (hownF hO)
            rw [hrs] at hbd
            have hb0 : (ci ++ timesI (3 * (wh.length : Int)) (2 * (wh.length : Int) + ((m : Int) - 1)) u).length ≤ 1048576 := by
              simp only [if_true, List.length_append] at hbd
              simp only [List.length_append]
              omega
            refine Wc.gl 17 [1] ?_
            refine Wl.yes 51 rfl (by first | assumption | omega) ?_
            refine Wl.ll0 7 [] ?_
            refine Wl.q rfl (Qy.indexAddrO (α := Bool) T.sl87 rfl rfl (by assumption) (by omega)) ?_
            refine Wl.want rfl rfl ?_
            refine Wl.q rfl (Qy.loadO 2 0 T.one4 rfl rfl (by assumption) (by omega) rfl rfl) ?_
            refine Wl.ll0 2 [] ?_
            refine Wl.re 58 rfl (Go.Sl.boolDec _) ?_
            apply Wl.joinAnd 3 58 61 rfl
            intro hg1
            refine Wl.ll0 5 [] ?_
            exact Wl.back 3 0 rfl rfl rfl rfl rfl
            intro hg1
            refine Wl.ll0 3 [] ?_
            exact Wl.back 3 0 rfl rfl rfl rfl rfl
            refine Wl.gl 7 [] ?_
            refine Wl.q rfl (Qy.indexAddrO (α := Bool) T.sl87 rfl rfl (by assumption) (by omega)) ?_
            refine Wl.q rfl (Qy.loadO 2 0 T.one4 rfl rfl (by assumption) (by omega) rfl rfl) ?_
            refine Wl.q rfl (Qy.move rfl) ?_
            refine Wl.re 66 rfl (Go.Sl.boolDec _) ?_
            apply Wl.joinAnd 3 66 69 rfl
            intro hg1
            refine Wl.ll0 5 [] ?_
            exact Wl.back 3 0 rfl rfl rfl rfl rfl
            intro hg1
            refine Wl.ll0 3 [] ?_
            exact Wl.back 3 0 rfl rfl rfl rfl rfl
            refine Wl.gl 13 [1] ?_
            refine Wl.call1 0 rfl T.fn143 rfl (c143 _ b _ _ _ (by omega)) (tags_of ⟨rfl, trivial⟩) ?_
            refine Wl.ll0 3 [] ?_
            refine Wl.call1 0 rfl T.fn145 rfl (c145 _ b _ _ _ _ (by omega) (by omega)) (tags_of ⟨rfl, trivial⟩) ?_
            refine Wl.q rfl (Qy.move rfl) ?_
            refine Wl.call 0 rfl T.fn89 rfl (c89 _ b _ o dd ci q wa _ wc _ _ _ hoCi hcil) (tags_of ⟨rfl, rfl, trivial⟩) (fun v2 G2 Ho2 hle2 hp => ?_)
            obtain ⟨rfl, rfl, a2, d2, j2, ho2, rfl⟩ := hp
            refine Wl.gl 8 [] ?_
            refine Wl.no 82 rfl (by first | assumption | omega) ?_
            refine Wl.gl 24 [0, 0, 1] ?_
            refine Wl.call1 0 rfl T.fn145 rfl (c145 _ b _ _ _ _ (by omega) (by omega)) (tags_of ⟨rfl, trivial⟩) ?_
            refine Wl.q rfl (Qy.move rfl) ?_
            refine Wl.call1 0 rfl T.fn143 rfl (c143 _ b _ _ _ (by omega)) (tags_of ⟨rfl, trivial⟩) ?_
            refine Wl.call 0 rfl T.fn89 rfl (c89 _ b _ a2 d2 (ci ++ timesI (3 * (wh.length : Int)) (2 * (wh.length : Int) + ((m : Int) - 1)) u) j2 wa _ wc _ _ _ ho2 hb0) (tags_of ⟨rfl, rfl, trivial⟩) (fun v3 G3 Ho3 hle3 hp => ?_)
            obtain ⟨rfl, rfl, a3, d3, j3, ho3, rfl⟩ := hp
            refine Wl.gl 8 [] ?_
            refine Wl.no 127 rfl (by first | assumption | omega) ?_
            refine Wl.ll0 3 [] ?_
            refine Wl.q rfl (Qy.indexAddrO (α := Bool) T.sl87 rfl rfl (by assumption) (by omega)) ?_
            refine Wl.setO (z := _) 2 T.size4 rfl rfl rfl (by assumption) (by omega) rfl (fun ho4 => ?_)
            refine Wl.ga 8 [] ?_
            refine Ar.reH 2 (Row 4 (ti.set m (false || true)) []) rfl (by first | rfl | (rw [Int.toNat_natCast]; first | rfl | (rw [decide_eq_false hL]; rfl) | (rw [decide_eq_true hL]; rfl) | (rw [decide_eq_false hO]; rfl) | (rw [decide_eq_true hO]; rfl))) ?_
            refine Ar.re 13 rfl (show _ = Value.int .i64 ((m : Int) - 1) from rfl) ?_
            refine Ar.re 11 rfl (show _ = Value.slice (some ⟨b1, 0, none⟩) (ti.set m (false || true)).length (e + 1) by rw [List.length_set]) ?_
            refine Ar.again ((m, ti.set m (false || true), (ci ++ timesI (3 * (wh.length : Int)) (2 * (wh.length : Int) + ((m : Int) - 1)) u) ++ timesI (2 * (wh.length : Int) + (m : Int)) (3 * (wh.length : Int)) 1, (a3, d3, j3))) ?_ ?_ rfl ⟨rfl, rfl, rfl, rfl, rfl, rfl, rfl, rfl, trivial⟩ ⟨rfl, rfl, rfl, trivial⟩
            · refine ⟨by omega, by rw [List.length_set]; exact hti, ?_, ?_, hoN, ho3⟩
              · rw [← hS1, hrs]
              · rw [← hS2, hrs]
                simp
            · show m < m + 1
              omega
        · have hOL : ¬ ((ti[(m : Int).toNat]?.getD default = true ∧ v ≠ 0) ∧ ti[((m : Int) - 1).toNat]?.getD default = true ∧ u ≠ 0) := fun h => hL h.2
          have hlow := hlowF (fun h => hL ⟨by rw [hm1e]; exact h.2.1, h.2.2⟩)
          by_cases hO : ti[(m : Int).toNat]?.getD default = true ∧ v ≠ 0
          · have hrs := rStep_eq (n := wh.length) hlow (hownT hO)
            rw [hrs] at hbd
            refine Wc.gl 17 [1] ?_
            refine Wl.yes 51 rfl (by first | assumption | omega) ?_
            refine Wl.ll0 7 [] ?_
            refine Wl.q rfl (Qy.indexAddrO (α := Bool) T.sl87 rfl rfl (by assumption) (by omega)) ?_
            refine Wl.want rfl rfl ?_
            refine Wl.q rfl (Qy.loadO 2 0 T.one4 rfl rfl (by assumption) (by omega) rfl rfl) ?_
            refine Wl.ll0 2 [] ?_
            refine Wl.re 58 rfl (Go.Sl.boolDec _) ?_
            apply Wl.joinAnd 3 58 61 rfl
            intro hg1
            refine Wl.ll0 5 [] ?_
            exact Wl.back 3 0 rfl rfl rfl rfl rfl
            intro hg1
            refine Wl.ll0 3 [] ?_
            exact Wl.back 3 0 rfl rfl rfl rfl rfl
            refine Wl.gl 7 [] ?_
            refine Wl.q rfl (Qy.indexAddrO (α := Bool) T.sl87 rfl rfl (by assumption) (by omega)) ?_
            refine Wl.q rfl (Qy.loadO 2 0 T.one4 rfl rfl (by assumption) (by omega) rfl rfl) ?_
            refine Wl.q rfl (Qy.move rfl) ?_
            refine Wl.re 66 rfl (Go.Sl.boolDec _) ?_
            apply Wl.joinAnd 3 66 69 rfl
            intro hg1
            refine Wl.ll0 5 [] ?_
            exact Wl.back 3 0 rfl rfl rfl rfl rfl
            intro hg1
            refine Wl.ll0 3 [] ?_
            exact Wl.back 3 0 rfl rfl rfl rfl rfl
            refine Wl.gl 18 [0] ?_
            refine Wl.yes 82 rfl (by first | assumption | omega) ?_
            refine Wl.gl 18 [0, 1] ?_
            refine Wl.call1 0 rfl T.fn145 rfl (c145 _ b _ _ _ _ (by omega) (by omega)) (tags_of ⟨rfl, trivial⟩) ?_
            refine Wl.ll0 2 [] ?_
            refine Wl.call1 0 rfl T.fn145 rfl (c145 _ b _ _ _ _ (by omega) (by omega)) (tags_of ⟨rfl, trivial⟩) ?_
            refine Wl.q rfl (Qy.move rfl) ?_
            refine Wl.call 0 rfl T.fn89 rfl (c89 _ b _ o dd ci q wa _ wc _ _ _ hoCi hcil) (tags_of ⟨rfl, rfl, trivial⟩) (fun v2 G2 Ho2 hle2 hp => ?_)
            obtain ⟨rfl, rfl, a2, d2, j2, ho2, rfl⟩ := hp
            refine Wl.gl 8 [] ?_
            refine Wl.yes 127 rfl (by first | assumption | omega) ?_
            refine Wl.ll0 2 [] ?_
            refine Wl.q rfl (Qy.indexAddrO (α := Bool) T.sl87 rfl rfl (by assumption) (by omega)) ?_
            refine Wl.setO (z := _) 2 T.size4 rfl rfl rfl (by assumption) (by omega) rfl (fun ho3 => ?_)
            refine Wl.ga 8 [] ?_
            refine Ar.reH 2 (Row 4 (ti.set m (true || false)) []) rfl (by first | rfl | (rw [Int.toNat_natCast]; first | rfl | (rw [decide_eq_false hL]; rfl) | (rw [decide_eq_true hL]; rfl) | (rw [decide_eq_false hO]; rfl) | (rw [decide_eq_true hO]; rfl))) ?_
            refine Ar.re 13 rfl (show _ = Value.int .i64 ((m : Int) - 1) from rfl) ?_
            refine Ar.re 11 rfl (show _ = Value.slice (some ⟨b1, 0, none⟩) (ti.set m (true || false)).length (e + 1) by rw [List.length_set]) ?_
            refine Ar.again ((m, ti.set m (true || false), ci ++ timesI (2 * (wh.length : Int) + (m : Int)) (2 * (wh.length : Int) + (m : Int)) v, (a2, d2, j2))) ?_ ?_ rfl ⟨rfl, rfl, rfl, rfl, rfl, rfl, rfl, rfl, trivial⟩ ⟨rfl, rfl, rfl, trivial⟩
            · refine ⟨by omega, by rw [List.length_set]; exact hti, ?_, ?_, hoN, ho2⟩
              · rw [← hS1, hrs]
              · rw [← hS2, hrs]
                simp
            · show m < m + 1
              omega
          · have hrs := rStep_eq (n := wh.length) hlow (hownF hO)
            refine Wc.gl 17 [1] ?_
            refine Wl.yes 51 rfl (by first | assumption | omega) ?_
            refine Wl.ll0 7 [] ?_
            refine Wl.q rfl (Qy.indexAddrO (α := Bool) T.sl87 rfl rfl (by assumption) (by omega)) ?_
            refine Wl.want rfl rfl ?_
            refine Wl.q rfl (Qy.loadO 2 0 T.one4 rfl rfl (by assumption) (by omega) rfl rfl) ?_
            refine Wl.ll0 2 [] ?_
            refine Wl.re 58 rfl (Go.Sl.boolDec _) ?_
            apply Wl.joinAnd 3 58 61 rfl
            intro hg1
            refine Wl.ll0 5 [] ?_
            exact Wl.back 3 0 rfl rfl rfl rfl rfl
            intro hg1
            refine Wl.ll0 3 [] ?_
            exact Wl.back 3 0 rfl rfl rfl rfl rfl
            refine Wl.gl 7 [] ?_
            refine Wl.q rfl (Qy.indexAddrO (α := Bool) T.sl87 rfl rfl (by assumption) (by omega)) ?_
            refine Wl.q rfl (Qy.loadO 2 0 T.one4 rfl rfl (by assumption) (by omega) rfl rfl) ?_
            refine Wl.q rfl (Qy.move rfl) ?_
            refine Wl.re 66 rfl (Go.Sl.boolDec _) ?_
            apply Wl.joinAnd 3 66 69 rfl
            intro hg1
            refine Wl.ll0 5 [] ?_
            exact Wl.back 3 0 rfl rfl rfl rfl rfl
            intro hg1
            refine Wl.ll0 3 [] ?_
            exact Wl.back 3 0 rfl rfl rfl rfl rfl
            refine Wl.gl 18 [0] ?_
            refine Wl.no 82 rfl (by first | assumption | omega) ?_
            refine Wl.gl 28 [0, 0, 0] ?_
            refine Wl.no 127 rfl (by first | assumption | omega) ?_
            refine Wl.ll0 3 [] ?_
            refine Wl.q rfl (Qy.indexAddrO (α := Bool) T.sl87 rfl rfl (by assumption) (by omega)) ?_
            refine Wl.setO (z := _) 2 T.size4 rfl rfl rfl (by assumption) (by omega) rfl (fun ho2 => ?_)
            refine Wl.ga 8 [] ?_
            refine Ar.reH 2 (Row 4 (ti.set m (false || false)) []) rfl (by first | rfl | (rw [Int.toNat_natCast]; first | rfl | (rw [decide_eq_false hL]; rfl) | (rw [decide_eq_true hL]; rfl) | (rw [decide_eq_false hO]; rfl) | (rw [decide_eq_true hO]; rfl))) ?_
            refine Ar.re 13 rfl (show _ = Value.int .i64 ((m : Int) - 1) from rfl) ?_
            refine Ar.re 11 rfl (show _ = Value.slice (some ⟨b1, 0, none⟩) (ti.set m (false || false)).length (e + 1) by rw [List.length_set]) ?_
            refine Ar.again ((m, ti.set m (false || false), ci, (o, dd, q))) ?_ ?_ rfl ⟨rfl, rfl, rfl, rfl, rfl, rfl, rfl, rfl, trivial⟩ ⟨rfl, rfl, rfl, trivial⟩
            · refine ⟨by omega, by rw [List.length_set]; exact hti, ?_, ?_, hoN, hoCi⟩
              · rw [← hS1, hrs]
              · rw [← hS2, hrs]
                simp
            · show m < m + 1
              omega
  · have hde : d = e + 1 := by omega
    subst hde
    rw [Nat.sub_self] at hT1 hT2
    have hT1 : th = Th := hT1
    have hT2 : cd = Tg := by rw [← hT2]; exact (List.append_nil _).symm
    subst hT1 hT2
    refine Wc.ga 21 [0] ?_
    refine Ar.out1 (by first | exact .inl rfl | exact .inr rfl) (Ho := [(0, some b, .cells #[.int .i64 wh.length, .slice o cd.length dd, .slice wa wh.length wc] 149), (1, o.map (·.block), Row 93 cd q), (2, some b1, Row 4 th [])]) rfl (.tmp rfl) ⟨rfl, rfl, rfl, trivial⟩ ?_
    exact ⟨rfl, o, dd, q, th, cd, b1, rfl, rfl, by rw [hth], hoC, by rw [hth]; exact hoT, rfl⟩
end Go.Proofs.YtbppmiimeccclaaGreat
set_option maxRecDepth 100000
set_option linter.unusedVariables false
namespace Go.Proofs.YtbppmiimeccclaaGreat
open Go Go.Sl
set_option maxHeartbeats 4000000
/-- what comes from the place m - 1 on -/
def bkM (n : Int) (p : R2) (e m : Nat) : List Sl.Instr := if m = e + 1 then backA n p e else bkIn n p m
theorem addAll_drop (n : Int) (th : List Bool) {t : Nat} (h : t < th.length) : addAll n (th.drop t) t = (if th[((t : Nat) : Int).toNat]?.getD default = true then [(⟨3, n + t, n + t, 2 * n + t, 0⟩ : Sl.Instr)] else []) ++ addAll n (th.drop (t + 1)) (t + 1) := by
  rw [List.drop_eq_getElem_cons h, Int.toNat_natCast, List.getElem?_eq_getElem h]; rfl
theorem c91 (G : Imm) (b : Nat) (ac : Option Addr) (cc : Nat) (code : List Sl.Instr) (j : List Value) (wa : Option Addr) (wc : Nat) (wh : List R2) (k : Int) (e : Nat) (ho : OwnA ac cc code j) (hw : Arr G wa wh)
    (hwl : wh.length ≤ 15) (hk : 0 ≤ k ∧ k < wh.length) (he1 : 1 ≤ e) (he : e < wh.length) (hok : okP (wh[k.toNat]?.getD default)) (hl : (code ++ backI wh.length wh k e).length ≤ 1048576) :
    Does Tryz.prog 91 [.pointer (some ⟨b, 0, none⟩), .int .i64 k, .int .i64 e] G [(0, some b, .cells #[.int .i64 wh.length, .slice ac code.length cc, .slice wa wh.length wc] 149), (1, ac.map (·.block), Row 93 code j)]
      (fun v G' Ho => v = .tuple #[] ∧ G' = G ∧ ∃ (a' : Option Addr) (c' : Nat) (j' : List Value), OwnA a' c' (code ++ backI wh.length wh k e) j' ∧ Ho = [(0, some b, .cells #[.int .i64 wh.length, .slice a' (code ++ backI wh.length wh k e).length c', .slice wa wh.length wc] 149), (1, a'.map (·.block), Row 93 (code ++ backI wh.length wh k e) j')]) := by
  have hl0 : code.length ≤ 1048576 := by rw [List.length_append] at hl; omega
  obtain ⟨hnk, hzk⟩ := hok
  have hnk2 := hnk
  unfold near at hnk2
  refine Does.enter Tryz.func91 rfl Tryz.ntmps91 rfl (fun w => ?_)
  refine Wc.gl 7 [0] ?_
  refine Wl.q rfl (Qy.at (α := R2) T.sl26 rfl rfl (by assumption) (by omega)) ?_
  refine Wl.q rfl (Qy.loadsG T.agg59 rfl (Arr.elem (by assumption) (by omega)) rfl) ?_
  refine Wl.alloc 2 rfl T.zero59 (fun b1 => ?_)
  refine Wl.gc 11 [2] ?_
  generalize hp : wh[k.toNat]?.getD default = p at *
  have hbI : backI wh.length wh k e = backA wh.length p e ++ (raisedI wh.length (bezS p.a p.b) (bezT p.a p.b) k e ++ addAll wh.length (raisedT wh.length (bezS p.a p.b) (bezT p.a p.b) e) 0) := by unfold backI ptW; rw [hp]
  rw [hbI] at hl
  have hlA : (code ++ backA wh.length p e).length ≤ 1048576 := by rw [← List.append_assoc, List.length_append] at hl; omega
  refine Wc.re 7 rfl (show _ = Value.int .i64 (((e + 1 : Nat) : Int) - 1) by congr 1; omega) ?_
  refine Wc.loop (ι := Nat × List Sl.Instr × (Option Addr × Nat × List Value)) (fun (m, cd, (o, d, q)) => ([(7, .int .i64 ((m : Int) - 1)), (1, .int .i64 k), (6, Go.Value.pointer (Option.some (Go.Addr.mk b1 0 Option.none))), (0, Go.Value.pointer (Option.some (Go.Addr.mk b 0 Option.none))), (2, Go.Value.int Go.IntKind.i64 (↑e : Int))], [(0, some b, .cells #[.int .i64 wh.length, .slice o cd.length d, .slice wa wh.length wc] 149), (1, o.map (·.block), Row 93 cd q), (2, Option.some b1, Go.Obj.cells (List.toArray (Go.Sl.Cells.enc p)) 59)])) (fun (m, cd, (o, d, q)) => m ≤ e + 1 ∧ cd ++ bkM wh.length p e m = code ++ backA wh.length p e ∧ OwnA o d cd q) (fun (m, cd, (o, d, q)) => m) ((e + 1, code, (ac, cc, j))) (⟨Nat.le_refl _, by unfold bkM; rw [if_pos rfl], ho⟩) ⟨rfl, rfl, rfl, rfl, rfl, trivial⟩ ⟨rfl, rfl, rfl, trivial⟩ (fun ⟨m, cd, (o, d, q)⟩ => fun (hk : m ≤ e + 1 ∧ cd ++ bkM wh.length p e m = code ++ backA wh.length p e ∧ OwnA o d cd q) => ?_)
  obtain ⟨hm1, hm2, hm3⟩ := hk
  have hcl : cd.length ≤ 1048576 := by rw [← hm2, List.length_append] at hlA; omega
  rcases Nat.eq_zero_or_pos m with hm0 | hm0
  · have hm2 : cd = code ++ backA wh.length p e := by
      rw [← hm2]; unfold bkM; rw [if_neg (by omega), hm0]; exact (List.append_nil _).symm
    have hl1 : (cd ++ raisedI wh.length (bezS (wh[k.toNat]?.getD default).a (wh[k.toNat]?.getD default).b) (bezT (wh[k.toNat]?.getD default).a (wh[k.toNat]?.getD default).b) k e).length ≤ 1048576 := by
      rw [hp, hm2, List.length_append, List.length_append]
      rw [List.length_append, List.length_append, List.length_append] at hl
      omega
    refine Wc.gl 18 [0] ?_
    refine Wl.call 0 rfl T.fn144 rfl (c144 _ b o d cd q wa wc wh k e hm3 (by assumption) hwl hk he (by rw [hp]; exact ⟨hnk, hzk⟩) hl1) (tags_of ⟨rfl, rfl, trivial⟩) (fun v1 G1 Ho1 hle1 hp => ?_)
    obtain ⟨rfl, ra1, rd1, rj1, th1, rc1, tb1, hth1, hrc1, rfl, hro1, hto1, rfl⟩ := hp
    refine Wl.gc 5 [] ?_
    rw [hp] at hth1 hrc1
    rw [hm2] at hrc1
    have hthl : th1.length = e + 1 := by rw [hth1, raisedT_len]
    rw [← List.append_assoc, ← List.append_assoc, ← hrc1, ← hth1] at hl
    refine Wc.loop (ι := Nat × List Sl.Instr × (Option Addr × Nat × List Value)) (fun (t, ce, (o, d, q)) => ([(76, .int .i64 (t : Int)), (75, Go.Value.int Go.IntKind.i64 (↑(List.length th1) : Int)), (74, Go.Value.slice (Option.some (Go.Addr.mk tb1 0 Option.none)) (List.length th1) (List.length th1)), (0, Go.Value.pointer (Option.some (Go.Addr.mk b 0 Option.none)))], [(0, some b, .cells #[.int .i64 wh.length, .slice o ce.length d, .slice wa wh.length wc] 149), (1, o.map (·.block), Row 93 ce q), (2, Option.some tb1, Go.Sl.Row (α := Bool) 4 (th1) ([]))])) (fun (t, ce, (o, d, q)) => t ≤ th1.length ∧ ce ++ addAll wh.length (th1.drop t) t = rc1 ++ addAll wh.length th1 0 ∧ OwnA o d ce q) (fun (t, ce, (o, d, q)) => th1.length - t) ((0, rc1, (ra1, rd1, rj1))) (⟨Nat.zero_le _, rfl, hro1⟩) ⟨rfl, rfl, rfl, rfl, trivial⟩ ⟨rfl, rfl, rfl, trivial⟩ (fun ⟨t, ce, (o, d, q)⟩ => fun (hk : t ≤ th1.length ∧ ce ++ addAll wh.length (th1.drop t) t = rc1 ++ addAll wh.length th1 0 ∧ OwnA o d ce q) => ?_)
    obtain ⟨ht1, ht2, ht3⟩ := hk
    have hel : ce.length ≤ 1048576 := by rw [← ht2, List.length_append] at hl; omega
    rcases Nat.lt_or_ge t th1.length with hte | hte
    · rw [addAll_drop _ _ hte] at ht2
      refine Wc.gl 14 [1] ?_
      refine Wl.q rfl (Qy.indexAddrO (α := Bool) T.sl87 rfl rfl (by assumption) (by omega)) ?_
      refine Wl.q rfl (Qy.loadO 2 0 T.one4 rfl rfl (by assumption) (by omega) rfl rfl) ?_
      refine Wl.gc 9 [] ?_
      refine Wc.ite rfl (fun hc1 => ?_) (fun hc1 => ?_)
      refine Wc.gl 4 [] ?_
      refine Wl.call1 0 rfl T.fn90 rfl (c90 _ b _ _ _ _ (by omega) (by omega)) (tags_of ⟨rfl, trivial⟩) ?_
      refine Wl.ll0 2 [] ?_
      refine Wl.call1 0 rfl T.fn90 rfl (c90 _ b _ _ _ _ (by omega) (by omega)) (tags_of ⟨rfl, trivial⟩) ?_
      refine Wl.ll0 2 [] ?_
      refine Wl.call1 0 rfl T.fn145 rfl (c145 _ b _ _ _ _ (by omega) (by omega)) (tags_of ⟨rfl, trivial⟩) ?_
      refine Wl.call 0 rfl T.fn140 rfl (c140 _ b _ o d ce q wa _ wc _ _ _ _ _ ht3 hel) (tags_of ⟨rfl, rfl, trivial⟩) (fun v2 G2 Ho2 hle2 hp => ?_)
      obtain ⟨rfl, rfl, a2, d2, j2, ho2, rfl⟩ := hp
      refine Wl.ga 7 [] ?_
      rotate_left
      refine Wc.ga 7 [] ?_
      rotate_left
      · rw [if_pos hc1] at ht2
        refine Ar.re 76 rfl (show _ = Value.int .i64 ((t + 1 : Nat) : Int) from rfl) ?_
        refine Ar.again ((t + 1, _, (a2, d2, j2))) ?_ ?_ rfl ⟨rfl, rfl, rfl, rfl, trivial⟩ ⟨rfl, rfl, rfl, trivial⟩
        · refine ⟨hte, ?_, ho2⟩
          rw [← ht2]; simp only [List.append_assoc]
        · show th1.length - (t + 1) < th1.length - t
          omega
      · rw [if_neg (by rw [hc1]; decide), List.nil_append] at ht2
        refine Ar.re 76 rfl (show _ = Value.int .i64 ((t + 1 : Nat) : Int) from rfl) ?_
        refine Ar.again ((t + 1, ce, (o, d, q))) ?_ ?_ rfl ⟨rfl, rfl, rfl, rfl, trivial⟩ ⟨rfl, rfl, rfl, trivial⟩
        · exact ⟨hte, ht2, ht3⟩
        · show th1.length - (t + 1) < th1.length - t
          omega
    · have hte : t = th1.length := by omega
      have ht2 : ce = rc1 ++ addAll wh.length th1 0 := by rw [← ht2, hte, List.drop_length]; exact (List.append_nil _).symm
      refine Wc.ga 11 [0] ?_
      have hce : ce = code ++ backI wh.length wh k e := by rw [ht2, hrc1, hbI, hth1]; simp only [List.append_assoc]
      rw [hce] at ht3
      refine Ar.out0 (by first | exact .inl rfl | exact .inr rfl) (Ho := [(0, some b, .cells #[.int .i64 wh.length, .slice o (code ++ backI wh.length wh k e).length d, .slice wa wh.length wc] 149), (1, o.map (·.block), Row 93 (code ++ backI wh.length wh k e) q)]) rfl ⟨by rw [← hce]; rfl, by rw [← hce]; rfl, trivial⟩ ?_
      exact ⟨rfl, rfl, o, d, q, ht3, rfl⟩
  · rcases Nat.lt_or_ge e m with hme | hme
    · have hme : m = e + 1 := by omega
      have hm2 : cd ++ (timesI (wh.length + e) (wh.length + ((e : Int) - 1)) (-p.b) ++ bkIn wh.length p e) = code ++ backA wh.length p e := by
        rw [← hm2]; unfold bkM; rw [if_pos hme]; rfl
      refine Wc.re 7 rfl (show _ = Value.int .i64 (e : Int) by congr 1; omega) ?_
      refine Wc.gc 22 [1, 1] ?_
      refine Wc.draw [2, 1, 0] [(1, 11), (0, 11)] T.mixed rfl ?_
      refine Gm.q 0 [] (by kernel_rfl) rfl rfl (Qy.move rfl) ?_
      refine Gm.q 1 [] (by kernel_rfl) rfl rfl (Qy.move rfl) ?_
      refine Gm.q 2 [] (by kernel_rfl) rfl rfl (Qy.move rfl) ?_
      refine Gm.q 4 [] (by kernel_rfl) rfl rfl (Qy.move rfl) ?_
      refine Gm.q 5 [] (by kernel_rfl) rfl rfl (Qy.move rfl) ?_
      refine Gm.q 6 [] (by kernel_rfl) rfl rfl (Qy.sub rfl rfl (by omega)) ?_
      refine Gm.q 8 [] (by kernel_rfl) rfl rfl (Qy.fieldAddr T.fa59_1 rfl) ?_
      refine Gm.q 9 [2] (by kernel_rfl) rfl rfl (Qy.load 2 T.one3 rfl rfl rfl) ?_
      refine Gm.q 10 [] (by kernel_rfl) rfl rfl (Qy.neg rfl (by omega)) ?_
      refine Gm.one 3 ⟨rfl, rfl, rfl, trivial⟩ (by first | exact Imm.le_refl _ | repeat (first | assumption | refine Imm.le_trans ?_ (by assumption))) (by kernel_rfl) rfl ?_
      refine Wl.call1 0 rfl T.fn90 rfl (c90 _ b _ _ _ _ (by omega) (by omega)) (tags_of ⟨rfl, trivial⟩) ?_
      refine Wl.on0 ?_
      refine Gm.one 7 ⟨rfl, rfl, rfl, trivial⟩ (by first | exact Imm.le_refl _ | repeat (first | assumption | refine Imm.le_trans ?_ (by assumption))) (by kernel_rfl) rfl ?_
      refine Wl.call1 0 rfl T.fn90 rfl (c90 _ b _ _ _ _ (by omega) (by omega)) (tags_of ⟨rfl, trivial⟩) ?_
      refine Wl.on0 ?_
      refine Gm.one 11 ⟨rfl, rfl, rfl, trivial⟩ (by first | exact Imm.le_refl _ | repeat (first | assumption | refine Imm.le_trans ?_ (by assumption))) (by kernel_rfl) rfl ?_
      refine Wl.call 0 rfl T.fn89 rfl (c89 _ b _ o d cd q wa _ wc _ _ _ hm3 hcl) (tags_of ⟨rfl, rfl, trivial⟩) (fun v1 G1 Ho1 hle1 hp => ?_)
      obtain ⟨rfl, rfl, a1, d1, j1, ho1, rfl⟩ := hp
      refine Wl.on0 ?_
      refine Gm.doneA (by kernel_rfl) ⟨rfl, trivial⟩ (by first | exact Imm.le_refl _ | repeat (first | assumption | refine Imm.le_trans ?_ (by assumption))) ?_
      refine Ar.ga 10 [] ?_
      refine Ar.re 7 rfl (show _ = Value.int .i64 ((e : Int) - 1) from rfl) ?_
      refine Ar.again ((e, _, (a1, d1, j1))) ?_ ?_ rfl ⟨rfl, rfl, rfl, rfl, rfl, trivial⟩ ⟨rfl, rfl, rfl, trivial⟩
      · refine ⟨by omega, ?_, ho1⟩
        rw [← hm2]; unfold bkM; rw [if_neg (by omega), List.append_assoc]
      · show e < m
        omega
    · obtain ⟨i, rfl⟩ : ∃ i, m = i + 1 := ⟨m - 1, by omega⟩
      refine Wc.re 7 rfl (show _ = Value.int .i64 (i : Int) by congr 1; omega) ?_
      have hm2 : cd ++ bkIn wh.length p (i + 1) = code ++ backA wh.length p e := by rw [← hm2]; unfold bkM; rw [if_neg (by omega)]
      unfold bkIn at hm2
      rcases Nat.eq_zero_or_pos i with hi0 | hi0
      · rw [if_neg (by omega), if_neg (by omega)] at hm2
        refine Wc.gc 34 [1, 0, 0] ?_
        refine Wc.draw [2, 1, 0] [(1, 9), (0, 9)] T.mixed rfl ?_
        refine Gm.q 0 [] (by kernel_rfl) rfl rfl (Qy.move rfl) ?_
        refine Gm.q 1 [] (by kernel_rfl) rfl rfl (Qy.move rfl) ?_
        refine Gm.q 2 [] (by kernel_rfl) rfl rfl (Qy.move rfl) ?_
        refine Gm.q 4 [] (by kernel_rfl) rfl rfl (Qy.move rfl) ?_
        refine Gm.q 5 [] (by kernel_rfl) rfl rfl (Qy.move rfl) ?_
        refine Gm.q 7 [] (by kernel_rfl) rfl rfl (Qy.fieldAddr T.fa59_0 rfl) ?_
        refine Gm.q 8 [2] (by kernel_rfl) rfl rfl (Qy.load 2 T.one3 rfl rfl rfl) ?_
        refine Gm.one 3 ⟨rfl, rfl, rfl, trivial⟩ (by first | exact Imm.le_refl _ | repeat (first | assumption | refine Imm.le_trans ?_ (by assumption))) (by kernel_rfl) rfl ?_
        refine Wl.call1 0 rfl T.fn90 rfl (c90 _ b _ _ _ _ (by omega) (by omega)) (tags_of ⟨rfl, trivial⟩) ?_
        refine Wl.on0 ?_
        refine Gm.one 6 ⟨rfl, rfl, rfl, trivial⟩ (by first | exact Imm.le_refl _ | repeat (first | assumption | refine Imm.le_trans ?_ (by assumption))) (by kernel_rfl) rfl ?_
        refine Wl.call1 0 rfl T.fn90 rfl (c90 _ b _ _ _ _ (by omega) (by omega)) (tags_of ⟨rfl, trivial⟩) ?_
        refine Wl.on0 ?_
        refine Gm.one 9 ⟨rfl, rfl, rfl, trivial⟩ (by first | exact Imm.le_refl _ | repeat (first | assumption | refine Imm.le_trans ?_ (by assumption))) (by kernel_rfl) rfl ?_
        refine Wl.call 0 rfl T.fn89 rfl (c89 _ b _ o d cd q wa _ wc _ _ _ hm3 hcl) (tags_of ⟨rfl, rfl, trivial⟩) (fun v1 G1 Ho1 hle1 hp => ?_)
        obtain ⟨rfl, rfl, a1, d1, j1, ho1, rfl⟩ := hp
        refine Wl.on0 ?_
        refine Gm.doneA (by kernel_rfl) ⟨rfl, trivial⟩ (by first | exact Imm.le_refl _ | repeat (first | assumption | refine Imm.le_trans ?_ (by assumption))) ?_
        refine Ar.ga 16 [0] ?_
        refine Ar.re 7 rfl (show _ = Value.int .i64 ((i : Int) - 1) from rfl) ?_
        refine Ar.again ((i, _, (a1, d1, j1))) ?_ ?_ rfl ⟨rfl, rfl, rfl, rfl, rfl, trivial⟩ ⟨rfl, rfl, rfl, trivial⟩
        · refine ⟨by omega, ?_, ho1⟩
          rw [← hm2]; unfold bkM; rw [if_neg (by omega)]; simp only [List.append_assoc, List.nil_append]
        · show i < i + 1
          omega
      · rw [if_pos hi0, if_pos hi0] at hm2
        have hb1 : ((cd ++ timesI (3 * (wh.length : Int)) ((wh.length : Int) + ((i : Int) - 1)) p.b) ++ timesI ((wh.length : Int) + (i : Int)) ((wh.length : Int) + (i : Int)) p.a).length ≤ 1048576 := by
          rw [← hm2] at hlA
          simp only [List.length_append] at hlA
          simp only [List.length_append]
          omega
        have hb0 : (cd ++ timesI (3 * (wh.length : Int)) ((wh.length : Int) + ((i : Int) - 1)) p.b).length ≤ 1048576 := by rw [List.length_append] at hb1; omega
        refine Wc.gc 31 [1, 0, 1] ?_
        refine Wc.draw [2, 1, 0] [(1, 9), (0, 9)] T.mixed rfl ?_
        refine Gm.q 0 [] (by kernel_rfl) rfl rfl (Qy.move rfl) ?_
        refine Gm.q 1 [] (by kernel_rfl) rfl rfl (Qy.move rfl) ?_
        refine Gm.q 3 [] (by kernel_rfl) rfl rfl (Qy.move rfl) ?_
        refine Gm.q 4 [] (by kernel_rfl) rfl rfl (Qy.move rfl) ?_
        refine Gm.q 5 [] (by kernel_rfl) rfl rfl (Qy.sub rfl rfl (by omega)) ?_
        refine Gm.q 7 [] (by kernel_rfl) rfl rfl (Qy.fieldAddr T.fa59_1 rfl) ?_
        refine Gm.q 8 [2] (by kernel_rfl) rfl rfl (Qy.load 2 T.one3 rfl rfl rfl) ?_
        refine Gm.one 2 ⟨rfl, rfl, rfl, trivial⟩ (by first | exact Imm.le_refl _ | repeat (first | assumption | refine Imm.le_trans ?_ (by assumption))) (by kernel_rfl) rfl ?_
        refine Wl.call1 0 rfl T.fn143 rfl (c143 _ b _ _ _ (by omega)) (tags_of ⟨rfl, trivial⟩) ?_
        refine Wl.on0 ?_
        refine Gm.one 6 ⟨rfl, rfl, rfl, trivial⟩ (by first | exact Imm.le_refl _ | repeat (first | assumption | refine Imm.le_trans ?_ (by assumption))) (by kernel_rfl) rfl ?_
        refine Wl.call1 0 rfl T.fn90 rfl (c90 _ b _ _ _ _ (by omega) (by omega)) (tags_of ⟨rfl, trivial⟩) ?_
        refine Wl.on0 ?_
        refine Gm.one 9 ⟨rfl, rfl, rfl, trivial⟩ (by first | exact Imm.le_refl _ | repeat (first | assumption | refine Imm.le_trans ?_ (by assumption))) (by kernel_rfl) rfl ?_
        refine Wl.call 0 rfl T.fn89 rfl (c89 _ b _ o d cd q wa _ wc _ _ _ hm3 hcl) (tags_of ⟨rfl, rfl, trivial⟩) (fun v1 G1 Ho1 hle1 hp => ?_)
        obtain ⟨rfl, rfl, a1, d1, j1, ho1, rfl⟩ := hp
        refine Wl.on0 ?_
        refine Gm.doneA (by kernel_rfl) ⟨rfl, trivial⟩ (by first | exact Imm.le_refl _ | repeat (first | assumption | refine Imm.le_trans ?_ (by assumption))) ?_
        refine Ar.gc 2 [] ?_
        refine Wc.draw [2, 1, 0] [(1, 9), (0, 9)] T.mixed rfl ?_
        refine Gm.q 0 [] (by kernel_rfl) rfl rfl (Qy.move rfl) ?_
        refine Gm.q 1 [] (by kernel_rfl) rfl rfl (Qy.move rfl) ?_
        refine Gm.q 2 [] (by kernel_rfl) rfl rfl (Qy.move rfl) ?_
        refine Gm.q 4 [] (by kernel_rfl) rfl rfl (Qy.move rfl) ?_
        refine Gm.q 5 [] (by kernel_rfl) rfl rfl (Qy.move rfl) ?_
        refine Gm.q 7 [] (by kernel_rfl) rfl rfl (Qy.fieldAddr T.fa59_0 rfl) ?_
        refine Gm.q 8 [2] (by kernel_rfl) rfl rfl (Qy.load 2 T.one3 rfl rfl rfl) ?_
        refine Gm.one 3 ⟨rfl, rfl, rfl, trivial⟩ (by first | exact Imm.le_refl _ | repeat (first | assumption | refine Imm.le_trans ?_ (by assumption))) (by kernel_rfl) rfl ?_
        refine Wl.call1 0 rfl T.fn90 rfl (c90 _ b _ _ _ _ (by omega) (by omega)) (tags_of ⟨rfl, trivial⟩) ?_
        refine Wl.on0 ?_
        refine Gm.one 6 ⟨rfl, rfl, rfl, trivial⟩ (by first | exact Imm.le_refl _ | repeat (first | assumption | refine Imm.le_trans ?_ (by assumption))) (by kernel_rfl) rfl ?_
        refine Wl.call1 0 rfl T.fn90 rfl (c90 _ b _ _ _ _ (by omega) (by omega)) (tags_of ⟨rfl, trivial⟩) ?_
        refine Wl.on0 ?_
        refine Gm.one 9 ⟨rfl, rfl, rfl, trivial⟩ (by first | exact Imm.le_refl _ | repeat (first | assumption | refine Imm.le_trans ?_ (by assumption))) (by kernel_rfl) rfl ?_
        refine Wl.call 0 rfl T.fn89 rfl (c89 _ b _ a1 d1 (cd ++ timesI (3 * (wh.length : Int)) ((wh.length : Int) + ((i : Int) - 1)) p.b) j1 wa _ wc _ _ _ ho1 hb0) (tags_of ⟨rfl, rfl, trivial⟩) (fun v2 G2 Ho2 hle2 hp => ?_)
        obtain ⟨rfl, rfl, a2, d2, j2, ho2, rfl⟩ := hp
        refine Wl.on0 ?_
        refine Gm.doneA (by kernel_rfl) ⟨rfl, trivial⟩ (by first | exact Imm.le_refl _ | repeat (first | assumption | refine Imm.le_trans ?_ (by assumption))) ?_
        refine Ar.gl 12 [1] ?_
        refine Wl.call1 0 rfl T.fn90 rfl (c90 _ b _ _ _ _ (by omega) (by omega)) (tags_of ⟨rfl, trivial⟩) ?_
        refine Wl.ll0 2 [] ?_
        refine Wl.call1 0 rfl T.fn90 rfl (c90 _ b _ _ _ _ (by omega) (by omega)) (tags_of ⟨rfl, trivial⟩) ?_
        refine Wl.q rfl (Qy.move rfl) ?_
        refine Wl.call1 0 rfl T.fn143 rfl (c143 _ b _ _ _ (by omega)) (tags_of ⟨rfl, trivial⟩) ?_
        refine Wl.call 0 rfl T.fn140 rfl (c140 _ b _ a2 d2 ((cd ++ timesI (3 * (wh.length : Int)) ((wh.length : Int) + ((i : Int) - 1)) p.b) ++ timesI ((wh.length : Int) + (i : Int)) ((wh.length : Int) + (i : Int)) p.a) j2 wa _ wc _ _ _ _ _ ho2 hb1) (tags_of ⟨rfl, rfl, trivial⟩) (fun v3 G3 Ho3 hle3 hp => ?_)
        obtain ⟨rfl, rfl, a3, d3, j3, ho3, rfl⟩ := hp
        refine Wl.ga 8 [] ?_
        refine Ar.re 7 rfl (show _ = Value.int .i64 ((i : Int) - 1) from rfl) ?_
        refine Ar.again ((i, _, (a3, d3, j3))) ?_ ?_ rfl ⟨rfl, rfl, rfl, rfl, rfl, trivial⟩ ⟨rfl, rfl, rfl, trivial⟩
        · refine ⟨by omega, ?_, ho3⟩
          rw [← hm2]; unfold bkM; rw [if_neg (by omega)]; simp only [List.append_assoc]
        · show i < i + 1
          omega
end Go.Proofs.YtbppmiimeccclaaGreat
set_option maxRecDepth 100000
set_option linter.unusedVariables false
namespace Go.Proofs.YtbppmiimeccclaaGreat
open Go Go.Sl
set_option maxHeartbeats 4000000
theorem backAll_le (n : Int) (wh : List R2) : ∀ (o : List Int) (t : Nat), (backAll n wh (o.drop t)).length ≤ (backAll n wh o).length
  | [], t => by rw [List.drop_nil]; exact Nat.le_refl _
  | k :: o, 0 => Nat.le_refl _
  | [k], t + 1 => by rw [List.drop_succ_cons, List.drop_nil]; exact Nat.zero_le _
  | k :: i :: left, t + 1 => by
    rw [List.drop_succ_cons]
    refine Nat.le_trans (backAll_le n wh (i :: left) t) ?_
    show _ ≤ (backAll n wh (i :: left) ++ _).length
    rw [List.length_append]; omega
theorem backAll_cons (n : Int) (wh : List R2) (k : Int) {rest : List Int} (h : 1 ≤ rest.length) : backAll n wh (k :: rest) = backAll n wh rest ++ backI n wh k rest.length := by
  cases rest with
  | nil => simp at h
  | cons i left => rfl
theorem arr_drop {α : Type} [Cells α] {G : Imm} {a : Option Addr} {c : Nat} {l : List α} (h : Arr G a l) (n : Nat) (hn : n ≤ l.length) (hc : l.length ≤ c) : Arr G (subA a c n (Cells.sz α)) (l.drop n) := by
  have h1 := SlG.sub h hn hc
  unfold Arr
  have e : flat l = flat (l.take n) ++ flat (l.drop n) := by rw [← flat_append, List.take_append_drop]
  have e2 : (flat l).drop (n * Cells.sz α) = flat (l.drop n) := by
    rw [e, List.drop_left' (by rw [flat_length, List.length_take, Nat.min_eq_left hn])]
  rw [← e2, List.length_drop]; exact h1
def outsP (n t : Nat) : List Int := (List.range t).map fun j : Nat => (n : Int) + j
theorem outsP_len (n t : Nat) : (outsP n t).length = t := by unfold outsP; rw [List.length_map, List.length_range]
theorem outsP_succ (n t : Nat) : outsP n (t + 1) = outsP n t ++ [(n : Int) + t] := by unfold outsP; rw [List.range_succ, List.map_append]; rfl
theorem c88n (G : Imm) (n b : Nat) (ac : Option Addr) (cc : Nat) (code : List Sl.Instr) (j : List Value) (wa : Option Addr) (wc : Nat) (wh : List R2) (k : Int) (la : Option Addr) (lc m : Nat) (left : List Int) (e : Nat) (hn : wh.length = n) (hm : left.length = m) (ho : OwnA ac cc code j) (hw : Arr G wa wh) (hla : Arr G la left)
    (hwl : n ≤ 15) (hk : 0 ≤ k ∧ k < n) (hll : m ≤ 15) (hleft : ∀ i ∈ left, 0 ≤ i ∧ i < n) (he : e ≤ 14) (hok : ∀ i, i < n → okP (wh[i]?.getD default)) (hl : (code ++ awayI n wh k e left).length ≤ 1048576) :
    Does Tryz.prog 88 [.pointer (some ⟨b, 0, none⟩), .int .i64 k, .slice la m lc, .int .i64 e] G [(0, some b, .cells #[.int .i64 n, .slice ac code.length cc, .slice wa n wc] 149), (1, ac.map (·.block), Row 93 code j)]
      (fun v G' Ho => v = .tuple #[] ∧ G' = G ∧ ∃ (a' : Option Addr) (c' : Nat) (j' : List Value), OwnA a' c' (code ++ awayI n wh k e left) j' ∧ Ho = [(0, some b, .cells #[.int .i64 n, .slice a' (code ++ awayI n wh k e left).length c', .slice wa n wc] 149), (1, a'.map (·.block), Row 93 (code ++ awayI n wh k e left) j')]) := by
  subst hn hm
  exact c88 G b ac cc code j wa wc wh k la lc left e ho hw hla hwl hk hll (fun i hi => hleft _ (by rw [List.getElem?_eq_getElem hi]; exact List.getElem_mem _)) he hok hl
theorem c91n (G : Imm) (n b : Nat) (ac : Option Addr) (cc : Nat) (code : List Sl.Instr) (j : List Value) (wa : Option Addr) (wc : Nat) (wh : List R2) (k : Int) (e : Nat) (hn : wh.length = n) (ho : OwnA ac cc code j) (hw : Arr G wa wh)
    (hwl : n ≤ 15) (hk : 0 ≤ k ∧ k < n) (he1 : 1 ≤ e) (he : e < n) (hok : okP (wh[k.toNat]?.getD default)) (hl : (code ++ backI n wh k e).length ≤ 1048576) :
    Does Tryz.prog 91 [.pointer (some ⟨b, 0, none⟩), .int .i64 k, .int .i64 e] G [(0, some b, .cells #[.int .i64 n, .slice ac code.length cc, .slice wa n wc] 149), (1, ac.map (·.block), Row 93 code j)]
      (fun v G' Ho => v = .tuple #[] ∧ G' = G ∧ ∃ (a' : Option Addr) (c' : Nat) (j' : List Value), OwnA a' c' (code ++ backI n wh k e) j' ∧ Ho = [(0, some b, .cells #[.int .i64 n, .slice a' (code ++ backI n wh k e).length c', .slice wa n wc] 149), (1, a'.map (·.block), Row 93 (code ++ backI n wh k e) j')]) := by
  subst hn
  exact c91 G b ac cc code j wa wc wh k e ho hw hwl hk he1 he hok hl
theorem c41 (G : Imm) (a : Option Addr) (c : Nat) (l : List R2) (oa : Option Addr) (oc : Nat) (o : List Int) (ha : Arr G a l) (hoa : Arr G oa o) (hac : l.length ≤ c) (hocc : o.length ≤ oc) (hR : RightL l) (hO : OrderP o l.length) :
    Does Tryz.prog 41 [.slice a l.length c, .slice oa o.length oc] G [] (fun v G' Ho => ∃ (bc bo : Option Addr) (dc do_ : Nat) (j1 j2 : List Value), v = .agg #[.int .i64 (madeP l o).ins, .int .i64 (madeP l o).regs, .slice bc (madeP l o).code.length dc, .slice bo (madeP l o).outs.length do_] ∧ OwnA bc dc (madeP l o).code j1 ∧ OwnA bo do_ (madeP l o).outs j2 ∧
      Ho = [(0, bc.map (·.block), Row 93 (madeP l o).code j1), (1, bo.map (·.block), Row 3 (madeP l o).outs j2)]) := by
  have hgood := code_good hR hO
  have hok : ∀ i, i < l.length → okP (l[i]?.getD default) := hR.2.2.1
  have hl1 := hR.1
  have hl15 := hR.2.1
  obtain ⟨o1, o2, o3⟩ := hO
  refine Does.enter Tryz.func41 rfl Tryz.ntmps41 rfl (fun w => ?_)
  refine Wc.gl 2 [] ?_
  refine Wl.alloc 0 rfl T.zero25 (fun b1 => ?_)
  refine Wl.gl 12 [] ?_
  refine Wl.q rfl (Qy.build (cs := [_, _, _]) T.st149 rfl rfl rfl) ?_
  refine Wl.box 1 rfl rfl rfl (fun b2 => ?_)
  refine Wl.gc 12 [] ?_
  refine Wc.nilRow 2 (Row 93 ([] : List Sl.Instr) []) (Wc.nilRow 3 (Row 59 ([] : List R2) []) ?_)
  generalize hN : normAll (l.length - 1) l 0 = N at *
  have hNl : N.length ≤ 16384 := by
    have := hgood.len
    unfold codeP at this
    rw [hN, List.length_append] at this; omega
  refine Wc.loop (ι := Nat × List Sl.Instr × (Option Addr × Nat × List Value) × List R2 × (Option Addr × Nat × List Value)) (fun (k, cd, (u, d, q), wh, (wa, wd, wq)) => ([(25, .int .i64 (k : Int)), (5, .int .i64 l.length), (6, .pointer (some ⟨b2, 0, none⟩)), (1, .slice oa o.length oc), (24, Go.Value.int Go.IntKind.i64 (↑(List.length l) : Int)), (23, Go.Value.slice a (List.length l) c), (4, Go.Value.pointer (Option.some (Go.Addr.mk b1 0 Option.none)))], [(1, some b2, .cells #[.int .i64 l.length, .slice u cd.length d, .slice wa wh.length wd] 149), (2, u.map (·.block), Row 93 cd q), (3, wa.map (·.block), Row 59 wh wq), (0, Option.some b1, Go.Obj.cells #[Go.Value.int Go.IntKind.i64 0, Go.Value.int Go.IntKind.i64 0, Go.Value.slice Option.none 0 0, Go.Value.slice Option.none 0 0] 25)])) (fun (k, cd, (u, d, q), wh, (wa, wd, wq)) => k ≤ l.length ∧ cd ++ normAll (l.length - 1) (l.drop k) k = N ∧ OwnA u d cd q ∧ wh = (l.take k).map wholeP ∧ OwnA wa wd wh wq) (fun (k, cd, (u, d, q), wh, (wa, wd, wq)) => l.length - k) ((0, [], (none, 0, []), [], (none, 0, []))) (⟨Nat.zero_le _, hN, OwnA.nil, rfl, OwnA.nil⟩) ⟨rfl, rfl, rfl, rfl, rfl, rfl, rfl, trivial⟩ ⟨rfl, rfl, rfl, rfl, trivial⟩ (fun ⟨k, cd, (u, d, q), wh, (wa, wd, wq)⟩ => fun (hk : k ≤ l.length ∧ cd ++ normAll (l.length - 1) (l.drop k) k = N ∧ OwnA u d cd q ∧ wh = (l.take k).map wholeP ∧ OwnA wa wd wh wq) => ?_)
  obtain ⟨hk1, hk2, hk3, hk4, hk5⟩ := hk
  have hcl : cd.length ≤ 16384 := by rw [← hk2, List.length_append] at hNl; omega
  rcases Nat.lt_or_ge k l.length with hkl | hkl
  · obtain ⟨hnk, hzk⟩ := hok k hkl
    have hgn := gcd_near ⟨hnk, hzk⟩
    have hdr : l.drop k = l[((k : Nat) : Int).toNat]?.getD default :: l.drop (k + 1) := by
      rw [List.drop_eq_getElem_cons hkl, Int.toNat_natCast, List.getElem?_eq_getElem hkl]; rfl
    rw [hdr] at hk2
    have hk2 : cd ++ ((List.replicate (l.length - 1) (overI (k : Int) (Int.gcd (l[((k : Nat) : Int).toNat]?.getD default).a (l[((k : Nat) : Int).toNat]?.getD default).b))).flatten ++ normAll (l.length - 1) (l.drop (k + 1)) (k + 1)) = N := hk2
    refine Wc.gl 14 [1] ?_
    refine Wl.q rfl (Qy.at (α := R2) T.sl26 rfl rfl (by assumption) (by omega)) ?_
    refine Wl.q rfl (Qy.loadsG T.agg59 rfl (Arr.elem (by assumption) (by omega)) rfl) ?_
    refine Wl.alloc 4 rfl T.zero59 (fun b3 => ?_)
    refine Wl.gl 7 [4, 4] ?_
    refine Wl.call0 rfl T.fn86 rfl (c86 _ _ _ (by assumption) (by assumption)) ?_
    refine Wl.gc 20 [] ?_
    generalize hpp : l[((k : Nat) : Int).toNat]?.getD default = p at *
    have hnk : near p.a p.b := by rw [← hpp]; exact hnk
    have hzk : ¬ (p.a = 0 ∧ p.b = 0) := by rw [← hpp]; exact hzk
    have hgn : 1 ≤ Int.gcd p.a p.b ∧ Int.gcd p.a p.b ≤ 16 := by rw [← hpp]; exact hgn
    refine Wc.loop (ι := Nat × List Sl.Instr × (Option Addr × Nat × List Value)) (fun (i, ce, (u, d, q)) => ([(39, .int .i64 (i : Int)), (25, .int .i64 (k : Int)), (5, .int .i64 l.length), (6, .pointer (some ⟨b2, 0, none⟩)), (1, .slice oa o.length oc), (24, .int .i64 l.length), (23, .slice a l.length c), (4, .pointer (some ⟨b1, 0, none⟩)), (7, .int .i64 (k : Int)), (8, .pointer (some ⟨b3, 0, none⟩)), (9, .int .i64 (Int.gcd p.a p.b)), (38, Go.Value.int Go.IntKind.i64 ((↑(List.length l) : Int) - 1))], [(1, some b2, .cells #[.int .i64 l.length, .slice u ce.length d, .slice wa wh.length wd] 149), (2, u.map (·.block), Row 93 ce q), (4, Option.some b3, Go.Obj.cells (List.toArray (Go.Sl.Cells.enc p)) 59), (3, Option.map (fun x => Go.Addr.block x) wa, Go.Sl.Row (α := Go.Sl.R2) 59 (wh) (wq)), (0, Option.some b1, Go.Obj.cells #[Go.Value.int Go.IntKind.i64 0, Go.Value.int Go.IntKind.i64 0, Go.Value.slice Option.none 0 0, Go.Value.slice Option.none 0 0] 25)])) (fun (i, ce, (u, d, q)) => i ≤ l.length - 1 ∧ ce ++ ((List.replicate (l.length - 1 - i) (overI (k : Int) (Int.gcd p.a p.b))).flatten ++ normAll (l.length - 1) (l.drop (k + 1)) (k + 1)) = N ∧ OwnA u d ce q) (fun (i, ce, (u, d, q)) => l.length - 1 - i) ((0, cd, (u, d, q))) (⟨Nat.zero_le _, hk2, hk3⟩) ⟨rfl, rfl, rfl, rfl, rfl, rfl, rfl, rfl, rfl, rfl, rfl, rfl, trivial⟩ ⟨rfl, rfl, rfl, rfl, rfl, trivial⟩ (fun ⟨i, ce, (u, d, q)⟩ => fun (hk : i ≤ l.length - 1 ∧ ce ++ ((List.replicate (l.length - 1 - i) (overI (k : Int) (Int.gcd p.a p.b))).flatten ++ normAll (l.length - 1) (l.drop (k + 1)) (k + 1)) = N ∧ OwnA u d ce q) => ?_)
    obtain ⟨hi1, hi2, hi3⟩ := hk
    have hel : ce.length ≤ 16384 := by rw [← hi2, List.length_append] at hNl; omega
    rcases Nat.lt_or_ge i (l.length - 1) with hil | hil
    · have er : l.length - 1 - i = (l.length - 1 - (i + 1)) + 1 := by omega
      rw [er, List.replicate_succ, List.flatten_cons] at hi2
      refine Wc.gl 15 [1] ?_
      refine Wl.call 1 rfl T.fn87 rfl (c87 _ b2 _ u d ce q wa _ wd _ _ hi3 (by omega)) (tags_of ⟨rfl, rfl, trivial⟩) (fun v1 G1 Ho1 hle1 hp => ?_)
      obtain ⟨rfl, rfl, a1, d1, j1, ho1, rfl⟩ := hp
      refine Wl.ga 7 [] ?_
      refine Ar.re 39 rfl (show _ = Value.int .i64 ((i + 1 : Nat) : Int) from rfl) ?_
      refine Ar.again ((i + 1, _, (a1, d1, j1))) ?_ ?_ rfl ⟨rfl, rfl, rfl, rfl, rfl, rfl, rfl, rfl, rfl, rfl, rfl, rfl, trivial⟩ ⟨rfl, rfl, rfl, rfl, rfl, trivial⟩
      · refine ⟨hil, ?_, ho1⟩
        rw [← hi2]; simp only [List.append_assoc]
      · show l.length - 1 - (i + 1) < l.length - 1 - i
        omega
    · have hil : i = l.length - 1 := by omega
      have hi2 : ce ++ normAll (l.length - 1) (l.drop (k + 1)) (k + 1) = N := by rw [← hi2, hil, Nat.sub_self]; rfl
      have hwl : wh.length = k := by rw [hk4, List.length_map, List.length_take]; omega
      have q1 := tdiv_rng p.a (Int.gcd p.a p.b)
      have q2 := tdiv_rng p.b (Int.gcd p.a p.b)
      have hnk2 := hnk
      unfold near at hnk2
      refine Wc.gc 12 [0] ?_
      refine Wc.draw [0, 3, 4, 2, 1] [(1, 18), (2, 15), (3, 15)] T.mixed rfl ?_
      refine Gm.q 0 [] (by kernel_rfl) rfl rfl (Qy.move rfl) ?_
      refine Gm.q 1 [] (by kernel_rfl) rfl rfl (Qy.move rfl) ?_
      refine Gm.q 2 [] (by kernel_rfl) rfl rfl (Qy.nilCheck rfl) ?_
      refine Gm.q 3 [] (by kernel_rfl) rfl rfl (Qy.fieldAddr T.fa149_2 rfl) ?_
      refine Gm.q 4 [1] (by kernel_rfl) rfl rfl (Qy.load 1 T.one26 rfl rfl rfl) ?_
      refine Gm.q 5 [] (by kernel_rfl) rfl rfl (Qy.fieldAddr T.fa59_0 rfl) ?_
      refine Gm.q 6 [4] (by kernel_rfl) rfl rfl (Qy.load 4 T.one3 rfl rfl rfl) ?_
      refine Gm.q 7 [] (by kernel_rfl) rfl rfl (Qy.move rfl) ?_
      refine Gm.q 8 [] (by kernel_rfl) rfl rfl (Qy.quo rfl rfl (by omega) (by omega)) ?_
      refine Gm.q 9 [] (by kernel_rfl) rfl rfl (Qy.fieldAddr T.fa59_1 rfl) ?_
      refine Gm.q 10 [4] (by kernel_rfl) rfl rfl (Qy.load 4 T.one3 rfl rfl rfl) ?_
      refine Gm.q 11 [] (by kernel_rfl) rfl rfl (Qy.move rfl) ?_
      refine Gm.q 12 [] (by kernel_rfl) rfl rfl (Qy.quo rfl rfl (by omega) (by omega)) ?_
      refine Gm.q 13 [] (by kernel_rfl) rfl rfl (Qy.build (cs := [_, _]) T.st59 rfl rfl rfl) ?_
      refine Gm.one 14 ⟨rfl, rfl, rfl, rfl, rfl, trivial⟩ (by first | exact Imm.le_refl _ | repeat (first | assumption | refine Imm.le_trans ?_ (by assumption))) (by kernel_rfl) rfl ?_
      refine Wl.lit (α := R2) 5 [⟨Int.tdiv (Go.Sl.R2.a p) (↑(Int.gcd (Go.Sl.R2.a p) (Go.Sl.R2.b p)) : Int), Int.tdiv (Go.Sl.R2.b p) (↑(Int.gcd (Go.Sl.R2.a p) (Go.Sl.R2.b p)) : Int)⟩] rfl T.sl26 T.el59 rfl rfl rfl rfl rfl (fun b4 => ?_)
      refine Wl.on0 ?_
      refine Gm.one 15 ⟨rfl, rfl, rfl, rfl, rfl, trivial⟩ (by first | exact Imm.le_refl _ | repeat (first | assumption | refine Imm.le_trans ?_ (by assumption))) (by kernel_rfl) rfl ?_
      refine Wl.append (α := R2) 3 rfl T.sl26 T.el59 rfl rfl rfl (by first | assumption | exact OwnA.nil | exact OwnA.made (by simp)) (Src.row 5 rfl) (by first | omega | (simp only [List.length_append, List.length_cons, List.length_nil, maxLen]; omega)) (by first | omega | (simp only [List.length_append, List.length_cons, List.length_nil, maxLen]; omega)) (fun a1 c1 junk1 ho1 => ?_)
      refine Wl.on0 ?_
      refine Gm.q 16 [] (by kernel_rfl) rfl rfl (Qy.nilCheck rfl) ?_
      refine Gm.q 17 [] (by kernel_rfl) rfl rfl (Qy.fieldAddr T.fa149_2 rfl) ?_
      refine Gm.one 18 ⟨rfl, rfl, rfl, trivial⟩ (by first | exact Imm.le_refl _ | repeat (first | assumption | refine Imm.le_trans ?_ (by assumption))) (by kernel_rfl) rfl ?_
      refine Wl.store 1 T.one26 rfl rfl rfl rfl rfl ?_
      refine Wl.on0 ?_
      refine Gm.doneA (by kernel_rfl) ⟨rfl, rfl, trivial⟩ (by first | exact Imm.le_refl _ | repeat (first | assumption | refine Imm.le_trans ?_ (by assumption))) ?_
      refine Ar.ga 6 [] ?_
      refine Ar.re 25 rfl (show _ = Value.int .i64 ((k + 1 : Nat) : Int) from rfl) ?_
      refine Ar.again ((k + 1, ce, (u, d, q), wh ++ [⟨p.a.tdiv (Int.gcd p.a p.b), p.b.tdiv (Int.gcd p.a p.b)⟩], (a1, c1, junk1))) ?_ ?_ rfl ⟨rfl, rfl, rfl, rfl, rfl, rfl, rfl, trivial⟩ ⟨rfl, rfl, rfl, rfl, trivial⟩
      · refine ⟨hkl, hi2, hi3, ?_, ho1⟩
        rw [hk4, List.take_add_one, List.map_append, List.getElem?_eq_getElem hkl]
        rw [Int.toNat_natCast, List.getElem?_eq_getElem hkl] at hpp
        have hpp : l[k] = p := hpp
        rw [hpp]; rfl
      · show l.length - (k + 1) < l.length - k
        omega
  · have hkl : k = l.length := by omega
    subst hkl
    rw [List.drop_length] at hk2
    have hk2 : cd = N := by rw [← hk2]; exact (List.append_nil _).symm
    rw [List.take_length] at hk4
    subst hk4
    have hwl : (l.map wholeP).length = l.length := List.length_map _
    have hwok : ∀ i, i < (l.map wholeP).length → okP ((l.map wholeP)[i]?.getD default) := fun i hi => by
      rw [hwl] at hi
      rw [List.getElem?_map]
      have := hok i hi
      rw [List.getElem?_eq_getElem hi] at this ⊢
      exact (whole_facts this).2.2.2
    refine Wc.freezeRow 3 rfl hk5 (fun G2 hle2 hw2 => ?_)
    replace ha := ha.up hle2
    replace hoa := hoa.up hle2
    generalize hWh : l.map wholeP = wh at *
    refine Wc.reH 1 (.cells #[.int .i64 l.length, .slice u cd.length d, .slice wa l.length wd] 149) rfl (by rw [hwl]) ?_
    rw [hwl] at hwok
    have hgl : (N ++ (awayAll l.length wh o ++ backAll l.length wh o)).length ≤ 16384 := by
      have := hgood.len
      unfold codeP at this
      rw [hN, hWh] at this; exact this
    generalize hA : awayAll l.length wh o = A at *
    have hgA : (N ++ A).length ≤ 16384 := by rw [← List.append_assoc, List.length_append] at hgl; omega
    refine Wc.gc 21 [0] ?_
    refine Wc.loop (ι := Nat × List Sl.Instr × (Option Addr × Nat × List Value)) (fun (t, ce, (u, d, q)) => ([(67, .int .i64 (t : Int)), (66, Go.Value.int Go.IntKind.i64 (↑(List.length o) : Int)), (65, Go.Value.slice oa (List.length o) oc), (5, Go.Value.int Go.IntKind.i64 (↑(List.length l) : Int)), (6, Go.Value.pointer (Option.some (Go.Addr.mk b2 0 Option.none))), (1, Go.Value.slice oa (List.length o) oc), (4, Go.Value.pointer (Option.some (Go.Addr.mk b1 0 Option.none)))], [(1, some b2, .cells #[.int .i64 l.length, .slice u ce.length d, .slice wa l.length wd] 149), (2, u.map (·.block), Row 93 ce q), (0, Option.some b1, Go.Obj.cells #[Go.Value.int Go.IntKind.i64 0, Go.Value.int Go.IntKind.i64 0, Go.Value.slice Option.none 0 0, Go.Value.slice Option.none 0 0] 25)])) (fun (t, ce, (u, d, q)) => t ≤ o.length ∧ ce ++ awayAll l.length wh (o.drop t) = N ++ A ∧ OwnA u d ce q) (fun (t, ce, (u, d, q)) => o.length - t) ((0, cd, (u, d, q))) (⟨Nat.zero_le _, by rw [hk2, ← hA]; rfl, hk3⟩) ⟨rfl, rfl, rfl, rfl, rfl, rfl, rfl, trivial⟩ ⟨rfl, rfl, rfl, trivial⟩ (fun ⟨t, ce, (u, d, q)⟩ => fun (hk : t ≤ o.length ∧ ce ++ awayAll l.length wh (o.drop t) = N ++ A ∧ OwnA u d ce q) => ?_)
    obtain ⟨ht1, ht2, ht3⟩ := hk
    have hel : ce.length ≤ 16384 := by rw [← ht2, List.length_append] at hgA; omega
    rcases Nat.lt_or_ge t o.length with hte | hte
    · have hdr : o.drop t = o[((t : Nat) : Int).toNat]?.getD default :: o.drop (t + 1) := by
        rw [List.drop_eq_getElem_cons hte, Int.toNat_natCast, List.getElem?_eq_getElem hte]; rfl
      rw [hdr] at ht2
      have hok2 := o2 (o[((t : Nat) : Int).toNat]?.getD default) (by rw [Int.toNat_natCast, List.getElem?_eq_getElem hte]; exact List.getElem_mem _)
      have hdl : (o.drop (t + 1)).length = o.length - ((t : Int) + 1).toNat := by rw [List.length_drop]; omega
      have hdA := arr_drop hoa (t + 1) (by omega) hocc
      have ht2 : ce ++ (awayI l.length wh (o[((t : Nat) : Int).toNat]?.getD default) (o.drop (t + 1)).length (o.drop (t + 1)) ++ awayAll l.length wh (o.drop (t + 1))) = N ++ A := ht2
      have hb : (ce ++ awayI l.length wh (o[((t : Nat) : Int).toNat]?.getD default) (o.drop (t + 1)).length (o.drop (t + 1))).length ≤ 1048576 := by
        rw [← ht2, ← List.append_assoc, List.length_append] at hgA; omega
      refine Wc.gl 14 [1] ?_
      refine Wl.q rfl (Qy.at (α := Int) T.sl23 rfl rfl (by assumption) (by omega)) ?_
      refine Wl.q rfl (Qy.loadG T.one3 rfl (Arr.cell (by assumption) (by omega) 0 rfl rfl)) ?_
      refine Wl.gl 10 [] ?_
      refine Wl.q rfl (Qy.cutL T.sl23 rfl rfl (by omega) (by omega)) ?_
      refine Wl.ll0 4 [] ?_
      have et : ((t : Int) + 1).toNat = t + 1 := by omega
      refine Wl.re 77 rfl (show _ = Value.slice (subA oa oc (t + 1) (Cells.sz Int)) (o.drop (t + 1)).length (oc - (t + 1)) by rw [hdl, et]; rfl) ?_
      refine Wl.re 81 rfl (show _ = Value.int .i64 ((o.drop (t + 1)).length : Nat) by congr 1; rw [hdl, et]; omega) ?_
      refine Wl.call 1 rfl T.fn88 rfl (c88n _ l.length b2 u d ce q wa wd wh _ (subA oa oc (t + 1) (Cells.sz Int)) _ (o.drop (t + 1)).length (o.drop (t + 1)) (o.drop (t + 1)).length hwl rfl ht3 hw2 hdA hl15 hok2 (by rw [hdl]; omega) (fun i hi => o2 i (List.mem_of_mem_drop hi)) (by rw [hdl]; omega) hwok hb) (tags_of ⟨rfl, rfl, trivial⟩) (fun v1 G1 Ho1 hle1 hp => ?_)
      obtain ⟨rfl, rfl, a1, d1, j1, ho1, rfl⟩ := hp
      refine Wl.ga 7 [] ?_
      refine Ar.re 67 rfl (show _ = Value.int .i64 ((t + 1 : Nat) : Int) from rfl) ?_
      refine Ar.again ((t + 1, _, (a1, d1, j1))) ?_ ?_ rfl ⟨rfl, rfl, rfl, rfl, rfl, rfl, rfl, trivial⟩ ⟨rfl, rfl, rfl, trivial⟩
      · refine ⟨hte, ?_, ho1⟩
        rw [← ht2]; simp only [List.append_assoc]
      · show o.length - (t + 1) < o.length - t
        omega
    · have hte : t = o.length := by omega
      subst hte
      rw [List.drop_length] at ht2
      have ht2 : ce = N ++ A := by rw [← ht2]; exact (List.append_nil _).symm
      refine Wc.gc 13 [0] ?_
      refine Wc.draw [0, 2, 1] [(2, 8), (1, 8)] T.mixed rfl ?_
      refine Gm.q 0 [] (by kernel_rfl) rfl rfl (Qy.move rfl) ?_
      refine Gm.q 1 [] (by kernel_rfl) rfl rfl (Qy.move rfl) ?_
      refine Gm.q 3 [] (by kernel_rfl) rfl rfl (Qy.move rfl) ?_
      refine Gm.q 4 [] (by kernel_rfl) rfl rfl (Qy.move rfl) ?_
      refine Gm.q 5 [] (by kernel_rfl) rfl rfl (Qy.sub rfl rfl (by omega)) ?_
      refine Gm.q 6 [] (by kernel_rfl) rfl rfl (Qy.at (α := Int) T.sl23 rfl rfl (by assumption) (by omega)) ?_
      refine Gm.q 7 [0] (by kernel_rfl) rfl rfl (Qy.loadG T.one3 rfl (Arr.cell (by assumption) (by omega) 0 rfl rfl)) ?_
      refine Gm.one 2 ⟨rfl, rfl, rfl, trivial⟩ (by first | exact Imm.le_refl _ | repeat (first | assumption | refine Imm.le_trans ?_ (by assumption))) (by kernel_rfl) rfl ?_
      refine Wl.call1 1 rfl T.fn90 rfl (c90 _ b2 _ _ _ _ (by omega) (by omega)) (tags_of ⟨rfl, trivial⟩) ?_
      refine Wl.on0 ?_
      refine Gm.one 8 ⟨rfl, rfl, rfl, trivial⟩ (by first | exact Imm.le_refl _ | repeat (first | assumption | refine Imm.le_trans ?_ (by assumption))) (by kernel_rfl) rfl ?_
      refine Wl.call 1 rfl T.fn89 rfl (c89 _ b2 _ u d ce q wa _ wd _ _ _ ht3 (by omega)) (tags_of ⟨rfl, rfl, trivial⟩) (fun v1 G1 Ho1 hle1 hp => ?_)
      obtain ⟨rfl, rfl, a1, d1, j1, ho1, rfl⟩ := hp
      refine Wl.on0 ?_
      refine Gm.doneA (by kernel_rfl) ⟨rfl, trivial⟩ (by first | exact Imm.le_refl _ | repeat (first | assumption | refine Imm.le_trans ?_ (by assumption))) ?_
      refine Ar.gc 10 [] ?_
      have hbl : ∀ m, (N ++ A ++ backAll l.length wh (o.drop m)).length ≤ 16384 := fun m => by
        have := backAll_le l.length wh o m
        rw [List.length_append, List.length_append] at hgl
        rw [List.length_append, List.length_append]; omega
      have hi0 : ce ++ timesI ((l.length : Int) + 0) (o[((l.length : Int) - 1).toNat]?.getD default) 1 = N ++ A ++ backAll l.length wh (o.drop (l.length - 1)) := by
        have e1 : o.drop (l.length - 1) = [o[l.length - 1]?.getD default] := by
          rw [List.drop_eq_getElem_cons (by omega), List.getElem?_eq_getElem (by omega), List.drop_eq_nil_of_le (by omega)]; rfl
        rw [e1, ht2, Int.add_zero, show ((l.length : Int) - 1).toNat = l.length - 1 by omega]; rfl
      refine Wc.re 15 rfl (show _ = Value.int .i64 (((l.length - 1 : Nat) : Int) - 1) by congr 1; omega) ?_
      refine Wc.loop (ι := Nat × List Sl.Instr × (Option Addr × Nat × List Value)) (fun (m, cf, (u, d, q)) => ([(15, .int .i64 ((m : Int) - 1)), (5, Go.Value.int Go.IntKind.i64 (↑(List.length l) : Int)), (6, Go.Value.pointer (Option.some (Go.Addr.mk b2 0 Option.none))), (1, Go.Value.slice oa (List.length o) oc), (4, Go.Value.pointer (Option.some (Go.Addr.mk b1 0 Option.none)))], [(1, some b2, .cells #[.int .i64 l.length, .slice u cf.length d, .slice wa l.length wd] 149), (2, u.map (·.block), Row 93 cf q), (0, Option.some b1, Go.Obj.cells #[Go.Value.int Go.IntKind.i64 0, Go.Value.int Go.IntKind.i64 0, Go.Value.slice Option.none 0 0, Go.Value.slice Option.none 0 0] 25)])) (fun (m, cf, (u, d, q)) => m ≤ l.length - 1 ∧ cf = N ++ A ++ backAll l.length wh (o.drop m) ∧ OwnA u d cf q) (fun (m, cf, (u, d, q)) => m) ((l.length - 1, _, (a1, d1, j1))) (⟨Nat.le_refl _, hi0, ho1⟩) ⟨rfl, rfl, rfl, rfl, rfl, trivial⟩ ⟨rfl, rfl, rfl, trivial⟩ (fun ⟨m, cf, (u, d, q)⟩ => fun (hk : m ≤ l.length - 1 ∧ cf = N ++ A ++ backAll l.length wh (o.drop m) ∧ OwnA u d cf q) => ?_)
      obtain ⟨hm1, hm2, hm3⟩ := hk
      rcases Nat.eq_zero_or_pos m with hm0 | hm0
      · subst hm0
        refine Wc.gl 17 [0] ?_
        refine Wl.q rfl (Qy.mul rfl rfl (by omega)) ?_
        refine Wl.ll0 5 [1] ?_
        refine Wl.q rfl (Qy.build (cs := [_, _, _, _]) T.st25 rfl rfl rfl) ?_
        refine Wl.alloc 3 rfl T.zero25 (fun b3 => ?_)
        refine Wl.gc 11 [3] ?_
        refine Wc.nilRow 4 (Row 3 ([] : List Int) []) ?_
        have hcf : cf = codeP l o := by
          rw [hm2, List.drop_zero]
          unfold codeP
          rw [hN, hWh, hA, List.append_assoc]
        refine Wc.loop (ι := Nat × (Option Addr × Nat × List Value)) (fun (t, (x, y, z)) => ([(119, .int .i64 (t : Int)), (118, Go.Value.int Go.IntKind.i64 (↑(List.length l) : Int)), (16, Go.Value.pointer (Option.some (Go.Addr.mk b3 0 Option.none))), (6, Go.Value.pointer (Option.some (Go.Addr.mk b2 0 Option.none))), (4, Go.Value.pointer (Option.some (Go.Addr.mk b1 0 Option.none)))], [(3, some b3, .cells #[.int .i64 l.length, .int .i64 (3 * (l.length : Int) + 1), .slice u cf.length d, .slice x (outsP l.length t).length y] 25), (4, x.map (·.block), Row 3 (outsP l.length t) z), (1, Option.some b2, Go.Obj.cells #[Go.Value.int Go.IntKind.i64 (↑(List.length l) : Int), Go.Value.slice u (List.length cf) d, Go.Value.slice wa (List.length l) wd] 149), (2, Option.map (fun x => Go.Addr.block x) u, Go.Sl.Row (α := Go.Sl.Instr) 93 (cf) (q)), (0, Option.some b1, Go.Obj.cells #[Go.Value.int Go.IntKind.i64 0, Go.Value.int Go.IntKind.i64 0, Go.Value.slice Option.none 0 0, Go.Value.slice Option.none 0 0] 25)])) (fun (t, (x, y, z)) => t ≤ l.length ∧ OwnA x y (outsP l.length t) z) (fun (t, (x, y, z)) => l.length - t) ((0, (none, 0, []))) (⟨Nat.zero_le _, OwnA.nil⟩) ⟨rfl, rfl, rfl, rfl, rfl, trivial⟩ ⟨rfl, rfl, rfl, rfl, rfl, trivial⟩ (fun ⟨t, (x, y, z)⟩ => fun (hk : t ≤ l.length ∧ OwnA x y (outsP l.length t) z) => ?_)
        obtain ⟨hx1, hx2⟩ := hk
        have hol : (outsP l.length t).length = t := outsP_len _ _
        rcases Nat.lt_or_ge t l.length with htl | htl
        · refine Wc.gc 17 [1] ?_
          refine Wc.draw [0, 2, 1, 4, 3] [(3, 8), (4, 6), (2, 6)] T.mixed rfl ?_
          refine Gm.q 0 [] (by kernel_rfl) rfl rfl (Qy.fieldAddr T.fa25_3 rfl) ?_
          refine Gm.q 1 [3] (by kernel_rfl) rfl rfl (Qy.load 3 T.one23 rfl rfl rfl) ?_
          refine Gm.q 2 [] (by kernel_rfl) rfl rfl (Qy.move rfl) ?_
          refine Gm.q 3 [] (by kernel_rfl) rfl rfl (Qy.move rfl) ?_
          refine Gm.one 4 ⟨rfl, rfl, rfl, rfl, rfl, trivial⟩ (by first | exact Imm.le_refl _ | repeat (first | assumption | refine Imm.le_trans ?_ (by assumption))) (by kernel_rfl) rfl ?_
          refine Wl.call1 1 rfl T.fn90 rfl (c90 _ b2 _ _ _ _ (by omega) (by omega)) (tags_of ⟨rfl, trivial⟩) ?_
          refine Wl.on0 ?_
          refine Gm.one 5 ⟨rfl, rfl, rfl, rfl, rfl, trivial⟩ (by first | exact Imm.le_refl _ | repeat (first | assumption | refine Imm.le_trans ?_ (by assumption))) (by kernel_rfl) rfl ?_
          refine Wl.lit (α := Int) 5 [((↑(List.length l) : Int) + (↑t : Int))] rfl T.sl23 T.el3 rfl rfl rfl rfl rfl (fun b4 => ?_)
          refine Wl.on0 ?_
          refine Gm.one 6 ⟨rfl, rfl, rfl, rfl, rfl, trivial⟩ (by first | exact Imm.le_refl _ | repeat (first | assumption | refine Imm.le_trans ?_ (by assumption))) (by kernel_rfl) rfl ?_
          refine Wl.append (α := Int) 4 rfl T.sl23 T.el3 rfl rfl rfl (by first | assumption | exact OwnA.nil | exact OwnA.made (by simp)) (Src.row 5 rfl) (by first | omega | (simp only [List.length_append, List.length_cons, List.length_nil, maxLen]; omega)) (by first | omega | (simp only [List.length_append, List.length_cons, List.length_nil, maxLen]; omega)) (fun a2 c2 junk2 ho2 => ?_)
          refine Wl.on0 ?_
          refine Gm.q 7 [] (by kernel_rfl) rfl rfl (Qy.fieldAddr T.fa25_3 rfl) ?_
          refine Gm.one 8 ⟨rfl, rfl, rfl, trivial⟩ (by first | exact Imm.le_refl _ | repeat (first | assumption | refine Imm.le_trans ?_ (by assumption))) (by kernel_rfl) rfl ?_
          refine Wl.store 3 T.one23 rfl rfl rfl rfl rfl ?_
          refine Wl.on0 ?_
          refine Gm.doneA (by kernel_rfl) ⟨rfl, rfl, trivial⟩ (by first | exact Imm.le_refl _ | repeat (first | assumption | refine Imm.le_trans ?_ (by assumption))) ?_
          refine Ar.ga 6 [] ?_
          refine Ar.re 119 rfl (show _ = Value.int .i64 ((t + 1 : Nat) : Int) from rfl) ?_
          refine Ar.reH 3 (.cells #[.int .i64 l.length, .int .i64 (3 * (l.length : Int) + 1), .slice u cf.length d, .slice a2 (outsP l.length (t + 1)).length c2] 25) rfl (by rw [outsP_succ]; rfl) ?_
          refine Ar.reH 4 (Row 3 (outsP l.length (t + 1)) junk2) rfl (by rw [outsP_succ]) ?_
          refine Ar.again ((t + 1, (a2, c2, junk2))) ?_ ?_ rfl ⟨rfl, rfl, rfl, rfl, rfl, trivial⟩ ⟨rfl, rfl, rfl, rfl, rfl, trivial⟩
          · exact ⟨htl, by rw [outsP_succ]; exact ho2⟩
          · show l.length - (t + 1) < l.length - t
            omega
        · have htl : t = l.length := by omega
          subst htl
          subst hcf
          refine Wc.ga 19 [0, 3, 0] ?_
          refine Ar.pick [2, 4, 0] (by decide) (Ar.out1 (.inr rfl) (Ho := Hp.only _ [0, 1]) rfl (.agg 2 rfl rfl T.agg25) (Hp.sub_only _ _) ?_)
          exact ⟨u, x, d, y, q, z, rfl, hm3, hx2, rfl⟩
      · obtain ⟨i, rfl⟩ : ∃ i, m = i + 1 := ⟨m - 1, by omega⟩
        refine Wc.re 15 rfl (show _ = Value.int .i64 (i : Int) by congr 1; omega) ?_
        have hin : i < o.length := by omega
        have hdr : o.drop i = o[((i : Nat) : Int).toNat]?.getD default :: o.drop (i + 1) := by
          rw [List.drop_eq_getElem_cons hin, Int.toNat_natCast, List.getElem?_eq_getElem hin]; rfl
        have hok2 := o2 (o[((i : Nat) : Int).toNat]?.getD default) (by rw [Int.toNat_natCast, List.getElem?_eq_getElem hin]; exact List.getElem_mem _)
        have hdl : (o.drop (i + 1)).length = o.length - (i + 1) := List.length_drop
        have hbk : cf ++ backI l.length wh (o[((i : Nat) : Int).toNat]?.getD default) (o.drop (i + 1)).length = N ++ A ++ backAll l.length wh (o.drop i) := by
          rw [hm2, hdr, backAll_cons _ _ _ (by omega)]; simp only [List.append_assoc]
        have hb : (cf ++ backI l.length wh (o[((i : Nat) : Int).toNat]?.getD default) (o.drop (i + 1)).length).length ≤ 1048576 := by
          rw [hbk]; have := hbl i; omega
        refine Wc.gl 16 [1] ?_
        refine Wl.q rfl (Qy.at (α := Int) T.sl23 rfl rfl (by assumption) (by omega)) ?_
        refine Wl.q rfl (Qy.loadG T.one3 rfl (Arr.cell (by assumption) (by omega) 0 rfl rfl)) ?_
        refine Wl.ll0 4 [] ?_
        refine Wl.re 107 rfl (show _ = Value.int .i64 ((o.drop (i + 1)).length : Nat) by congr 1; rw [hdl]; omega) ?_
        refine Wl.call 1 rfl T.fn91 rfl (c91n _ l.length b2 u d cf q wa wd wh _ (o.drop (i + 1)).length hwl hm3 hw2 hl15 hok2 (by rw [hdl]; omega) (by rw [hdl]; omega) (hwok _ (by omega)) hb) (tags_of ⟨rfl, rfl, trivial⟩) (fun v3 G3 Ho3 hle3 hp => ?_)
        obtain ⟨rfl, rfl, a3, d3, j3, ho3, rfl⟩ := hp
        refine Wl.ga 8 [] ?_
        refine Ar.re 15 rfl (show _ = Value.int .i64 ((i : Int) - 1) from rfl) ?_
        refine Ar.again ((i, _, (a3, d3, j3))) ?_ ?_ rfl ⟨rfl, rfl, rfl, rfl, rfl, trivial⟩ ⟨rfl, rfl, rfl, trivial⟩
        · exact ⟨by omega, hbk, ho3⟩
        · show i < i + 1
          omega
end Go.Proofs.YtbppmiimeccclaaGreat
set_option maxRecDepth 100000
set_option linter.unusedVariables false
namespace Go.Proofs.YtbppmiimeccclaaGreat
open Go Go.Sl
set_option maxHeartbeats 4000000
theorem cell_oneS {G : Imm} {b : Nat} {cs : List Value} {T : TypeId} {fz : Nat × Nat} (h : G b = some (.cells cs.toArray T fz)) (k : Nat) {v : Value} (hv : cs[k]? = some v) : G.cell b k = some v := by
  simp only [Imm.cell, h]; simpa using hv
/-- slices.Values -/
theorem c93 (G : Imm) (a : Option Addr) (n c : Nat) : Does Tryz.prog 93 [.slice a n c] G [] (fun v G' Ho => ∃ b, v = .func (.func 148) #[] #[.pointer (some ⟨b, 0, none⟩)] ∧ Ho = [] ∧ G' b = some (.cells [.slice a n c].toArray 23)) := by
  refine Does.enter Tryz.func93 rfl Tryz.ntmps93 rfl (fun w => ?_)
  refine Wc.gl 2 [] ?_
  refine Wl.box 0 rfl rfl rfl (fun b1 => ?_)
  refine Wl.gl 5 [] ?_
  refine Wl.q rfl (Qy.makeFunc rfl rfl) ?_
  refine Wl.ga 4 [] ?_
  refine Ar.freeze 0 rfl (fun G' hle hb => ?_)
  refine Ar.out1 (.inr rfl) (Ho := []) rfl (.tmp rfl) trivial ?_
  exact ⟨_, rfl, rfl, hb⟩
def encI (x : Int) : List Value := [.int .i64 x]
theorem c148 (G : Imm) (a : Option Addr) (c : Nat) (xs : List Int) (b : Nat) (hx : Arr G a xs) (hl : xs.length ≤ 1099511627776) (hb : G b = some (.cells [.slice a xs.length c].toArray 23)) :
    IterDoes Tryz.prog 148 [.pointer (some ⟨b, 0, none⟩)] G encI xs := by
  intro ι J inv stop ly i0 hi0 hY
  have hcell : G.cell b 0 = some (.slice a xs.length c) := cell_oneS hb 0 rfl
  refine Does.enter Tryz.func148 rfl Tryz.ntmps148 rfl (fun w => ?_)
  refine Wc.lift 1000 ?_
  refine Wc.gl 2 [] ?_
  refine Wl.q rfl (Qy.loadG T.one23 rfl (by assumption)) ?_
  refine Wl.gc 5 [] ?_
  refine Wc.loopT (ι := Nat × ι) 1000 (fun (m, s) => ([(7, .int .i64 (m : Int)), (6, Go.Value.int Go.IntKind.i64 (↑(List.length xs) : Int)), (5, Go.Value.slice a (List.length xs) c), (0, Go.Value.func (Go.Fn.yield ly) #[] #[])], [])) (fun (m, s) => J s) (fun (m, s) => m ≤ xs.length ∧ inv m s) (fun (m, s) => xs.length - m) ((0, i0)) (⟨Nat.zero_le _, hi0⟩) ⟨rfl, rfl, rfl, rfl, trivial⟩ trivial (by repeat (first | exact Hp.tl_self _ _ | refine Hp.tl_cons rfl ?_)) (fun ⟨m, s⟩ => fun (hk : m ≤ xs.length ∧ inv m s) => ?_)
  obtain ⟨hm1, hinv⟩ := hk
  refine Wc.gc 6 [] ?_
  refine Wc.cond rfl (fun hc1 => ?_) (fun hc1 => ?_)
  refine Wc.gl 6 [] ?_
  refine Wl.q rfl (Qy.at (α := Int) T.sl23 rfl rfl (by assumption) (by omega)) ?_
  refine Wl.q rfl (Qy.loadG T.one3 rfl (Arr.cell (by assumption) (by omega) 0 rfl rfl)) ?_
  refine Wl.gl 7 [] ?_
  rotate_left
  refine Wc.ga 4 [] ?_
  rotate_left
  · have hml : m < xs.length := by omega
    have hbx : xs[m]? = some (xs[((m : Nat) : Int).toNat]?.getD default) := by
      rw [Int.toNat_natCast, List.getElem?_eq_getElem hml]; rfl
    refine Wl.yieldT (A := []) 1000 rfl rfl rfl trivial (by repeat (first | exact Hp.tl_self _ _ | refine Hp.tl_cons rfl ?_)) rfl (hY m _ s hbx hinv) (fun vy Gy Hy hly hp => ?_)
    obtain ⟨rfl, s', rfl, hp⟩ := hp
    rcases hp with ⟨rfl, hinv'⟩ | ⟨rfl, hst⟩
    · refine Wl.ga 11 [0] ?_
      refine Ar.re 7 rfl (show _ = Value.int .i64 ((m + 1 : Nat) : Int) from rfl) ?_
      refine Ar.againGT ((m + 1, s')) ?_ ?_ rfl ⟨rfl, rfl, rfl, rfl, trivial⟩ trivial (by repeat (first | exact Hp.tl_self _ _ | refine Hp.tl_cons rfl ?_))
      · exact ⟨hml, hinv'⟩
      · show xs.length - (m + 1) < xs.length - m
        omega
    · refine Wl.ga 9 [1] ?_
      refine Ar.outT (k := 1000) (.inr rfl) rfl (by repeat (first | exact Hp.tl_self _ _ | refine Hp.tl_cons rfl ?_)) ⟨rfl, s', rfl, .inr hst⟩
  · have hm : m = xs.length := by omega
    subst hm
    refine Ar.outT (k := 1000) (.inl rfl) rfl (by repeat (first | exact Hp.tl_self _ _ | refine Hp.tl_cons rfl ?_)) ⟨rfl, s, rfl, .inl hinv⟩
theorem c187 (G : Imm) (a : Option Addr) (c : Nat) (xs : List Int) (b : Nat) (hx : Arr G a xs) (hl : xs.length ≤ 1048576) (hb : G b = some (.cells [.slice a xs.length c].toArray 23)) :
    Does Tryz.prog 187 [.slice none 0 0, .func (.func 148) #[] #[.pointer (some ⟨b, 0, none⟩)]] G [] (fun v G' Ho => ∃ (o : Option Addr) (d : Nat) (j : List Value), v = .slice o xs.length d ∧ OwnA o d xs j ∧ Ho = [(0, o.map (·.block), Row 3 xs j)] ∧ G' = G) := by
  refine Does.enterM Tryz.func187 rfl Tryz.ntmps187 rfl (fun w => ?_)
  refine Wc.gl 2 [] ?_
  refine Wl.box 0 rfl rfl rfl (fun b1 => ?_)
  refine Wl.gc 10 [] ?_
  refine Wc.nilRow 1 (Row 3 ([] : List Int) []) ?_
  refine Wc.rangeFunc (ι := List Int × (Option Addr × Nat × List Value)) 900 901 (fun (ys, (o, d, j)) => [(0, some b1, .cells #[.slice o ys.length d] 23), (1, o.map (·.block), Row 3 ys j)]) (fun k (ys, (o, d, j)) => ys = xs.take k ∧ OwnA o d ys j) (fun c (ys, (o, d, j)) => False) (([], (none, 0, []))) rfl T.fn148 (fun _ => rfl) rfl (c148 _ a c xs b hx (by omega) hb) (⟨rfl, OwnA.nil⟩) (Hp.got ⟨rfl, rfl, trivial⟩) ⟨rfl, fun _ => rfl⟩ (fun k x ⟨ys, (o, d, j)⟩ l dd q w0 hx hi => ?_) (fun ⟨ys, (o, d, j)⟩ dd hi => ?_) (fun ⟨ys, (o, d, j)⟩ dd c hi => ?_)
  · obtain ⟨hy, ho⟩ := hi
    have hkl : k < xs.length := (List.getElem?_eq_some_iff.1 hx).1
    have hyl : ys.length = k := by rw [hy, List.length_take]; omega
    refine Wc.ga 3 [] ?_
    refine Ar.begin 900 rfl ?_
    refine Wc.gl 4 [0] ?_
    refine Wl.lit (α := Int) 902 [(x)] rfl T.sl23 T.el3 rfl rfl rfl rfl rfl (fun b2 => ?_)
    refine Wl.append (α := Int) 1 rfl T.sl23 T.el3 rfl rfl rfl (by first | assumption | exact OwnA.nil | exact OwnA.made (by simp)) (Src.row 902 rfl) (by first | omega | (simp only [List.length_append, List.length_cons, List.length_nil, maxLen]; omega)) (by first | omega | (simp only [List.length_append, List.length_cons, List.length_nil, maxLen]; omega)) (fun a1 c1 junk1 ho1 => ?_)
    refine Wl.ga 3 [0] ?_
    refine Ar.roundEnd none (.inl ⟨rfl, rfl⟩) 900 rfl ⟨rfl, ((ys ++ [x], (a1, c1, junk1)), none), rfl, .inl ⟨rfl, rfl, ?_⟩⟩ (Hp.got ⟨rfl, rfl, rfl, rfl, trivial⟩)
    refine ⟨?_, ho1⟩
    rw [List.take_add_one, hx, hy]; rfl
  · obtain ⟨hy, ho⟩ := hi
    rw [List.take_length] at hy
    subst hy
    refine Ar.ga 9 [0] ?_
    refine Ar.collect (.inr rfl) 901 rfl ?_
    refine Ar.outOf (.inr rfl) ?_
    refine Ar.base (Ar.pick [1] (by decide) (Ar.out1 (.inr rfl) rfl (.tmp rfl) (Hp.sub_self 0 _) ?_))
    exact ⟨_, _, _, rfl, ho, rfl, rfl⟩
  · exact hi.elim
theorem c146 (G : Imm) (a : Option Addr) (c : Nat) (xs : List Int) (b : Nat) (hx : Arr G a xs) (hl : xs.length ≤ 1048576) (hb : G b = some (.cells [.slice a xs.length c].toArray 23)) :
    Does Tryz.prog 146 [.func (.func 148) #[] #[.pointer (some ⟨b, 0, none⟩)]] G [] (fun v G' Ho => ∃ (o : Option Addr) (d : Nat) (j : List Value), v = .slice o xs.length d ∧ OwnA o d xs j ∧ Ho = [(0, o.map (·.block), Row 3 xs j)] ∧ G' = G) := by
  refine Does.enter Tryz.func146 rfl Tryz.ntmps146 rfl (fun w => ?_)
  refine Wc.gl 8 [] ?_
  refine Wl.call 0 rfl T.fn187 rfl (c187 _ a c xs b hx hl hb) (tags_of trivial) (fun v1 G1 Ho1 hle1 hp => ?_)
  obtain ⟨o1, d1, j1, rfl, ho1, rfl, rfl⟩ := hp
  refine Wl.ga 4 [] ?_
  refine Ar.out1 (.inr rfl) (Ho := Hp.only _ [0]) rfl (.tmp rfl) (Hp.sub_only _ _) ?_
  exact ⟨_, _, _, rfl, ho1, rfl, rfl⟩
/-- slices.Sorted of slices.Values -/
def sortL (xs : List Int) : List Int := xs.mergeSort fun x y => decide (x ≤ y)
theorem sortL_len (xs : List Int) : (sortL xs).length = xs.length := List.length_mergeSort xs
theorem c92 (G : Imm) (a : Option Addr) (c : Nat) (xs : List Int) (b : Nat) (hx : Arr G a xs) (hl : xs.length ≤ 1048576) (hb : G b = some (.cells [.slice a xs.length c].toArray 23)) :
    Does Tryz.prog 92 [.func (.func 148) #[] #[.pointer (some ⟨b, 0, none⟩)]] G [] (fun v G' Ho => ∃ (o : Option Addr) (d : Nat), v = .slice o (sortL xs).length d ∧ Arr G' o (sortL xs) ∧ (sortL xs).length ≤ d ∧ Ho = []) := by
  refine Does.enter Tryz.func92 rfl Tryz.ntmps92 rfl (fun w => ?_)
  refine Wc.gl 8 [] ?_
  refine Wl.call 0 rfl T.fn146 rfl (c146 _ a c xs b hx hl hb) (tags_of trivial) (fun v1 G1 Ho1 hle1 hp => ?_)
  obtain ⟨o1, d1, j1, rfl, ho1, rfl, rfl⟩ := hp
  refine Wl.gl 6 [] ?_
  rcases ho1 with ⟨rfl, rfl, rfl, rfl⟩ | ⟨bb, rfl, h2, h3, h4⟩
  · refine Wl.call0 rfl T.fn147 rfl (c147N _ _) ?_
    refine Wl.ga 9 [] ?_
    refine Ar.out1 (.inr rfl) (Ho := []) rfl (.tmp rfl) trivial ?_
    exact ⟨none, 0, by rw [sortL_len], by rw [List.eq_nil_of_length_eq_zero (sortL_len [])]; exact Arr.nil _, Nat.le_of_eq (sortL_len []), rfl⟩
  · refine Wl.call 0 rfl T.fn147 rfl (c147 _ bb d1 xs j1 (by omega)) (tags_of ⟨rfl, trivial⟩) (fun v2 G2 Ho2 hle2 hp => ?_)
    obtain ⟨rfl, rfl, rfl⟩ := hp
    refine Wl.ga 9 [] ?_
    have hoS : OwnA (some ⟨bb, 0, none⟩) d1 (sortL xs) j1 := .inr ⟨bb, rfl, by rw [sortL_len]; exact h2, by rw [sortL_len]; exact h3, h4⟩
    refine Ar.freezeRow 0 rfl hoS (fun G8 hle8 hA8 => ?_)
    refine Ar.out1 (.inr rfl) (Ho := []) rfl (.tmp rfl) trivial ?_
    exact ⟨_, _, by rw [sortL_len], hA8, by rw [sortL_len]; exact h3, rfl⟩
theorem idx_nodup (n : Nat) : (idx n).Pairwise (· < ·) := by
  unfold idx
  rw [List.pairwise_map]
  exact List.Pairwise.imp (fun h => by omega) List.pairwise_lt_range
theorem idx_mem (n : Nat) (x : Int) : x ∈ idx n ↔ 0 ≤ x ∧ x < n := by
  unfold idx
  rw [List.mem_map]
  constructor
  · rintro ⟨k, hk, rfl⟩
    have := List.mem_range.1 hk
    omega
  · intro h
    exact ⟨x.toNat, List.mem_range.2 (by omega), by omega⟩
/-- sorted, they are the numbers themselves: an order -/
theorem sort_order (o : List Int) (n : Nat) : sortL o = idx n ↔ OrderP o n := by
  have hnd : (idx n).Nodup := (idx_nodup n).imp (fun h => by omega)
  have hp : (sortL o).Perm o := List.mergeSort_perm o _
  constructor
  · intro h
    rw [h] at hp
    refine ⟨by rw [← hp.length_eq, idx_len], fun x hx => (idx_mem n x).1 (hp.mem_iff.2 hx), hp.nodup_iff.1 hnd⟩
  · rintro ⟨h1, h2, h3⟩
    have hm : ∀ x, x ∈ o ↔ x ∈ idx n := fun x => by
      refine ⟨fun hx => (idx_mem n x).2 (h2 x hx), fun hx => Classical.byContradiction fun hno => ?_⟩
      have := List.Nodup.length_le_of_subset (List.nodup_cons.2 ⟨hno, h3⟩) (l₂ := idx n) (fun y hy => by
        rcases List.mem_cons.1 hy with rfl | hy
        · exact hx
        · exact (idx_mem n y).2 (h2 y hy))
      rw [List.length_cons, idx_len] at this; omega
    have hperm : (sortL o).Perm (idx n) := hp.trans ((List.perm_ext_iff_of_nodup h3 hnd).2 hm)
    exact List.Perm.eq_of_pairwise (le := fun a b : Int => a ≤ b) (fun a b _ _ h1 h2 => by omega) (sorted_le o) ((idx_nodup n).imp (fun h => by omega)) hperm
/-- slices.Equal of []int -/
theorem c47 (G : Imm) (a b : Option Addr) (c d : Nat) (xs ys : List Int) (hx : Arr G a xs) (hy : Arr G b ys) (hl : xs.length ≤ 1048576) :
    Does Tryz.prog 47 [.slice a xs.length c, .slice b ys.length d] G [] (fun v G' Ho => v = .bool (decide (xs = ys)) ∧ G' = G ∧ Ho = []) := by
  refine Does.enter Tryz.func47 rfl Tryz.ntmps47 rfl (fun w => ?_)
  refine Wc.gc 15 [] ?_
  refine Wc.cond rfl (fun hc1 => ?_) (fun hc1 => ?_)
  refine Wc.ga 7 [] ?_
  refine Ar.out1 (.inr rfl) (Ho := Hp.only _ []) rfl (.tmp rfl) (Hp.sub_only _ _) ?_
  rotate_left
  refine Wc.gc 11 [] ?_
  rotate_left
  · refine ⟨?_, rfl, rfl⟩
    congr 1
    refine (decide_eq_false fun h => hc1 ?_).symm
    rw [h]
  · have hle : xs.length = ys.length := Classical.byContradiction fun h => hc1 (by omega)
    refine Wc.loop (ι := Nat) (fun k => ([(13, .int .i64 (k : Int)), (12, Go.Value.int Go.IntKind.i64 (↑(List.length xs) : Int)), (0, Go.Value.slice a (List.length xs) c), (1, Go.Value.slice b (List.length ys) d)], [])) (fun k => k ≤ xs.length ∧ (∀ i, i < k → xs[i]?.getD default = ys[i]?.getD default)) (fun k => xs.length - k) (0) (⟨Nat.zero_le _, fun i h => absurd h (by omega)⟩) ⟨rfl, rfl, rfl, rfl, trivial⟩ trivial (fun k => fun (hk : k ≤ xs.length ∧ (∀ i, i < k → xs[i]?.getD default = ys[i]?.getD default)) => ?_)
    obtain ⟨hk1, hk2⟩ := hk
    rcases Nat.lt_or_ge k xs.length with hkl | hkl
    · refine Wc.gc 18 [1] ?_
      refine Wc.draw [] [] T.mixed rfl ?_
      refine Gm.q 0 [] (by kernel_rfl) rfl rfl (Qy.move rfl) ?_
      refine Gm.q 1 [] (by kernel_rfl) rfl rfl (Qy.move rfl) ?_
      refine Gm.q 2 [] (by kernel_rfl) rfl rfl (Qy.at (α := Int) T.sl23 rfl rfl (by assumption) (by omega)) ?_
      refine Gm.q 3 [] (by kernel_rfl) rfl rfl (Qy.loadG T.one3 rfl (Arr.cell (by assumption) (by omega) 0 rfl rfl)) ?_
      refine Gm.q 4 [] (by kernel_rfl) rfl rfl (Qy.move rfl) ?_
      refine Gm.q 5 [] (by kernel_rfl) rfl rfl (Qy.move rfl) ?_
      refine Gm.q 6 [] (by kernel_rfl) rfl rfl (Qy.at (α := Int) T.sl23 rfl rfl (by assumption) (by omega)) ?_
      refine Gm.q 7 [] (by kernel_rfl) rfl rfl (Qy.loadG T.one3 rfl (Arr.cell (by assumption) (by omega) 0 rfl rfl)) ?_
      refine Gm.q 8 [] (by kernel_rfl) rfl rfl (Qy.neq rfl rfl) ?_
      refine Gm.doneA (by kernel_rfl) trivial (by first | exact Imm.le_refl _ | repeat (first | assumption | refine Imm.le_trans ?_ (by assumption))) ?_
      refine Ar.next ?_
      refine Wc.cond rfl (fun hc2 => ?_) (fun hc2 => ?_)
      refine Wc.ga 11 [] ?_
      refine Ar.out1 (.inr rfl) (Ho := Hp.only _ []) rfl (.tmp rfl) (Hp.sub_only _ _) ?_
      rotate_left
      refine Wc.ga 7 [] ?_
      rotate_left
      · refine ⟨?_, rfl, rfl⟩
        congr 1
        refine (decide_eq_false fun h => hc2 ?_).symm
        rw [h]
      · refine Ar.re 13 rfl (show _ = Value.int .i64 ((k + 1 : Nat) : Int) from rfl) ?_
        refine Ar.again (k + 1) ?_ ?_ rfl ⟨rfl, rfl, rfl, rfl, trivial⟩ trivial
        · refine ⟨hkl, fun i hi => ?_⟩
          rcases Nat.lt_or_ge i k with h | h
          · exact hk2 i h
          · have e : i = k := by omega
            subst e
            exact Classical.byContradiction fun h => hc2 h
        · show xs.length - (k + 1) < xs.length - k
          omega
    · refine Wc.ga 18 [0] ?_
      refine Ar.out1 (.inr rfl) (Ho := Hp.only _ []) rfl (.tmp rfl) (Hp.sub_only _ _) ?_
      refine ⟨?_, rfl, rfl⟩
      congr 1
      refine (decide_eq_true ?_).symm
      apply List.ext_getElem hle
      intro i h1 h2
      have := hk2 i (by omega)
      rw [List.getElem?_eq_getElem h1, List.getElem?_eq_getElem h2] at this
      exact this
theorem c42N (G : Imm) (a : Option Addr) (c : Nat) (l : List R2) (oa : Option Addr) (oc : Nat) (o : List Int) (ha : Arr G a l) (hac : l.length ≤ c) (hl : l.length ≤ 1048576) (hR : ¬ RightL l) :
    Does Tryz.prog 42 [.slice a l.length c, .slice oa o.length oc] G [] (fun v G' Ho => v = .tuple #[.agg #[.int .i64 0, .int .i64 0, .slice none 0 0, .slice none 0 0], .int .i64 2] ∧ Ho = []) := by
  refine Does.enter Tryz.func42 rfl Tryz.ntmps42 rfl (fun w => ?_)
  refine Wc.gl 2 [] ?_
  refine Wl.alloc 0 rfl T.zero25 (fun b1 => ?_)
  refine Wl.gl 7 [] ?_
  refine Wl.call0 rfl T.fn26 rfl (c26N _ _ _ l (by assumption) (by omega) hac hR) ?_
  refine Wl.gl 16 [1] ?_
  refine Wl.q rfl (Qy.build (cs := [_, _, _, _]) T.st25 rfl rfl rfl) ?_
  refine Wl.ga 6 [0] ?_
  refine Ar.out2 (.inr rfl) (Ho := []) rfl (.agg 0 rfl rfl T.agg25) (.tmp rfl) trivial ?_
  exact ⟨rfl, rfl⟩
theorem c42Y (G : Imm) (a : Option Addr) (c : Nat) (l : List R2) (oa : Option Addr) (oc : Nat) (o : List Int) (ha : Arr G a l) (hoa : Arr G oa o) (hac : l.length ≤ c) (hocc : o.length ≤ oc) (hR : RightL l) (hO : OrderP o l.length) :
    Does Tryz.prog 42 [.slice a l.length c, .slice oa o.length oc] G [] (fun v G' Ho => ∃ (bc bo : Option Addr) (dc do_ : Nat) (j1 j2 : List Value), v = .tuple #[.agg #[.int .i64 (madeP l o).ins, .int .i64 (madeP l o).regs, .slice bc (madeP l o).code.length dc, .slice bo (madeP l o).outs.length do_], .int .i64 0] ∧ OwnA bc dc (madeP l o).code j1 ∧ OwnA bo do_ (madeP l o).outs j2 ∧
      Ho = [(0, bc.map (·.block), Row 93 (madeP l o).code j1), (1, bo.map (·.block), Row 3 (madeP l o).outs j2)]) := by
  have hl15 := hR.2.1
  have hol : o.length ≤ 1048576 := by rw [hO.1]; omega
  refine Does.enter Tryz.func42 rfl Tryz.ntmps42 rfl (fun w => ?_)
  refine Wc.gl 2 [] ?_
  refine Wl.alloc 0 rfl T.zero25 (fun b1 => ?_)
  refine Wl.gl 7 [] ?_
  refine Wl.call0 rfl T.fn26 rfl (c26Y _ _ _ l (by assumption) (by omega) hac hR) ?_
  refine Wl.ll0 5 [] ?_
  refine Wl.call 1 rfl T.fn93 rfl (c93 _ _ _ _) (tags_of trivial) (fun v1 G1 Ho1 hle1 hp => ?_)
  obtain ⟨vb1, rfl, rfl, hvb1⟩ := hp
  replace ha := ha.up hle1
  replace hoa := hoa.up hle1
  refine Wl.want rfl rfl ?_
  refine Wl.call 1 rfl T.fn92 rfl (c92 _ oa oc o vb1 hoa hol hvb1) (tags_of trivial) (fun v2 G2 Ho2 hle2 hp => ?_)
  obtain ⟨so2, sd2, rfl, hs2, hsd2, rfl⟩ := hp
  replace ha := ha.up hle2
  replace hoa := hoa.up hle2
  refine Wl.ll0 5 [] ?_
  refine Wl.call 1 rfl T.fn39 rfl (c39 _ l.length (by omega)) (tags_of trivial) (fun v3 G3 Ho3 hle3 hp => ?_)
  obtain ⟨na3, nc3, rfl, hna3, hnc3, rfl⟩ := hp
  replace hs2 := hs2.up hle3
  replace ha := ha.up hle3
  replace hoa := hoa.up hle3
  refine Wl.want rfl rfl ?_
  refine Wl.call0 rfl T.fn47 rfl (c47 _ so2 na3 _ _ (sortL o) (idx l.length) hs2 hna3 (by rw [sortL_len]; exact hol)) ?_
  refine Wl.want rfl rfl ?_
  refine Wl.q rfl (Qy.notD rfl) ?_
  refine Wl.gc 3 [] ?_
  refine Wc.cond rfl (fun hc1 => ?_) (fun hc1 => ?_)
  refine Wc.gl 2 [] ?_
  refine Wl.q rfl (Qy.build (cs := [_, _, _, _]) T.st25 rfl rfl rfl) ?_
  refine Wl.ga 6 [0] ?_
  rotate_left
  refine Wc.gl 6 [] ?_
  rotate_left
  skip
  have hso := sort_order o l.length
  have hne : sortL o = idx l.length := hso.2 hO
  skip
  · exact absurd hne hc1
  refine Wl.call 1 rfl T.fn41 rfl (c41 _ a c l oa oc o ha hoa hac hocc hR hO) (tags_of trivial) (fun v4 G4 Ho4 hle4 hp => ?_)
  obtain ⟨bc4, bo4, dc4, dd4, j4, z4, rfl, ho4, hp4, rfl⟩ := hp
  refine Wl.ga 5 [0] ?_
  refine Ar.pick [1, 2, 0] (by decide) (Ar.out2 (.inr rfl) (Ho := Hp.only _ [0, 1]) rfl (.agg 2 rfl rfl T.agg25) (.tmp rfl) (Hp.sub_only _ _) ?_)
  exact ⟨_, _, _, _, _, _, rfl, ho4, hp4, rfl⟩
theorem idx_order (n : Nat) : OrderP (idx n) n := ⟨idx_len n, fun x hx => (idx_mem n x).1 hx, (idx_nodup n).imp (fun h => by omega)⟩
theorem c13N (G : Imm) (a : Option Addr) (c : Nat) (l : List R2) (ha : Arr G a l) (hac : l.length ≤ c) (hl : l.length ≤ 1048576) (hR : ¬ RightL l) :
    Does Tryz.prog 13 [.slice a l.length c] G [] (fun v G' Ho => v = .tuple #[.agg #[.int .i64 0, .int .i64 0, .slice none 0 0, .slice none 0 0], .int .i64 2] ∧ Ho = []) := by
  refine Does.enter Tryz.func13 rfl Tryz.ntmps13 rfl (fun w => ?_)
  refine Wc.gl 2 [] ?_
  refine Wl.alloc 0 rfl T.zero25 (fun b1 => ?_)
  refine Wl.gl 8 [] ?_
  refine Wl.call 1 rfl T.fn39 rfl (c39 _ l.length (by omega)) (tags_of trivial) (fun v1 G1 Ho1 hle1 hp => ?_)
  obtain ⟨na1, nc1, rfl, hna1, hnc1, rfl⟩ := hp
  replace ha := ha.up hle1
  refine Wl.call 1 rfl T.fn42 rfl (c42N _ a c l na1 nc1 (idx l.length) ha hac hl hR) (tags_of trivial) (fun v2 G2 Ho2 hle2 hp => ?_)
  obtain ⟨rfl, rfl⟩ := hp
  replace hna1 := hna1.up hle2
  replace ha := ha.up hle2
  refine Wl.ga 7 [0] ?_
  refine Ar.out2 (.inr rfl) (Ho := []) rfl (.agg 0 rfl rfl T.agg25) (.tmp rfl) trivial ?_
  exact ⟨rfl, rfl⟩
theorem c13Y (G : Imm) (a : Option Addr) (c : Nat) (l : List R2) (ha : Arr G a l) (hac : l.length ≤ c) (hR : RightL l) :
    Does Tryz.prog 13 [.slice a l.length c] G [] (fun v G' Ho => ∃ (bc bo : Option Addr) (dc do_ : Nat) (j1 j2 : List Value), v = .tuple #[.agg #[.int .i64 (madeP l (idx l.length)).ins, .int .i64 (madeP l (idx l.length)).regs, .slice bc (madeP l (idx l.length)).code.length dc, .slice bo (madeP l (idx l.length)).outs.length do_], .int .i64 0] ∧ OwnA bc dc (madeP l (idx l.length)).code j1 ∧ OwnA bo do_ (madeP l (idx l.length)).outs j2 ∧
      Ho = [(0, bc.map (·.block), Row 93 (madeP l (idx l.length)).code j1), (1, bo.map (·.block), Row 3 (madeP l (idx l.length)).outs j2)]) := by
  have hl15 := hR.2.1
  refine Does.enter Tryz.func13 rfl Tryz.ntmps13 rfl (fun w => ?_)
  refine Wc.gl 2 [] ?_
  refine Wl.alloc 0 rfl T.zero25 (fun b1 => ?_)
  refine Wl.gl 8 [] ?_
  refine Wl.call 1 rfl T.fn39 rfl (c39 _ l.length (by omega)) (tags_of trivial) (fun v1 G1 Ho1 hle1 hp => ?_)
  obtain ⟨na1, nc1, rfl, hna1, hnc1, rfl⟩ := hp
  replace ha := ha.up hle1
  refine Wl.call 1 rfl T.fn42 rfl (c42Y _ a c l na1 nc1 (idx l.length) ha hna1 hac hnc1 hR (idx_order l.length)) (tags_of trivial) (fun v2 G2 Ho2 hle2 hp => ?_)
  obtain ⟨bc2, bo2, dc2, dd2, j2, z2, rfl, ho2, hp2, rfl⟩ := hp
  replace hna1 := hna1.up hle2
  replace ha := ha.up hle2
  refine Wl.ga 7 [0] ?_
  refine Ar.pick [1, 2, 0] (by decide) (Ar.out2 (.inr rfl) (Ho := Hp.only _ [0, 1]) rfl (.agg 2 rfl rfl T.agg25) (.tmp rfl) (Hp.sub_only _ _) ?_)
  exact ⟨_, _, _, _, _, _, rfl, ho2, hp2, rfl⟩
end Go.Proofs.YtbppmiimeccclaaGreat
set_option maxRecDepth 100000
set_option linter.unusedVariables false
namespace Go.Proofs.YtbppmiimeccclaaGreat
open Go Go.Sl
set_option maxHeartbeats 4000000
/-- slices.Clone of numbers that are a row -/
theorem c51 (G : Imm) (a : Option Addr) (c : Nat) (l : List Int) (ha : Arr G a l) (hne : ¬ a = none) (hl : l.length ≤ 1048576) :
    Does Tryz.prog 51 [.slice a l.length c] G [] (fun v G' Ho => ∃ s d j, v = .slice s l.length d ∧ OwnA s d l j ∧ G' = G ∧ Ho = [(0, s.map (·.block), Row 3 l j)]) := by
  refine Does.enter Tryz.func51 rfl Tryz.ntmps51 rfl (fun w => ?_)
  refine Wc.gl 9 [] ?_
  refine Wl.q rfl (Qy.eqlSliceNil T.sl23 rfl rfl) ?_
  refine Wl.gl 7 [0] ?_
  refine Wl.lit0 0 rfl T.sl23 (fun b1 => ?_)
  refine Wl.q rfl (Qy.move rfl) ?_
  refine Wl.reH 0 (Row 3 ([] : List Int) []) rfl rfl ?_
  refine Wl.append (α := Int) (xs := []) (ys := l) (junk := []) 0 rfl T.sl23 T.el3 rfl rfl rfl (.inr ⟨b1, rfl, rfl, Nat.le_refl _, Nat.zero_le _⟩) (Src.arr ha) (by rw [List.length_nil]; omega) (by rw [List.length_nil]; simp only [maxLen]; omega) (fun a1 c1 junk1 ho1 => ?_)
  rw [List.nil_append] at ho1 ⊢
  refine Wl.ga 4 [] ?_
  refine Ar.out1 (.inr rfl) (Ho := [(0, a1.map (·.block), Row 3 l junk1)]) rfl (.tmp rfl) ⟨rfl, trivial⟩ ?_
  exact ⟨a1, c1, junk1, rfl, ho1, rfl, rfl⟩
/-- the numbers themselves, in a row of its own -/
theorem c39O (G : Imm) (n : Nat) (hn : n ≤ 1048576) :
    Does Tryz.prog 39 [.int .i64 (n : Int)] G [] (fun v G' Ho => ∃ s c j, v = .slice s (idx n).length c ∧ OwnA s c (idx n) j ∧ G' = G ∧ Ho = [(0, s.map (·.block), Row 3 (idx n) j)]) := by
  refine Does.enter Tryz.func39 rfl Tryz.ntmps39 rfl (fun w => ?_)
  refine Wc.nilRow 0 (Row 3 ([] : List Int) []) ?_
  refine Wc.gc 18 [] ?_
  refine Wc.loop (ι := Nat × (Option Addr × Nat × List Value)) (fun (k, (o, d, j)) => ([(6, .int .i64 (k : Int)), (3, .slice o (idx k).length d), (5, Go.Value.int Go.IntKind.i64 (↑n : Int)), (2, Go.Value.slice Option.none 0 0)], [(0, o.map (·.block), Row 3 (idx k) j)])) (fun (k, (o, d, j)) => k ≤ n ∧ OwnA o d (idx k) j) (fun (k, (o, d, j)) => n - k) ((0, (none, 0, []))) (⟨Nat.zero_le _, OwnA.nil⟩) ⟨rfl, rfl, rfl, rfl, trivial⟩ ⟨rfl, trivial⟩ (fun ⟨k, (o, d, j)⟩ => fun (hk : k ≤ n ∧ OwnA o d (idx k) j) => ?_)
  obtain ⟨hk1, hk2⟩ := hk
  have hkl := idx_len k
  rcases Nat.lt_or_ge k n with hke | hke
  · refine Wc.gl 20 [1] ?_
    refine Wl.lit (α := Int) 1 [((↑k : Int))] rfl T.sl23 T.el3 rfl rfl rfl rfl rfl (fun b1 => ?_)
    refine Wl.append (α := Int) 0 rfl T.sl23 T.el3 rfl rfl rfl (by first | assumption | exact OwnA.nil | exact OwnA.made (by simp)) (Src.row 1 rfl) (by first | omega | (simp only [List.length_append, List.length_cons, List.length_nil, maxLen]; omega)) (by first | omega | (simp only [List.length_append, List.length_cons, List.length_nil, maxLen]; omega)) (fun a1 c1 junk1 ho1 => ?_)
    refine Wl.ga 8 [] ?_
    refine Ar.re 6 rfl (show _ = Value.int .i64 ((k + 1 : Nat) : Int) from rfl) ?_
    refine Ar.re 3 rfl (show _ = Value.slice a1 (idx (k + 1)).length c1 by rw [idx_succ]) ?_
    refine Ar.reH 0 (Row 3 (idx (k + 1)) junk1) rfl (by rw [idx_succ]) ?_
    refine Ar.again ((k + 1, (a1, c1, junk1))) ?_ ?_ rfl ⟨rfl, rfl, rfl, rfl, trivial⟩ ⟨rfl, trivial⟩
    · exact ⟨hke, by rw [idx_succ]; exact ho1⟩
    · show n - (k + 1) < n - k
      omega
  · have hke : k = n := by omega
    subst hke
    refine Wc.ga 19 [0] ?_
    refine Ar.out1 (.inr rfl) (Ho := [(0, o.map (·.block), Row 3 (idx k) j)]) rfl (.tmp rfl) ⟨rfl, trivial⟩ ?_
    exact ⟨_, _, _, rfl, hk2, rfl, rfl⟩
end Go.Proofs.YtbppmiimeccclaaGreat
set_option linter.unusedVariables false
namespace Go.Proofs.YtbppmiimeccclaaGreat
open Go Go.Sl
theorem perm_order {o q : List Int} {n : Nat} (h : o.Perm q) (hq : OrderP q n) : OrderP o n :=
  ⟨by rw [h.length_eq]; exact hq.1, fun x hx => hq.2.1 x (h.mem_iff.1 hx), h.nodup_iff.2 hq.2.2⟩
/-- the numbers but one -/
def restL (n k : Nat) : List Int := (idx n).take k ++ (idx n).drop (k + 1)
theorem rest_perm {n k : Nat} (hk : k < n) : ((k : Int) :: restL n k).Perm (idx n) := by
  have hl : k < (idx n).length := by rw [idx_len]; exact hk
  have hg : (idx n)[k] = (k : Int) := by
    have h1 : (idx n)[k]? = some (k : Int) := by unfold idx; rw [List.getElem?_map, List.getElem?_range hk]; rfl
    rw [List.getElem?_eq_getElem hl] at h1
    exact Option.some.inj h1
  have e : idx n = (idx n).take k ++ (k : Int) :: (idx n).drop (k + 1) := by
    have h1 := (List.take_append_drop k (idx n)).symm
    rw [List.drop_eq_getElem_cons hl, hg] at h1
    exact h1
  have h := (List.perm_middle (a := (k : Int)) (l₁ := (idx n).take k) (l₂ := (idx n).drop (k + 1))).symm
  rw [← e] at h
  exact h
theorem front_order {n k : Nat} (hk : k < n) : OrderP ((k : Int) :: restL n k) n := perm_order (rest_perm hk) (idx_order n)
theorem back_order {n k : Nat} (hk : k < n) : OrderP (restL n k ++ [(k : Int)]) n := perm_order (List.perm_append_singleton (k : Int) (restL n k) |>.trans (rest_perm hk)) (idx_order n)
end Go.Proofs.YtbppmiimeccclaaGreat
set_option maxRecDepth 100000
set_option linter.unusedVariables false
namespace Go.Proofs.YtbppmiimeccclaaGreat
open Go Go.Sl
set_option maxHeartbeats 4000000
theorem c85 (G : Imm) (b c : Nat) (l : List Int) (jk : List Value) (k : Nat) (hk : k < l.length) (hc : l.length ≤ c) (hm : c ≤ 9223372036854775807) :
    Does Tryz.prog 85 [.slice (some ⟨b, 0, none⟩) l.length c, .int .i64 (k : Int), .int .i64 ((k : Int) + 1)] G [(0, some b, Row 3 l jk)] (fun v G' Ho => v = .slice (some ⟨b, 0, none⟩) (l.take k ++ l.drop (k + 1)).length c ∧ G' = G ∧ Ho = [(0, some b, Row 3 (l.take k ++ l.drop (k + 1)) (.int .i64 0 :: jk))]) := fun w hw => by
  have h85 : Calls Tryz.prog 85 #[.slice (some ⟨b, 0, none⟩) l.length c, .int .i64 (k : Int), .int .i64 ((k + 1 : Nat) : Int)] w _ := Any.slices_Delete_int Tryz.laysDelete b 0 c k (k + 1) l w (holds_row hw) hc hm (by omega) hk
  refine h85.mono ?_
  rintro e w' ⟨rfl, n, rfl⟩
  rw [show k + 1 - k = 1 by omega]
  have hlen : (l.take k ++ l.drop (k + 1)).length = l.length - 1 := by rw [List.length_append, List.length_take, List.length_drop]; omega
  rw [← hlen]
  have := row_put (n := n) (os := #[]) hw (l' := l.take k ++ l.drop (k + 1) ++ List.replicate 1 0) (v := .slice (some ⟨b, 0, none⟩) (l.take k ++ l.drop (k + 1)).length c) (by rw [List.length_append, List.length_replicate]; omega)
  rw [row_cut, Go.Sort.grow_empty] at this
  exact this
/-- the orders that are tried -/
def tryAt (n m : Nat) : List Int := if m % 2 = 0 then ((m / 2 : Nat) : Int) :: restL n (m / 2) else restL n (m / 2) ++ [((m / 2 : Nat) : Int)]
def tries (n : Nat) : List (List Int) := (List.range (2 * n)).map (tryAt n)
theorem tries_len (n : Nat) : (tries n).length = 2 * n := by unfold tries; rw [List.length_map, List.length_range]
theorem tries_at {n m : Nat} (h : m < 2 * n) : (tries n)[m]? = some (tryAt n m) := by
  unfold tries; rw [List.getElem?_map, List.getElem?_range h]; rfl
theorem tries_front {n k : Nat} (h : k < n) : (tries n)[2 * k]? = some ((k : Int) :: restL n k) := by
  rw [tries_at (by omega)]; unfold tryAt; rw [if_pos (by omega), show 2 * k / 2 = k by omega]
theorem tries_back {n k : Nat} (h : k < n) : (tries n)[2 * k + 1]? = some (restL n k ++ [(k : Int)]) := by
  rw [tries_at (by omega)]; unfold tryAt; rw [if_neg (by omega), show (2 * k + 1) / 2 = k by omega]
theorem tries_order {n m : Nat} {o : List Int} (h : (tries n)[m]? = some o) : OrderP o n := by
  have hm : m < 2 * n := by
    rcases Nat.lt_or_ge m (2 * n) with h1 | h1
    · exact h1
    · rw [List.getElem?_eq_none (by rw [tries_len]; exact h1)] at h; cases h
  rw [tries_at hm] at h
  cases h
  unfold tryAt
  split
  · exact front_order (by omega)
  · exact back_order (by omega)
/-- where an order lies -/
structure OA where
  a : Option Addr
  c : Nat
  j : List Value
def encO (x : List Int) (y : OA) : List Value := [.slice y.a x.length y.c]
def ownR (x : List Int) (y : OA) : Option Nat × Obj := (y.a.map (·.block), Row 3 x y.j)
def ownN (_ : List Int) (_ : OA) : Option Nat × Obj := (none, Row 3 ([] : List Int) [])
def goodO (x : List Int) (y : OA) : Prop := OwnA y.a y.c x y.j
theorem c40 (G : Imm) (n : Nat) : Does Tryz.prog 40 [.int .i64 (n : Int)] G [] (fun v G' Ho => ∃ b, v = .func (.func 84) #[] #[.pointer (some ⟨b, 0, none⟩)] ∧ Ho = [] ∧ G' b = some (.cells [.int .i64 (n : Int)].toArray 3)) := by
  refine Does.enter Tryz.func40 rfl Tryz.ntmps40 rfl (fun w => ?_)
  refine Wc.gl 2 [] ?_
  refine Wl.box 0 rfl rfl rfl (fun b1 => ?_)
  refine Wl.gl 5 [] ?_
  refine Wl.q rfl (Qy.makeFunc rfl rfl) ?_
  refine Wl.ga 4 [] ?_
  refine Ar.freeze 0 rfl (fun G' hle hb => ?_)
  refine Ar.out1 (.inr rfl) (Ho := []) rfl (.tmp rfl) trivial ?_
  exact ⟨_, rfl, rfl, hb⟩
theorem rest_len {n k : Nat} (h : k < n) : (restL n k).length = n - 1 := by
  unfold restL; rw [List.length_append, List.length_take, List.length_drop, idx_len]; omega
attribute [local irreducible] restL
theorem c84I (G : Imm) (n : Nat) (hn : n ≤ 1048576) (b : Nat) (hb : G b = some (.cells [.int .i64 (n : Int)].toArray 3)) :
    IterGives Tryz.prog 84 [.pointer (some ⟨b, 0, none⟩)] G encO ownR ownN goodO (tries n) := by
  intro ι J inv stop ly i0 hi0 hY
  have hcell : G.cell b 0 = some (.int .i64 (n : Int)) := by simp [Imm.cell, hb]
  refine Does.enter Tryz.func84 rfl Tryz.ntmps84 rfl (fun w => ?_)
  refine Wc.lift 1000 ?_
  refine Wc.nilRow 30 (Row 3 ([] : List Int) []) ?_
  refine Wc.gl 2 [] ?_
  refine Wl.q rfl (Qy.loadG T.one3 rfl (by assumption)) ?_
  refine Wl.gc 4 [] ?_
  refine Wc.loopT (ι := Nat × ι) 1000 (fun (k, s) => ([(6, .int .i64 (k : Int)), (5, Go.Value.int Go.IntKind.i64 (↑n : Int)), (0, Go.Value.func (Go.Fn.yield ly) #[] #[]), (1, Go.Value.pointer (Option.some (Go.Addr.mk b 0 Option.none)))], [(30, none, Row 3 ([] : List Int) [])])) (fun (k, s) => J s) (fun (k, s) => k ≤ n ∧ inv (2 * k) s) (fun (k, s) => n - k) ((0, i0)) (⟨Nat.zero_le _, hi0⟩) ⟨rfl, rfl, rfl, rfl, trivial⟩ ⟨rfl, trivial⟩ (by repeat (first | exact Hp.tl_self _ _ | refine Hp.tl_cons rfl ?_)) (fun ⟨k, s⟩ => fun (hk : k ≤ n ∧ inv (2 * k) s) => ?_)
  obtain ⟨hk1, hk2⟩ := hk
  rcases Nat.lt_or_ge k n with hke | hke
  · refine Wc.gl 19 [1] ?_
    refine Wl.q rfl (Qy.loadG T.one3 rfl (by assumption)) ?_
    refine Wl.call 20 rfl T.fn39 rfl (c39O _ n hn) (tags_of trivial) (fun v1 G1 Ho1 hle1 hp => ?_)
    obtain ⟨s1, c1, j1, rfl, ho1, rfl, rfl⟩ := hp
    have hs1 : s1 = some ⟨ab s1, 0, none⟩ := ho1.addr (by rw [idx_len]; omega)
    obtain ⟨b1, hb1⟩ : ∃ b1, b1 = ab s1 := ⟨_, rfl⟩
    rw [← hb1] at hs1
    subst hs1
    have hc1 : c1 ≤ 9223372036854775807 := by rcases ho1 with ⟨_, _, _, h⟩ | ⟨_, _, _, _, h⟩ <;> first | omega | (simp only [maxLen] at h; omega)
    refine Wl.ll0 3 [] ?_
    refine Wl.call 20 rfl T.fn85 rfl (c85 _ b1 c1 (idx n) j1 k (by rw [idx_len]; exact hke) ho1.le hc1) (tags_of ⟨rfl, trivial⟩) (fun v2 G2 Ho2 hle2 hp => ?_)
    obtain ⟨rfl, rfl, rfl⟩ := hp
    rw [show (idx n).take k ++ (idx n).drop (k + 1) = restL n k by unfold restL; rfl]
    have hrest : OwnA (some ⟨b1, 0, none⟩) c1 (restL n k) (.int .i64 0 :: j1) := by
      have hlr := rest_len hke
      rcases ho1 with ⟨h, _⟩ | ⟨b2, h1, h2, h3, h4⟩
      · cases h
      · have h5 : (idx n).length * 1 + j1.length = c1 * 1 := h2
        rw [idx_len] at h3 h5
        refine .inr ⟨b2, h1, ?_, by omega, h4⟩
        show (restL n k).length * 1 + (Value.int .i64 0 :: j1).length = c1 * 1
        rw [List.length_cons]; omega
    have hrl : (restL n k).length ≤ 1048576 := by rw [rest_len hke]; omega
    refine Wl.gl 7 [] ?_
    refine Wl.lit (α := Int) 31 [((↑k : Int))] rfl T.sl23 T.el3 rfl rfl rfl rfl rfl (fun b2 => ?_)
    refine Wl.q rfl (Qy.move rfl) ?_
    refine Wl.append (α := Int) (xs := [(k : Int)]) (ys := restL n k) (junk := []) 31 rfl T.sl23 T.el3 rfl rfl rfl (OwnA.made (by simp [maxLen])) (Src.row 20 rfl) (by simp only [List.length_cons, List.length_nil]; omega) (by simp only [List.length_cons, List.length_nil, maxLen]; omega) (fun a1 ca1 junk1 hoa1 => ?_)
    refine Wl.yieldO (A := [(20, some b1, Row 3 (restL n k) (.int .i64 0 :: j1))]) 1000 31 30 rfl rfl rfl rfl rfl rfl ⟨rfl, trivial⟩ rfl rfl (by repeat (first | exact Hp.tl_self _ _ | refine Hp.tl_cons rfl ?_)) rfl
      ((hY (2 * k) ((k : Int) :: restL n k) ⟨a1, ca1, junk1⟩ s (tries_front hke) hoa1 hk2).up (Imm.le_refl _)) (fun vy Gv Hv hlv hp => ?_)
    obtain ⟨rfl, s', rfl, hp⟩ := hp
    rcases hp with ⟨rfl, hinv'⟩ | ⟨rfl, hst⟩
    · refine Wl.ll0 7 [] ?_
      refine Wl.callB 40 rfl T.fn51 rfl (fun Gx hGx hgx => c51 Gx _ _ (restL n k) (Arr.own hgx 20 rfl hrest) (fun h => by cases h) hrl) (fun v2 Gx2 G2 Ho2 hlx2 hp => ?_)
      obtain ⟨s2, c2, j2, rfl, ho2, rfl, rfl⟩ := hp
      refine Wl.ll0 3 [] ?_
      refine Wl.lit (α := Int) 41 [((↑k : Int))] rfl T.sl23 T.el3 rfl rfl rfl rfl rfl (fun b3 => ?_)
      refine Wl.want rfl rfl ?_
      refine Wl.append (α := Int) 40 rfl T.sl23 T.el3 rfl rfl rfl (by first | assumption | exact OwnA.nil | exact OwnA.made (by simp)) (Src.row 41 rfl) (by first | omega | (simp only [List.length_append, List.length_cons, List.length_nil, maxLen]; omega)) (by first | omega | (simp only [List.length_append, List.length_cons, List.length_nil, maxLen]; omega)) (fun a3 c3 junk3 ho3 => ?_)
      refine Wl.want rfl rfl ?_
      refine Wl.nilRow 30 (Row 3 ([] : List Int) []) ?_
      refine Wl.yieldO (A := []) 1000 40 30 rfl rfl rfl rfl rfl rfl trivial rfl rfl (by repeat (first | exact Hp.tl_self _ _ | refine Hp.tl_cons rfl ?_)) rfl
        ((hY (2 * k + 1) (restL n k ++ [(k : Int)]) ⟨a3, c3, junk3⟩ s' (tries_back hke) ho3 hinv').up (Imm.le_refl _)) (fun vy2 Gv2 Hv2 hlv2 hp2 => ?_)
      obtain ⟨rfl, s3, rfl, hp2⟩ := hp2
      rcases hp2 with ⟨rfl, hinv3⟩ | ⟨rfl, hst⟩
      · refine Wl.ga 13 [0] ?_
        refine Ar.nilRow 30 (Row 3 ([] : List Int) []) ?_
        refine Ar.re 6 rfl (show _ = Value.int .i64 ((k + 1 : Nat) : Int) from rfl) ?_
        refine Ar.againGT ((k + 1, s3)) ?_ ?_ rfl ⟨rfl, rfl, rfl, rfl, trivial⟩ ⟨rfl, trivial⟩ (by repeat (first | exact Hp.tl_self _ _ | refine Hp.tl_cons rfl ?_))
        · exact ⟨hke, by rw [show 2 * (k + 1) = 2 * k + 1 + 1 by omega]; exact hinv3⟩
        · show n - (k + 1) < n - k
          omega
      · refine Wl.ga 11 [1] ?_
        refine Ar.base ?_
        refine Ar.outT (k := 1000) (.inr rfl) rfl (by repeat (first | exact Hp.tl_self _ _ | refine Hp.tl_cons rfl ?_)) ⟨rfl, s3, rfl, .inr hst⟩
    · refine Wl.ga 19 [1] ?_
      refine Ar.base ?_
      refine Ar.outT (k := 1000) (.inr rfl) rfl (by repeat (first | exact Hp.tl_self _ _ | refine Hp.tl_cons rfl ?_)) ⟨rfl, s', rfl, .inr hst⟩
  · have hke : k = n := by omega
    subst hke
    refine Wc.ga 11 [0] ?_
    refine Ar.outT (k := 1000) (.inl rfl) rfl (by repeat (first | exact Hp.tl_self _ _ | refine Hp.tl_cons rfl ?_)) ⟨rfl, s, rfl, .inl (by rw [tries_len]; exact hk2)⟩
end Go.Proofs.YtbppmiimeccclaaGreat
set_option maxRecDepth 100000
set_option linter.unusedVariables false
namespace Go.Proofs.YtbppmiimeccclaaGreat
open Go Go.Sl
set_option maxHeartbeats 4000000
/-- one instruction on numbers -/
def doZ (i : Sl.Instr) (zs : List Int) : Option Int :=
  let a := zs[i.a.toNat]?.getD 0
  let b := zs[i.b.toNat]?.getD 0
  if i.op = 2 then some (-a)
  else if i.op = 3 then some (a + b)
  else if i.op = 4 then some (a - b)
  else if i.op = 5 ∨ i.op = 7 then some (a * cst i)
  else if i.op = 6 ∨ i.op = 8 then (if a % cst i = 0 then some (a / cst i) else none)
  else some a
theorem c153i (G : Imm) (c : Int) (h : 0 ≤ c ∧ c ≤ 64) :
    Does Tryz.prog 153 [.int .i64 c] G [] (fun v G' Ho => ∃ r : IV, v = .agg (Cells.enc r).toArray ∧ Big G' r (p2 c.toNat) ∧ Ho = []) := by
  obtain ⟨n, rfl⟩ := Int.eq_ofNat_of_zero_le h.1
  rw [Int.toNat_natCast]
  exact c153 G n (by omega)
attribute [local irreducible] valB pb cmpZ lstWp p2 cst
end Go.Proofs.YtbppmiimeccclaaGreat
set_option maxRecDepth 100000
set_option linter.unusedVariables false
namespace Go.Proofs.YtbppmiimeccclaaGreat
open Go Go.Sl
set_option maxHeartbeats 4000000
theorem pw5_pb3 : pw 5 ≤ pb 3 := by unfold pw pb; decide
theorem mul_lt_pb {m k : Nat} {x y : Int} (hx : (x.natAbs : Int) < pb m) (hy : (y.natAbs : Int) < pb k) : ((x * y).natAbs : Int) < pb (m + k) := by
  rw [Int.natAbs_mul, Int.natCast_mul, pb_add]
  have h1 := Int.mul_le_mul_of_nonneg_left (Int.le_of_lt hy) (show (0 : Int) ≤ x.natAbs by omega)
  have h2 := Int.mul_lt_mul_of_pos_right hx (pb_pos k)
  omega
/-- the registers' numbers after k instructions -/
def stepsZ (p : PV) (zs : List Int) : Nat → Option (List Int)
  | 0 => some zs
  | k + 1 => (stepsZ p zs k).bind fun rs => (doZ (p.code[((k : Nat) : Int).toNat]?.getD default) rs).map fun x => rs.set (p.code[((k : Nat) : Int).toNat]?.getD default).to.toNat x
theorem Below.mono {m k : Nat} {zs : List Int} (h : Below m zs) (hk : m ≤ k) : Below k zs := fun z hz => Int.lt_of_lt_of_le (h z hz) (pb_le hk)
attribute [local irreducible] valB pb cmpZ lstWp p2 cst doZ
end Go.Proofs.YtbppmiimeccclaaGreat
set_option maxRecDepth 100000
set_option linter.unusedVariables false
namespace Go.Proofs.YtbppmiimeccclaaGreat
open Go Go.Sl
set_option maxHeartbeats 4000000
theorem c18R (G : Imm) (p : PV) (ac ao : Option Addr) (cc co : Nat) (hc : Arr G ac p.code) (ho : Arr G ao p.outs) (h1 : p.code.length ≤ 1099511627776) (h2 : p.outs.length ≤ 1099511627776) (hR : rightP p = true) :
    Does Tryz.prog 18 [.agg #[.int .i64 p.ins, .int .i64 p.regs, .slice ac p.code.length cc, .slice ao p.outs.length co]] G [] (fun v G' Ho => v = .tuple #[.int .i64 (checkP p).1, .int .i64 0] ∧ G' = G ∧ Ho = []) := by
  have hf : (checkP p).2 = false := by unfold rightP at hR; simpa using hR
  have h := c18 G p ac ao cc co hc ho h1 h2
  rw [hf] at h
  exact h
theorem cmpZ_zero {x y : Int} (h : cmpZ x y = 0) : x = y := by
  unfold cmpZ at h
  split at h
  · omega
  · split at h <;> omega
theorem take_next {za zb : List Int} {i : Nat} (h : za.take i = zb.take i) (h1 : i < za.length) (h2 : i < zb.length) (he : za[i]?.getD 0 = zb[i]?.getD 0) : za.take (i + 1) = zb.take (i + 1) := by
  rw [List.getElem?_eq_getElem h1, List.getElem?_eq_getElem h2] at he
  rw [List.take_add_one, List.take_add_one, h, List.getElem?_eq_getElem h1, List.getElem?_eq_getElem h2]
  have e : za[i] = zb[i] := he
  rw [e]
/-- the registers at first -/
def regs0Z (p : PV) (zs : List Int) : List Int := zs ++ List.replicate (p.regs.toNat - zs.length) 0
def outsZ (p : PV) (rs : List Int) : List Int := p.outs.map fun r => rs[r.toNat]?.getD 0
/-- the run on numbers -/
def ansZ (p : PV) (zs : List Int) : Option (List Int) := (stepsZ p (regs0Z p zs) p.code.length).map (outsZ p)
theorem below_zeros (m n : Nat) : Below m (List.replicate n 0) := fun z hz => by rw [List.eq_of_mem_replicate hz]; exact pb_pos m
attribute [local irreducible] valB pb cmpZ lstWp p2 cst doZ checkP
theorem c53 (G : Imm) (p : PV) (ac ao : Option Addr) (cc co : Nat) (hc : Arr G ac p.code) (ho : Arr G ao p.outs) (h1 : p.code.length ≤ 1099511627776) (h2 : p.outs.length ≤ 1099511627776) (hR : rightP p = true) (n : Int) (hn : n = p.ins) :
    Does Tryz.prog 53 [.agg #[.int .i64 p.ins, .int .i64 p.regs, .slice ac p.code.length cc, .slice ao p.outs.length co], .int .i64 n] G [] (fun v G' Ho => v = .int .i64 0 ∧ G' = G ∧ Ho = []) := by
  refine Does.enter Tryz.func53 rfl Tryz.ntmps53 rfl (fun w => ?_)
  refine Wc.gl 2 [] ?_
  refine Wl.box 0 rfl rfl rfl (fun b1 => ?_)
  refine Wl.gl 6 [0] ?_
  refine Wl.call0 rfl T.fn18 rfl (c18R _ p _ _ _ _ hc ho h1 h2 hR) ?_
  refine Wl.ga 36 [0, 0, 0] ?_
  refine Ar.out1 (.inr rfl) (Ho := Hp.only _ []) rfl (.tmp rfl) (Hp.sub_only _ _) ?_
  exact ⟨rfl, rfl, rfl⟩
theorem c77 (G : Imm) (a b : Option Addr) (ca cb : Nat) (la lb : List IV) (za zb : List Int) (ha : Arr G a la) (hb : Arr G b lb) (hA : Bigs G la za) (hB : Bigs G lb zb) (h1 : la.length ≤ 1048576) (h2 : lb.length ≤ 1048576) (m : Nat) (hm : m ≤ 268435456) (ba : Below m za) (bb : Below m zb) :
    Does Tryz.prog 77 [.slice a la.length ca, .slice b lb.length cb] G [] (fun v G' Ho => ∃ k : Int, v = .int .i64 k ∧ (k = 0 ↔ za = zb) ∧ G' = G ∧ Ho = []) := by
  have e1 := hA.1
  have e2 := hB.1
  refine Does.enter Tryz.func77 rfl Tryz.ntmps77 rfl (fun w => ?_)
  by_cases hn : la.length = lb.length
  · refine Wc.gc 41 [0, 0] ?_
    refine Wc.loop (ι := Nat) (fun i => ([(22, .int .i64 (i : Int)), (21, Go.Value.int Go.IntKind.i64 (↑(List.length la) : Int)), (20, Go.Value.slice a (List.length la) ca), (1, Go.Value.slice b (List.length lb) cb)], [])) (fun i => i ≤ la.length ∧ za.take i = zb.take i) (fun i => la.length - i) (0) (⟨Nat.zero_le _, rfl⟩) ⟨rfl, rfl, rfl, rfl, trivial⟩ trivial (fun i => fun (hk : i ≤ la.length ∧ za.take i = zb.take i) => ?_)
    obtain ⟨hi, hz⟩ := hk
    rcases Nat.lt_or_ge i la.length with hia | hia
    · have hx9 := hA.at (k := (i : Int)) (by omega)
      have hy9 := hB.at (k := (i : Int)) (by omega)
      have hx5 := Nat.le_trans (Big.len hx9 (ba.at _)) (Nat.le_trans hm (show 268435456 ≤ 1073741824 by decide))
      have hy5 := Nat.le_trans (Big.len hy9 (bb.at _)) (Nat.le_trans hm (show 268435456 ≤ 1073741824 by decide))
      refine Wc.gl 14 [1] ?_
      refine Wl.q rfl (Qy.at (α := IV) T.sl44 rfl rfl (by assumption) (by omega)) ?_
      refine Wl.q rfl (Qy.loadsG T.agg104 rfl (Arr.elem (by assumption) (by omega)) rfl) ?_
      refine Wl.alloc 0 rfl T.zero104 (fun b1 => ?_)
      refine Wl.gc 5 [0] ?_
      refine Wc.draw [0] [] T.mixed rfl ?_
      refine Gm.q 0 [0] (by kernel_rfl) rfl rfl (Qy.loadAll 0 T.agg104 rfl rfl rfl) ?_
      refine Gm.q 1 [] (by kernel_rfl) rfl rfl (Qy.move rfl) ?_
      refine Gm.q 2 [] (by kernel_rfl) rfl rfl (Qy.move rfl) ?_
      refine Gm.q 3 [] (by kernel_rfl) rfl rfl (Qy.at (α := IV) T.sl44 rfl rfl (by assumption) (by omega)) ?_
      refine Gm.q 4 [] (by kernel_rfl) rfl rfl (Qy.loadsG T.agg104 rfl (Arr.elem (by assumption) (by omega)) rfl) ?_
      refine Gm.one 5 ⟨rfl, trivial⟩ (by first | exact Imm.le_refl _ | assumption | (refine Imm.le_trans ?_ (by assumption); first | assumption | (refine Imm.le_trans ?_ (by assumption); assumption))) (by kernel_rfl) rfl ?_
      refine Wl.call0 rfl T.fn60 rfl (c60 _ _ _ _ _ hx9 hy9 hx5 hy5) ?_
      refine Wl.on0 ?_
      refine Gm.q 6 [] (by kernel_rfl) rfl rfl (Qy.assign rfl) ?_
      refine Gm.doneA (by kernel_rfl) ⟨rfl, trivial⟩ (by first | exact Imm.le_refl _ | assumption | (refine Imm.le_trans ?_ (by assumption); first | assumption | (refine Imm.le_trans ?_ (by assumption); assumption))) ?_
      refine Ar.gc 7 [] ?_
      refine Wc.cond rfl (fun hc1 => ?_) (fun hc1 => ?_)
      refine Wc.ga 12 [] ?_
      refine Ar.out1 (.inr rfl) (Ho := Hp.only _ []) rfl (.tmp rfl) (Hp.sub_only _ _) ?_
      rotate_left
      refine Wc.ga 7 [] ?_
      rotate_left
      · exact ⟨_, rfl, ⟨fun h => absurd h hc1, fun h => absurd (cmpZ_eq (by rw [h])) hc1⟩, rfl, rfl⟩
      · refine Ar.again (i + 1) ?_ ?_ rfl ⟨rfl, rfl, rfl, rfl, trivial⟩ trivial
        · exact ⟨by omega, take_next hz (by omega) (by omega) (cmpZ_zero (Decidable.not_not.1 hc1))⟩
        · omega
    · have hii : i = la.length := by omega
      subst hii
      refine Wc.ga 18 [0] ?_
      refine Ar.out1 (.inr rfl) (Ho := Hp.only _ []) rfl (.tmp rfl) (Hp.sub_only _ _) ?_
      refine ⟨0, rfl, ⟨fun _ => ?_, fun _ => rfl⟩, rfl, rfl⟩
      rw [List.take_of_length_le (by omega), List.take_of_length_le (by omega)] at hz
      exact hz
  · have hne : za ≠ zb := fun h => hn (by rw [e1, e2, h])
    by_cases hlt : la.length < lb.length
    · refine Wc.ga 26 [1] ?_
      refine Ar.out1 (.inr rfl) (Ho := Hp.only _ []) rfl (.tmp rfl) (Hp.sub_only _ _) ?_
      exact ⟨-1, rfl, ⟨fun h => absurd h (by decide), fun h => absurd h hne⟩, rfl, rfl⟩
    · refine Wc.ga 37 [0, 1] ?_
      refine Ar.out1 (.inr rfl) (Ho := Hp.only _ []) rfl (.tmp rfl) (Hp.sub_only _ _) ?_
      exact ⟨1, rfl, ⟨fun h => absurd h (by decide), fun h => absurd h hne⟩, rfl, rfl⟩
theorem c29 (G : Imm) (a b : Option Addr) (ca cb : Nat) (la lb : List IV) (za zb : List Int) (ha : Arr G a la) (hb : Arr G b lb) (hA : Bigs G la za) (hB : Bigs G lb zb) (h1 : la.length ≤ 1048576) (h2 : lb.length ≤ 1048576) (m : Nat) (hm : m ≤ 268435456) (ba : Below m za) (bb : Below m zb) :
    Does Tryz.prog 29 [.slice a la.length ca, .slice b lb.length cb] G [] (fun v G' Ho => v = .bool (decide (za = zb)) ∧ G' = G ∧ Ho = []) := by
  refine Does.enter Tryz.func29 rfl Tryz.ntmps29 rfl (fun w => ?_)
  refine Wc.gl 9 [] ?_
  refine Wl.call 0 rfl T.fn77 rfl (c77 G _ _ _ _ _ _ za zb ha hb hA hB h1 h2 m hm ba bb) (tags_of trivial) (fun v1 G1 Ho1 hle1 hp => ?_)
  obtain ⟨k1, rfl, hk1, rfl, rfl⟩ := hp
  refine Wl.ga 5 [] ?_
  refine Ar.out1 (.inr rfl) (Ho := Hp.only _ []) rfl (.tmp rfl) (Hp.sub_only _ _) ?_
  exact ⟨by rw [decide_eq_decide.2 hk1], rfl, rfl⟩
end Go.Proofs.YtbppmiimeccclaaGreat
set_option linter.unusedVariables false
namespace Go.Proofs.YtbppmiimeccclaaGreat
open Go Go.Sl
/-- code run over numbers -/
def goZ : List Sl.Instr → List Int → Option (List Int)
  | [], rs => some rs
  | i :: l, rs => (doZ i rs).bind fun x => goZ l (rs.set i.to.toNat x)
theorem goZ_snoc (l : List Sl.Instr) (i : Sl.Instr) (rs : List Int) : goZ (l ++ [i]) rs = (goZ l rs).bind fun r => (doZ i r).map fun x => r.set i.to.toNat x := by
  induction l generalizing rs with
  | nil =>
    show (doZ i rs).bind (fun x => some (rs.set i.to.toNat x)) = (doZ i rs).map _
    cases doZ i rs <;> rfl
  | cons j l ih =>
    show (doZ j rs).bind (fun x => goZ (l ++ [i]) (rs.set j.to.toNat x)) = ((doZ j rs).bind fun x => goZ l (rs.set j.to.toNat x)).bind _
    cases doZ j rs with
    | none => rfl
    | some x => exact ih _
theorem stepsZ_goZ (p : PV) (zs : List Int) : ∀ k, k ≤ p.code.length → stepsZ p zs k = goZ (p.code.take k) zs
  | 0, _ => by rw [List.take_zero]; rfl
  | k + 1, hk => by
    have htk : p.code.take (k + 1) = p.code.take k ++ [p.code[((k : Nat) : Int).toNat]?.getD default] := by
      rw [List.take_add_one, Int.toNat_natCast, List.getElem?_eq_getElem (by omega)]; rfl
    rw [htk, goZ_snoc, ← stepsZ_goZ p zs k (by omega)]
    rfl
def col (j : Nat) (rs : List (List Int)) : List Int := rs.map fun r => r[j]?.getD 0
def Flat (N : Nat) (rs : List (List Int)) : Prop := ∀ r ∈ rs, r.length = N
theorem col_len (j : Nat) (rs : List (List Int)) : (col j rs).length = rs.length := by unfold col; rw [List.length_map]
theorem col_at {j k : Nat} {rs : List (List Int)} : (col j rs)[k]?.getD 0 = (rs[k]?.getD [])[j]?.getD 0 := by
  unfold col
  rw [List.getElem?_map]
  cases rs[k]? <;> rfl
theorem col_set (j k : Nat) (rs : List (List Int)) (x : List Int) : col j (rs.set k x) = (col j rs).set k (x[j]?.getD 0) := by
  unfold col
  rw [List.map_set]
theorem flat_at {N k : Nat} {rs : List (List Int)} (h : Flat N rs) (hk : k < rs.length) : (rs[k]?.getD []).length = N := by
  rw [List.getElem?_eq_getElem hk]; exact h _ (List.getElem_mem hk)
theorem getc_map {l : List Int} {f : Int → Int} {j : Nat} (h : j < l.length) : (l.map f)[j]?.getD 0 = f (l[j]?.getD 0) := by
  rw [List.getElem?_map, List.getElem?_eq_getElem h]; rfl
theorem getc_zip {l m : List Int} {f : Int → Int → Int} {j : Nat} (h : j < l.length) (h2 : j < m.length) : (List.zipWith f l m)[j]?.getD 0 = f (l[j]?.getD 0) (m[j]?.getD 0) := by
  rw [List.getElem?_zipWith, List.getElem?_eq_getElem h, List.getElem?_eq_getElem h2]; rfl
theorem doI_col {i : Sl.Instr} {rs : List (List Int)} {N : Nat} (he : Flat N rs) (ha : i.a.toNat < rs.length) (hb : i.op = 3 ∨ i.op = 4 → i.b.toNat < rs.length) :
    (∀ x, doI i rs = some x → x.length = N ∧ ∀ j, j < N → doZ i (col j rs) = some (x[j]?.getD 0)) ∧ (doI i rs = none → ∃ j, j < N ∧ doZ i (col j rs) = none) := by
  have la := flat_at he ha
  unfold doI doZ
  simp only [col_at]
  by_cases h2 : i.op = 2
  · simp only [if_pos h2]
    refine ⟨fun x h => ?_, fun h => by cases h⟩
    cases h
    refine ⟨by rw [List.length_map]; exact la, fun j hj => ?_⟩
    rw [getc_map (by omega), Int.neg_mul, Int.one_mul]
  simp only [if_neg h2]
  by_cases h3 : i.op = 3
  · have lb := flat_at he (hb (.inl h3))
    simp only [if_pos h3]
    refine ⟨fun x h => ?_, fun h => by cases h⟩
    cases h
    refine ⟨by rw [List.length_zipWith]; omega, fun j hj => ?_⟩
    rw [getc_zip (by omega) (by omega), Int.one_mul]
  simp only [if_neg h3]
  by_cases h4 : i.op = 4
  · have lb := flat_at he (hb (.inr h4))
    simp only [if_pos h4]
    refine ⟨fun x h => ?_, fun h => by cases h⟩
    cases h
    refine ⟨by rw [List.length_zipWith]; omega, fun j hj => ?_⟩
    rw [getc_zip (by omega) (by omega), Int.neg_mul, Int.one_mul]; rfl
  simp only [if_neg h4]
  by_cases h5 : i.op = 5 ∨ i.op = 7
  · simp only [if_pos h5]
    refine ⟨fun x h => ?_, fun h => by cases h⟩
    cases h
    refine ⟨by rw [List.length_map]; exact la, fun j hj => ?_⟩
    rw [getc_map (by omega), Int.mul_comm]
  simp only [if_neg h5]
  by_cases h6 : i.op = 6 ∨ i.op = 8
  · simp only [if_pos h6]
    by_cases hd : AllDiv (cst i) (rs[i.a.toNat]?.getD [])
    · rw [if_pos hd]
      refine ⟨fun x h => ?_, fun h => by cases h⟩
      cases h
      refine ⟨by rw [List.length_map]; exact la, fun j hj => ?_⟩
      rw [if_pos (hd j (by omega)), getc_map (by omega)]
    · rw [if_neg hd]
      refine ⟨fun x h => (by cases h), fun _ => ?_⟩
      unfold AllDiv at hd
      rw [Classical.not_forall] at hd
      obtain ⟨j, hd⟩ := hd
      rw [Classical.not_imp] at hd
      exact ⟨j, by omega, if_neg hd.2⟩
  simp only [if_neg h6]
  refine ⟨fun x h => ?_, fun h => by cases h⟩
  cases h
  exact ⟨la, fun j hj => rfl⟩
theorem flat_set {N k : Nat} {rs : List (List Int)} {x : List Int} (h : Flat N rs) (hx : x.length = N) : Flat N (rs.set k x) := fun r hr => by
  rcases List.mem_or_eq_of_mem_set hr with h1 | h1
  · exact h r h1
  · rw [h1]; exact hx
/-- what code asks stands in the registers -/
def inRegs (n : Nat) (i : Sl.Instr) : Prop := i.a.toNat < n ∧ (i.op = 3 ∨ i.op = 4 → i.b.toNat < n)
theorem runL_col {N : Nat} : ∀ (l : List Sl.Instr) (rs : List (List Int)), Flat N rs → (∀ i ∈ l, inRegs rs.length i) →
    (∀ r', runL l rs = some r' → Flat N r' ∧ r'.length = rs.length ∧ ∀ j, j < N → goZ l (col j rs) = some (col j r')) ∧ (runL l rs = none → ∃ j, j < N ∧ goZ l (col j rs) = none)
  | [], rs, he, _ => ⟨fun r' h => by cases h; exact ⟨he, rfl, fun j _ => rfl⟩, fun h => by cases h⟩
  | i :: l, rs, he, hi => by
    obtain ⟨h1, h2⟩ := doI_col he (hi i (by simp)).1 (hi i (by simp)).2
    unfold runL goZ
    cases hd : doI i rs with
    | none =>
      refine ⟨fun r' h => (by cases h), fun _ => ?_⟩
      obtain ⟨j, hj, hz⟩ := h2 hd
      exact ⟨j, hj, by rw [hz]; rfl⟩
    | some x =>
      obtain ⟨hx, hc⟩ := h1 x hd
      obtain ⟨g1, g2⟩ := runL_col l (rs.set i.to.toNat x) (flat_set he hx) (fun q hq => by rw [List.length_set]; exact hi q (by simp [hq]))
      refine ⟨fun r' h => ?_, fun h => ?_⟩
      · obtain ⟨k1, k2, k3⟩ := g1 r' h
        refine ⟨k1, by rw [k2, List.length_set], fun j hj => ?_⟩
        rw [hc j hj]
        show goZ l ((col j rs).set i.to.toNat (x[j]?.getD 0)) = _
        rw [← col_set]; exact k3 j hj
      · obtain ⟨j, hj, hz⟩ := g2 h
        refine ⟨j, hj, ?_⟩
        rw [hc j hj]
        show goZ l ((col j rs).set i.to.toNat (x[j]?.getD 0)) = _
        rw [← col_set]; exact hz
theorem may_in {i : Sl.Instr} {regs : Int} {n : Nat} (h : mayOk i regs = true) (hn : (n : Int) = regs) : inRegs n i := by
  obtain ⟨m1, m2, m3, m4, m5⟩ := may_facts h
  exact ⟨by omega, fun h34 => by have := m4 h34; omega⟩
theorem regs_flat {p : PV} {gs : List (List Int)} {N : Nat} (hN : Flat N gs) (h1 : 1 ≤ gs.length) : Flat N (regs0 p gs) := fun r hr => by
  unfold regs0 at hr
  obtain ⟨k, _, rfl⟩ := List.mem_map.1 hr
  split
  · rename_i hk; exact flat_at hN hk
  · rw [List.length_replicate]; exact flat_at hN h1
theorem regs_col {p : PV} {gs : List (List Int)} (hz : gs.length ≤ p.regs.toNat) (j : Nat) : col j (regs0 p gs) = regs0Z p (col j gs) := by
  apply List.ext_getElem?
  intro k
  have hl : (regs0Z p (col j gs)).length = p.regs.toNat := by unfold regs0Z; rw [List.length_append, List.length_replicate, col_len]; omega
  have hl2 : (col j (regs0 p gs)).length = p.regs.toNat := by rw [col_len, regs0_len]
  rcases Nat.lt_or_ge k p.regs.toNat with hk | hk
  · have e : ∀ (l : List Int), k < l.length → l[k]? = some (l[k]?.getD 0) := fun l h => by rw [List.getElem?_eq_getElem h]; rfl
    rw [e _ (by omega), e (regs0Z p (col j gs)) (by omega)]
    congr 1
    rw [col_at, regs0_at hk]
    unfold regs0Z
    split
    · rename_i h
      rw [List.getElem?_append_left (by rw [col_len]; exact h), col_at]
    · rename_i h
      rw [List.getElem?_append_right (by rw [col_len]; omega), col_len]
      have e0 : ∀ (n m : Nat), (List.replicate n (0 : Int))[m]?.getD 0 = 0 := fun n m => by
        rw [List.getElem?_replicate]; split <;> rfl
      rw [e0, e0]
  · rw [List.getElem?_eq_none (by omega), List.getElem?_eq_none (by omega)]
/-- column by column: what a program answers over a grid -/
theorem follow_of_cols {p : PV} {gs os : List (List Int)} {N : Nat} (hR : rightP p = true) (hg : (gs.length : Int) = p.ins) (hN : Flat N gs) (ho : os.length = p.outs.length) (hf : Flat N os)
    (h : ∀ j, j < N → ansZ p (col j gs) = some (col j os)) : followP p gs = some os := by
  obtain ⟨f1, f2, f3, f4, f5, f6, f7, f8⟩ := right_facts hR
  have hfp := regs_flat (p := p) hN (by omega)
  unfold followP
  rw [runTo_runL p gs _ (Nat.le_refl _), List.take_length]
  have hq := runL_col p.code (regs0 p gs) hfp (fun i hi => may_in (f8 i hi) (by rw [regs0_len]; omega))
  have h9 : ∀ j, j < N → (goZ p.code (col j (regs0 p gs))).map (outsZ p) = some (col j os) := fun j hj => by
    have h1 := h j hj
    unfold ansZ at h1
    rw [stepsZ_goZ p _ _ (Nat.le_refl _), List.take_length, ← regs_col (by omega)] at h1
    exact h1
  cases hr : runL p.code (regs0 p gs) with
  | none =>
    obtain ⟨j, hj, hz⟩ := hq.2 hr
    have h1 := h9 j hj
    rw [hz] at h1
    cases h1
  | some s =>
    obtain ⟨q1, q2, q3⟩ := hq.1 s hr
    show some (outsOf p s) = some os
    congr 1
    unfold outsOf
    apply List.ext_getElem
    · rw [List.length_map, ho]
    · intro k g1 g2
      rw [List.length_map] at g1
      rw [List.getElem_map]
      have hrk := f7 p.outs[k] (List.getElem_mem g1)
      have ls := flat_at q1 (k := p.outs[k].toNat) (by rw [q2, regs0_len]; omega)
      have lo := hf _ (List.getElem_mem g2)
      apply List.ext_getElem
      · omega
      · intro j j1 j2
        have h1 := h9 j (by omega)
        rw [q3 j (by omega)] at h1
        have h2 : outsZ p (col j s) = col j os := Option.some.inj h1
        have h3 := congrArg (fun l : List Int => l[k]?.getD 0) h2
        simp only [col_at] at h3
        unfold outsZ at h3
        rw [List.getElem?_map, List.getElem?_eq_getElem g1, List.getElem?_eq_getElem g2] at h3
        simp only [Option.map_some, Option.getD_some, col_at] at h3
        rw [List.getElem?_eq_getElem j1, List.getElem?_eq_getElem j2] at h3
        exact h3
def Ag (R : Int) (σ : Int → Int) (rs : List Int) : Prop := ∀ r, 0 ≤ r → r < R → σ r = rs[r.toNat]?.getD 0
theorem doF_doZ {i : Sl.Instr} {R : Int} {σ : Int → Int} {rs : List Int} (hm : mayOk i R = true) (h : Ag R σ rs) : doF i σ = doZ i rs := by
  obtain ⟨m1, m2, m3, m4, m5⟩ := may_facts hm
  unfold doF doZ
  simp only [h i.a m3.1 m3.2]
  by_cases h34 : i.op = 3 ∨ i.op = 4
  · have := m4 h34
    rw [h i.b this.1 this.2]
  · have h3 : ¬ i.op = 3 := fun e => h34 (.inl e)
    have h4 : ¬ i.op = 4 := fun e => h34 (.inr e)
    simp only [h3, h4, if_false]
theorem ag_set {R : Int} {σ : Int → Int} {rs : List Int} {t x : Int} (h : Ag R σ rs) (hl : (rs.length : Int) = R) (ht : 0 ≤ t ∧ t < R) : Ag R (upd σ t x) (rs.set t.toNat x) := fun r h0 h1 => by
  rw [List.getElem?_set]
  by_cases hr : r = t
  · subst hr
    rw [upd_at, if_pos rfl, if_pos (by omega)]; rfl
  · rw [upd_ne _ _ hr, if_neg (by omega)]; exact h r h0 h1
theorem goZ_runF {R : Int} : ∀ (l : List Sl.Instr) (σ σ' : Int → Int) (rs : List Int), (∀ i ∈ l, mayOk i R = true) → (rs.length : Int) = R → Ag R σ rs → runF l σ = some σ' → ∃ rs', goZ l rs = some rs' ∧ (rs'.length : Int) = R ∧ Ag R σ' rs'
  | [], σ, σ', rs, _, hl, h, he => by cases he; exact ⟨rs, rfl, hl, h⟩
  | i :: l, σ, σ', rs, hm, hl, h, he => by
    have hmi := hm i List.mem_cons_self
    obtain ⟨m1, m2, m3⟩ := may_facts hmi
    obtain ⟨x, hx, he2⟩ := Option.bind_eq_some_iff.1 (show (doF i σ).bind (fun x => runF l (upd σ i.to x)) = some σ' from he)
    obtain ⟨rs', g1, g2, g3⟩ := goZ_runF l (upd σ i.to x) σ' (rs.set i.to.toNat x) (fun j hj => hm j (List.mem_cons_of_mem _ hj)) (by rw [List.length_set]; exact hl) (ag_set h hl m2) he2
    refine ⟨rs', ?_, g2, g3⟩
    show (doZ i rs).bind (fun x => goZ l (rs.set i.to.toNat x)) = some rs'
    rw [← doF_doZ hmi h, hx]
    exact g1
theorem normAll_run (m : Nat) (v : Nat → Int) : ∀ (l : List R2) (k : Nat) (σ : Int → Int), (∀ p ∈ l, Int.gcd p.a p.b ≠ 0) → (∀ i, i < l.length → σ ((k + i : Nat) : Int) = (Int.gcd (l[i]?.getD default).a (l[i]?.getD default).b : Int) ^ m * v (k + i)) →
    ∃ σ', runF (normAll m l k) σ = some σ' ∧ (∀ i, i < l.length → σ' ((k + i : Nat) : Int) = v (k + i)) ∧ ∀ r : Int, r < k → σ' r = σ r
  | [], k, σ, _, _ => ⟨σ, rfl, fun i h => by simp at h, fun _ _ => rfl⟩
  | p :: l, k, σ, hg, h => by
    have h0 := h 0 (by simp)
    obtain ⟨σ', a1, a2, a3⟩ := normAll_run m v l (k + 1) (upd σ (k : Int) (v k)) (fun q hq => hg q (List.mem_cons_of_mem _ hq)) (fun i hi => by
      have := h (i + 1) (by rw [List.length_cons]; omega)
      rw [upd_ne _ _ (by omega), show k + 1 + i = k + (i + 1) by omega]
      exact this)
    refine ⟨σ', runF_seq (over_many (k : Int) (Int.gcd p.a p.b : Int) (by have := hg p List.mem_cons_self; omega) m σ (v k) h0) a1, fun i hi => ?_, fun r hr => ?_⟩
    · cases i with
      | zero =>
        show σ' ((k + 0 : Nat) : Int) = v (k + 0)
        rw [Nat.add_zero, a3 _ (by omega), upd_at]
      | succ i =>
        rw [List.length_cons] at hi
        have := a2 i (by omega)
        rw [show k + 1 + i = k + (i + 1) by omega] at this
        exact this
    · rw [a3 r (by omega), upd_ne _ _ (by omega)]
/-- run on a form's values at the points, the program answers its coefficients -/
theorem made_ans {l : List R2} {o : List Int} {f : List Int} (hR : RightL l) (ho : OrderP o l.length) (hf : f.length = l.length) : ansZ (madeP l o) (l.map fun p => ev f p.a p.b) = some f := by
  have hg := code_good hR ho
  have hw := wh_right hR ho.2.1
  have hl := hR.1
  have hok : ∀ i, i < l.length → okP (l[i]?.getD default) := hR.2.2.1
  have hokm : ∀ p ∈ l, okP p := fun p hp => by
    obtain ⟨i, hi, rfl⟩ := List.mem_iff_getElem.1 hp
    have := hok i hi
    rw [List.getElem?_eq_getElem hi] at this
    exact this
  generalize hrs : regs0Z (madeP l o) (l.map fun p => ev f p.a p.b) = rs
  have hzl : (l.map fun p => ev f p.a p.b).length = l.length := List.length_map _
  have hregs : (madeP l o).regs = 3 * l.length + 1 := rfl
  have hrl : (rs.length : Int) = 3 * l.length + 1 := by
    rw [← hrs]; unfold regs0Z
    rw [List.length_append, List.length_replicate, hzl, hregs]; omega
  have hr0 : ∀ i, i < l.length → rs[i]?.getD 0 = ev f (l[i]?.getD default).a (l[i]?.getD default).b := fun i hi => by
    rw [← hrs]; unfold regs0Z
    rw [List.getElem?_append_left (by rw [hzl]; exact hi), List.getElem?_map, List.getElem?_eq_getElem hi]; rfl
  obtain ⟨c, f', hcf⟩ : ∃ c f', f = c :: f' := by
    cases f with
    | nil => rw [List.length_nil] at hf; omega
    | cons c f' => exact ⟨c, f', rfl⟩
  have hfl : f'.length = l.length - 1 := by rw [hcf, List.length_cons] at hf; omega
  obtain ⟨σ1, a1, a2, a3⟩ := normAll_run (l.length - 1) (fun i => ev f (ptW (l.map wholeP) (i : Int)).a (ptW (l.map wholeP) (i : Int)).b) l 0 (fun r => rs[r.toNat]?.getD 0) (fun p hp => by have := gcd_near (hokm p hp); omega) (fun i hi => by
    simp only [Nat.zero_add]
    rw [Int.toNat_natCast, hr0 i hi, ptW_map l (by omega) (by omega), Int.toNat_natCast]
    obtain ⟨w1, w2, _⟩ := whole_facts (hok i hi)
    have hgp := gcd_near (hok i hi)
    generalize (l[i]?.getD default) = p at *
    have := ev_norm (g := (Int.gcd p.a p.b : Int)) (wholeP p).a (wholeP p).b c f' (by omega)
    rw [← w1, ← w2, hfl, ← hcf] at this
    exact this)
  have hv : ∀ k ∈ o, σ1 k = ev f (ptW (l.map wholeP) k).a (ptW (l.map wholeP) k).b := fun k hk => by
    have h1 := ho.2.1 k hk
    have := a2 k.toNat (by omega)
    simp only [Nat.zero_add] at this
    rw [show ((k.toNat : Nat) : Int) = k by omega] at this
    exact this
  have hol := ho.1
  obtain ⟨σ2, b1, b2, b3⟩ := smith_run (n := l.length) (wh := l.map wholeP) o f σ1 ho.2.2 (by intro e; rw [e, List.length_nil] at hol; omega) ho.2.1 (by omega) (fun k hk => ⟨hw.cop k hk, hw.bez k hk⟩) hw.det (by omega) hv
  obtain ⟨rs', c1, c2, c3⟩ := goZ_runF (codeP l o) (fun r => rs[r.toNat]?.getD 0) σ2 rs hg.fit hrl (fun r _ _ => rfl) (runF_seq a1 b1)
  unfold ansZ
  rw [stepsZ_goZ _ _ _ (Nat.le_refl _), List.take_length, hrs]
  show (goZ (codeP l o) rs).map (outsZ (madeP l o)) = some f
  rw [c1]
  show some (outsZ (madeP l o) rs') = some f
  congr 1
  unfold outsZ madeP
  simp only
  apply List.ext_getElem
  · rw [List.length_map, List.length_map, List.length_range, hf]
  · intro j g1 g2
    rw [List.getElem_map, List.getElem_map, List.getElem_range, ← c3 _ (by omega) (by omega), b2 j g2]
    unfold co
    rw [List.getElem?_eq_getElem g2]; rfl
theorem unitR_ev {n j : Nat} (h : j < n) (a b : Int) : ev (unitR n j) a b = a ^ j * b ^ (n - 1 - j) := ev_unit a b n j h
theorem interp_made {l : List R2} {o : List Int} (hR : RightL l) (ho : OrderP o l.length) : InterpP (madeP l o) l := by
  have hpo : (madeP l o).outs.length = l.length := by show ((List.range l.length).map _).length = _; rw [List.length_map, List.length_range]
  refine ⟨made_right hR ho, rfl, hpo, ?_⟩
  have hul : ∀ j, (unitR l.length j).length = l.length := fun j => by unfold unitR; rw [List.length_set, List.length_replicate]
  refine follow_of_cols (N := l.length) (made_right hR ho) (by rw [gridR_lenN]; rfl) (fun r hr => ?_) (by rw [List.length_map, List.length_range, hpo]) (fun r hr => ?_) (fun j hj => ?_)
  · unfold gridR at hr
    obtain ⟨p, hp, rfl⟩ := List.mem_map.1 hr
    unfold powR; rw [List.length_map, List.length_range]
  · obtain ⟨i, hi, rfl⟩ := List.mem_map.1 hr
    exact hul i
  · have e1 : col j (gridR l) = l.map fun p => ev (unitR l.length j) p.a p.b := by
      unfold col gridR
      rw [List.map_map]
      apply List.map_congr_left
      intro p hp
      show (powR p.a p.b l.length)[j]?.getD 0 = _
      rw [unitR_ev hj]
      unfold powR
      rw [List.getElem?_map, List.getElem?_range hj]; rfl
    have e2 : col j ((List.range l.length).map (unitR l.length)) = unitR l.length j := by
      apply List.ext_getElem
      · rw [col_len, List.length_map, List.length_range, hul]
      · intro i g1 g2
        rw [col_len, List.length_map, List.length_range] at g1
        have e3 : ∀ (a b : Nat), b < l.length → (unitR l.length a)[b]?.getD 0 = if a = b then 1 else 0 := fun a b hb => by
          unfold unitR
          rw [List.getElem?_set, List.getElem?_replicate]
          by_cases hab : a = b
          · rw [if_pos hab, if_pos hab, if_pos (by rw [List.length_replicate]; omega)]; rfl
          · rw [if_neg hab, if_neg hab, if_pos hb]; rfl
        have e4 := e3 i j hj
        have e5 := e3 j i g1
        rw [List.getElem?_eq_getElem g2] at e5
        have e6 : (col j ((List.range l.length).map (unitR l.length)))[i]?.getD 0 = (unitR l.length i)[j]?.getD 0 := by
          rw [col_at, List.getElem?_map, List.getElem?_range g1]; rfl
        rw [List.getElem?_eq_getElem (by rw [col_len, List.length_map, List.length_range]; exact g1)] at e6
        simp only [Option.getD_some] at e5 e6
        rw [e6, e4, e5]
        by_cases hij : i = j
        · rw [if_pos hij, if_pos hij.symm]
        · rw [if_neg hij, if_neg (fun h => hij h.symm)]
    rw [e1, e2]
    exact made_ans hR ho (hul j)
end Go.Proofs.YtbppmiimeccclaaGreat
set_option maxRecDepth 100000
set_option linter.unusedVariables false
namespace Go.Proofs.YtbppmiimeccclaaGreat
open Go Go.Sl
set_option maxHeartbeats 4000000
attribute [local irreducible] madeP codeP InterpP FewP lstWp RightL OrderP
/-- where a program's lists lie -/
structure PA where
  a : Option Addr
  b : Option Addr
  c : Nat
  d : Nat
  j : List Value
  k : List Value
theorem c11N (G : Imm) (a : Option Addr) (c : Nat) (l : List R2) (ha : Arr G a l) (hac : l.length ≤ c) (hl : l.length ≤ 1048576) (hR : ¬ RightL l) :
    Does Tryz.prog 11 [.slice a l.length c] G [] (fun v G' Ho => v = .tuple #[.agg #[.int .i64 0, .int .i64 0, .slice none 0 0, .slice none 0 0], .slice none 0 0, .int .i64 2] ∧ Ho = []) := by
  refine Does.enter Tryz.func11 rfl Tryz.ntmps11 rfl (fun w => ?_)
  refine Wc.gl 2 [] ?_
  refine Wl.box 0 rfl rfl rfl (fun b1 => ?_)
  refine Wl.alloc 1 rfl T.zero25 (fun b2 => ?_)
  refine Wl.gl 7 [0] ?_
  refine Wl.call 2 rfl T.fn13 rfl (c13N _ a c l (by assumption) hac hl hR) (tags_of trivial) (fun v1 G1 Ho1 hle1 hp => ?_)
  obtain ⟨rfl, rfl⟩ := hp
  replace ha := ha.up hle1
  refine Wl.ll0 3 [] ?_
  refine Wl.alloc 2 rfl T.zero25 (fun b3 => ?_)
  refine Wl.ga 23 [2, 1, 2, 1] ?_
  refine Ar.out3 (.inr rfl) (Ho := Hp.only _ []) rfl (.agg 1 rfl rfl T.agg25) (.tmp rfl) (.tmp rfl) (Hp.sub_only _ _) ?_
  exact ⟨rfl, rfl⟩
theorem c11Y (G : Imm) (a : Option Addr) (c : Nat) (pl : List R2) (ha : Arr G a pl) (hac : pl.length ≤ c) (hl : pl.length ≤ 1048576) (hR : RightL pl) :
    Does Tryz.prog 11 [.slice a pl.length c] G [] (fun v G' Ho => ∃ (o : List Int) (bc bo sa : Option Addr) (dc do_ sc : Nat), OrderP o pl.length ∧ (madeP pl o).code.length ≤ (madeP pl (idx pl.length)).code.length ∧
      v = .tuple #[.agg #[.int .i64 (madeP pl o).ins, .int .i64 (madeP pl o).regs, .slice bc (madeP pl o).code.length dc, .slice bo (madeP pl o).outs.length do_], .slice sa o.length sc, .int .i64 0] ∧ Arr G' bc (madeP pl o).code ∧ Arr G' bo (madeP pl o).outs ∧ Arr G' sa o ∧ o.length ≤ sc ∧ Ho = []) := by
  refine Does.enterM Tryz.func11 rfl Tryz.ntmps11 rfl (fun w => ?_)
  refine Wc.gl 2 [] ?_
  refine Wl.box 0 rfl rfl rfl (fun b1 => ?_)
  refine Wl.alloc 1 rfl T.zero25 (fun b2 => ?_)
  refine Wl.gl 7 [0] ?_
  refine Wl.call 20 rfl T.fn13 rfl (c13Y _ a c pl ha hac hR) (tags_of trivial) (fun v1 G1 Ho1 hle1 hp => ?_)
  obtain ⟨bc, bo, dc, do_, j1, j2, rfl, hpc, hpo, rfl⟩ := hp
  replace ha := ha.up hle1
  refine Wl.ll0 3 [] ?_
  refine Wl.alloc 22 rfl T.zero25 (fun b3 => ?_)
  refine Wl.gl 18 [22, 0, 0] ?_
  refine Wl.call 40 rfl T.fn39 rfl (c39O _ pl.length (by omega)) (tags_of trivial) (fun v2 G2 Ho2 hle2 hp => ?_)
  obtain ⟨s, sc, sj, rfl, hos, rfl, rfl⟩ := hp
  refine Wl.alloc 41 rfl T.zero23 (fun b4 => ?_)
  refine Wl.gl 8 [41, 0] ?_
  refine Wl.call 42 rfl T.fn40 rfl (c40 _ pl.length) (tags_of trivial) (fun v3 G3 Ho3 hle3 hp => ?_)
  obtain ⟨bi, rfl, rfl, hbi⟩ := hp
  replace ha := ha.up hle3
  refine Wl.gc 3 [] ?_
  refine Wc.rangeGives (ι := List Int × PA × OA) 900 901 902 903 (fun (o, y, z) => [(22, some b3, .cells #[.int .i64 (madeP pl o).ins, .int .i64 (madeP pl o).regs, .slice y.a (madeP pl o).code.length y.c, .slice y.b (madeP pl o).outs.length y.d] 25), (41, some b4, .cells #[.slice z.a o.length z.c] 23), (20, y.a.map (·.block), Row 93 (madeP pl o).code y.j), (21, y.b.map (·.block), Row 3 (madeP pl o).outs y.k), (40, z.a.map (·.block), Row 3 o z.j), (0, some b1, .cells #[.slice a pl.length c] 26), (1, Option.some b2, Go.Obj.cells #[Go.Value.int Go.IntKind.i64 0, Go.Value.int Go.IntKind.i64 0, Go.Value.slice Option.none 0 0, Go.Value.slice Option.none 0 0] 25)]) (fun k (o, y, z) => OrderP o pl.length ∧ OwnA y.a y.c (madeP pl o).code y.j ∧ OwnA y.b y.d (madeP pl o).outs y.k ∧ OwnA z.a z.c o z.j ∧ (madeP pl o).code.length ≤ (madeP pl (idx pl.length)).code.length) (fun c (o, y, z) => False) ((idx pl.length, ⟨bc, bo, dc, do_, j1, j2⟩, ⟨s, sc, sj⟩)) rfl T.fn84 (fun _ _ => rfl) rfl (c84I _ pl.length (by omega) _ hbi) (⟨idx_order _, hpc, hpo, hos, Nat.le_refl _⟩) (Hp.got ⟨rfl, rfl, rfl, rfl, rfl, rfl, rfl, trivial⟩) ⟨rfl, fun _ => rfl⟩ rfl (fun k xk yk ⟨o, y, z⟩ l dd qq w0 hx hgd hi => ?_) (fun ⟨o, y, z⟩ dd hi => ?_) (fun ⟨o, y, z⟩ dd c hi => ?_)
  · obtain ⟨hi1, hi2, hi3, hi4, hi5⟩ := hi
    have hord : OrderP xk pl.length := tries_order hx
    have hgd' : OwnA yk.a yk.c xk yk.j := hgd
    refine Wc.ga 3 [] ?_
    refine Ar.begin 900 rfl ?_
    refine Wc.gl 5 [0] ?_
    refine Wl.callB 50 rfl T.fn41 rfl (fun Gx hGx hgx => c41 Gx a c pl yk.a yk.c xk (ha.up hGx) (Arr.own hgx 902 rfl hgd') hac hgd'.le hR hord) (fun v5 Gx5 G5 Ho5 hlx5 hp => ?_)
    obtain ⟨qc, qo, qd, qe, j5, j6, rfl, hqc, hqo, rfl⟩ := hp
    refine Wl.alloc 904 rfl T.zero25 (fun b5 => ?_)
    refine Wl.gc 14 [904, 904, 22] ?_
    refine Wc.cond rfl (fun hc1 => ?_) (fun hc1 => ?_)
    refine Wc.ga 7 [904, 22, 41] ?_
    rotate_left
    refine Wc.ga 2 [] ?_
    rotate_left
    · refine Ar.reH 41 (.cells #[.slice yk.a xk.length yk.c] 23) rfl rfl ?_
      refine Ar.retag 50 20 rfl rfl (Ar.retag 51 21 rfl rfl (Ar.retag 902 40 rfl rfl ?_))
      refine Ar.roundEnd none (.inl ⟨rfl, rfl⟩) 900 rfl ⟨rfl, ((xk, ⟨qc, qo, qd, qe, j5, j6⟩, yk), none), rfl, .inl ⟨rfl, rfl, ?_⟩⟩ (Hp.got ⟨rfl, rfl, rfl, rfl, rfl, rfl, rfl, rfl, rfl, trivial⟩)
      exact ⟨hord, hqc, hqo, hgd', by omega⟩
    · skip
      refine Ar.roundEnd none (.inl ⟨rfl, rfl⟩) 900 rfl ⟨rfl, ((o, y, z), none), rfl, .inl ⟨rfl, rfl, ?_⟩⟩ (Hp.got ⟨rfl, rfl, rfl, rfl, rfl, rfl, rfl, rfl, rfl, trivial⟩)
      exact ⟨hi1, hi2, hi3, hi4, hi5⟩
  · obtain ⟨hi1, hi2, hi3, hi4, hi5⟩ := hi
    refine Ar.gc 3 [] ?_
    refine Wc.draw [1, 0, 40, 21, 20, 41, 22, 901] [(1, 2)] T.mixed rfl ?_
    refine Gm.q 0 [22] (by kernel_rfl) rfl rfl (Qy.loadAll 22 T.agg25 rfl rfl rfl) ?_
    refine Gm.q 1 [41] (by kernel_rfl) rfl rfl (Qy.load 41 T.one23 rfl rfl rfl) ?_
    refine Gm.one 2 ⟨rfl, rfl, rfl, rfl, rfl, rfl, rfl, rfl, trivial⟩ (by first | exact Imm.le_refl _ | repeat (first | assumption | refine Imm.le_trans ?_ (by assumption))) (by kernel_rfl) rfl ?_
    refine Wl.storeAll 1 T.size25 rfl rfl rfl rfl rfl rfl ?_
    refine Wl.on0 ?_
    refine Gm.q 3 [] (by kernel_rfl) rfl rfl (Qy.assign rfl) ?_
    refine Gm.q 4 [] (by kernel_rfl) rfl rfl (Qy.assign rfl) ?_
    refine Gm.doneA (by kernel_rfl) ⟨rfl, rfl, rfl, rfl, rfl, rfl, rfl, trivial⟩ (by first | exact Imm.le_refl _ | repeat (first | assumption | refine Imm.le_trans ?_ (by assumption))) ?_
    refine Ar.ga 2 [] ?_
    refine Ar.collect (.inr rfl) 901 rfl ?_
    refine Ar.outOf (.inr rfl) ?_
    refine Ar.freezeRow 20 rfl hi2 (fun G7 hle7 hA7 => Ar.freezeRow 21 rfl hi3 (fun G8 hle8 hA8 => Ar.freezeRow 40 rfl hi4 (fun G9 hle9 hA9 => ?_)))
    refine Ar.out3 (.inr rfl) (Ho := []) rfl (.agg 1 rfl rfl T.agg25) (.tmp rfl) (.tmp rfl) trivial ?_
    exact ⟨o, _, _, _, _, _, _, hi1, hi5, rfl, (hA7.up hle8).up hle9, hA8.up hle9, hA9, hi4.le, rfl⟩
  · exact hi.elim
end Go.Proofs.YtbppmiimeccclaaGreat
set_option maxRecDepth 100000
set_option linter.unusedVariables false
namespace Go.Proofs.YtbppmiimeccclaaGreat
open Go Go.Sl
set_option maxHeartbeats 4000000
attribute [local irreducible] valB pb cmpZ lstWp
theorem bigs_snoc {G : Imm} {l : List IV} {zs : List Int} {r : IV} {z : Int} (h : Bigs G l zs) (hr : Big G r z) : Bigs G (l ++ [r]) (zs ++ [z]) := by
  have e1 := h.1
  refine ⟨by rw [List.length_append, List.length_append, e1]; rfl, fun i hi => ?_⟩
  rw [List.length_append, List.length_singleton] at hi
  rcases Nat.lt_or_ge i l.length with h3 | h3
  · rw [List.getElem?_append_left h3, List.getElem?_append_left (by omega)]; exact h.2 i h3
  · have h4 : i = l.length := by omega
    subst h4
    rw [List.getElem?_append_right (Nat.le_refl _), List.getElem?_append_right (by omega), e1, Nat.sub_self]; exact hr
/-- the first n numbers that a rule gives -/
def upP (P : Nat → Int) (n : Nat) : List Int := (List.range n).map P
theorem upP_succ (P : Nat → Int) (n : Nat) : upP P (n + 1) = upP P n ++ [P n] := by unfold upP; rw [List.range_succ, List.map_append]; rfl
/-- each, of a function that holds no state -/
theorem c180P (G : Imm) (a : Option Addr) (c : Nat) (xs : List IV) (g : Nat) (fst : List Value) (P : Nat → Int) (hg : isFn Tryz.prog g) (ha : Arr G a xs) (hl : xs.length ≤ 1048576)
    (hf : ∀ k : Nat, k < xs.length → ∀ G', G.le G' → Does Tryz.prog g (fst ++ [.agg (Cells.enc (xs[((k : Nat) : Int).toNat]?.getD default)).toArray] ++ []) G' [] (fun v G'' Ho => ∃ r : IV, v = .agg (Cells.enc r).toArray ∧ Big G'' r (P k) ∧ Ho = [])) :
    Does Tryz.prog 180 [.slice a xs.length c, .func (.func g) fst.toArray #[]] G [] (fun v G' Ho => ∃ (s : Option Addr) (r : List IV) (d : Nat), v = .slice s r.length d ∧ Arr G' s r ∧ r.length ≤ d ∧ Bigs G' r (upP P xs.length) ∧ Ho = []) := by
  refine Does.enter Tryz.func180 rfl Tryz.ntmps180 rfl (fun w => ?_)
  refine Wc.nilRow 9 (Row 104 ([] : List IV) []) ?_
  refine Wc.gc 19 [] ?_
  refine Wc.loopG (ι := Nat × Imm × List IV × (Option Addr × Nat × List Value)) (fun (k, Gx, r, (o, d, j)) => ([(10, .int .i64 (k : Int)), (5, .slice o r.length d), (9, Go.Value.int Go.IntKind.i64 (↑(List.length xs) : Int)), (8, Go.Value.slice a (List.length xs) c), (4, Go.Value.slice Option.none 0 0), (1, Go.Value.func (Go.Fn.func g) (List.toArray fst) #[])], [(9, o.map (·.block), Row 104 r j)])) (fun (k, Gx, r, (o, d, j)) => Gx) (fun (k, Gx, r, (o, d, j)) => k ≤ xs.length ∧ G.le Gx ∧ r.length = k ∧ Bigs Gx r (upP P k) ∧ OwnA o d r j) (fun (k, Gx, r, (o, d, j)) => xs.length - k) ((0, G, [], (none, 0, []))) (⟨Nat.zero_le _, Imm.le_refl _, rfl, ⟨rfl, fun i h => absurd h (by simp)⟩, OwnA.nil⟩) rfl ⟨rfl, rfl, rfl, rfl, rfl, rfl, trivial⟩ ⟨rfl, trivial⟩ (fun ⟨k, Gx, r, (o, d, j)⟩ => fun (hk : k ≤ xs.length ∧ G.le Gx ∧ r.length = k ∧ Bigs Gx r (upP P k) ∧ OwnA o d r j) => ?_)
  obtain ⟨hk1, hk2, hk3, hk4, hk5⟩ := hk
  replace ha := ha.up hk2
  rcases Nat.lt_or_ge k xs.length with hkl | hkl
  · refine Wc.gl 13 [1] ?_
    refine Wl.q rfl (Qy.at (α := IV) T.sl44 rfl rfl (by assumption) (by omega)) ?_
    refine Wl.q rfl (Qy.loadsG T.agg104 rfl (Arr.elem (by assumption) (by omega)) rfl) ?_
    refine Wl.alloc 10 rfl T.zero104 (fun b1 => ?_)
    refine Wl.gl 7 [10, 10] ?_
    refine Wl.callV (fst := fst) (cap := []) 20 rfl hg rfl rfl (hf k hkl _ hk2) (tags_of trivial) (fun v1 G1 Ho1 hle1 hp => ?_)
    obtain ⟨r1, rfl, hr1, rfl⟩ := hp
    refine Wl.lit (α := IV) 11 [(r1)] rfl T.sl44 T.el104 rfl rfl rfl rfl rfl (fun b2 => ?_)
    refine Wl.append (α := IV) 9 rfl T.sl44 T.el104 rfl rfl rfl (by first | assumption | exact OwnA.nil | exact OwnA.made (by simp)) (Src.row 11 rfl) (by first | omega | (simp only [List.length_append, List.length_cons, List.length_nil, maxLen]; omega)) (by first | omega | (simp only [List.length_append, List.length_cons, List.length_nil, maxLen]; omega)) (fun a1 c1 junk1 ho1 => ?_)
    refine Wl.ga 8 [] ?_
    refine Ar.re 10 rfl (show _ = Value.int .i64 ((k + 1 : Nat) : Int) from rfl) ?_
    refine Ar.again ((k + 1, G1, r ++ [r1], (a1, c1, junk1))) ?_ ?_ rfl ⟨rfl, rfl, rfl, rfl, rfl, rfl, trivial⟩ ⟨rfl, trivial⟩
    · refine ⟨hkl, Imm.le_trans hk2 hle1, by rw [List.length_append, hk3]; rfl, ?_, ho1⟩
      rw [upP_succ]; exact bigs_snoc (hk4.up hle1) hr1
    · show xs.length - (k + 1) < xs.length - k
      omega
  · have hkl : k = xs.length := by omega
    subst hkl
    refine Wc.ga 19 [0] ?_
    refine Ar.freezeRow 9 rfl hk5 (fun G8 hle8 hA8 => ?_)
    refine Ar.out1 (.inr rfl) (Ho := []) rfl (.tmp rfl) trivial ?_
    exact ⟨o, r, d, rfl, hA8, hk5.le, hk4.up hle8, rfl⟩
/-- each, of a function that turns one cell from round to round -/
theorem c180S (G : Imm) (a : Option Addr) (c : Nat) (xs : List IV) (g bk : Nat) (cap : List Value) (P : Nat → Int) (hg : isFn Tryz.prog g) (ha : Arr G a xs) (hl : xs.length ≤ 1048576)
    (hf : ∀ k : Nat, k < xs.length → ∀ G', G.le G' → Does Tryz.prog g ([] ++ [.agg (Cells.enc (xs[((k : Nat) : Int).toNat]?.getD default)).toArray] ++ cap) G' [(0, some bk, .cells #[.int .i64 ((k : Int) - 1)] 3)] (fun v G'' Ho => ∃ r : IV, v = .agg (Cells.enc r).toArray ∧ Big G'' r (P k) ∧ Ho = [(0, some bk, .cells #[.int .i64 (((k + 1 : Nat) : Int) - 1)] 3)])) :
    Does Tryz.prog 180 [.slice a xs.length c, .func (.func g) #[] cap.toArray] G [(0, some bk, .cells #[.int .i64 (-1)] 3)] (fun v G' Ho => ∃ (s : Option Addr) (r : List IV) (d : Nat), v = .slice s r.length d ∧ Arr G' s r ∧ r.length ≤ d ∧ Bigs G' r (upP P xs.length) ∧ Ho = [(0, some bk, .cells #[.int .i64 ((xs.length : Int) - 1)] 3)]) := by
  refine Does.enter Tryz.func180 rfl Tryz.ntmps180 rfl (fun w => ?_)
  refine Wc.nilRow 9 (Row 104 ([] : List IV) []) ?_
  refine Wc.gc 19 [] ?_
  refine Wc.reH 0 (.cells #[.int .i64 (((0 : Nat) : Int) - 1)] 3) rfl rfl ?_
  refine Wc.loopG (ι := Nat × Imm × List IV × (Option Addr × Nat × List Value)) (fun (k, Gx, r, (o, d, j)) => ([(10, .int .i64 (k : Int)), (5, .slice o r.length d), (9, Go.Value.int Go.IntKind.i64 (↑(List.length xs) : Int)), (8, Go.Value.slice a (List.length xs) c), (4, Go.Value.slice Option.none 0 0), (1, Go.Value.func (Go.Fn.func g) #[] (List.toArray cap))], [(0, some bk, .cells #[.int .i64 ((k : Int) - 1)] 3), (9, o.map (·.block), Row 104 r j)])) (fun (k, Gx, r, (o, d, j)) => Gx) (fun (k, Gx, r, (o, d, j)) => k ≤ xs.length ∧ G.le Gx ∧ r.length = k ∧ Bigs Gx r (upP P k) ∧ OwnA o d r j) (fun (k, Gx, r, (o, d, j)) => xs.length - k) ((0, G, [], (none, 0, []))) (⟨Nat.zero_le _, Imm.le_refl _, rfl, ⟨rfl, fun i h => absurd h (by simp)⟩, OwnA.nil⟩) rfl ⟨rfl, rfl, rfl, rfl, rfl, rfl, trivial⟩ ⟨rfl, rfl, trivial⟩ (fun ⟨k, Gx, r, (o, d, j)⟩ => fun (hk : k ≤ xs.length ∧ G.le Gx ∧ r.length = k ∧ Bigs Gx r (upP P k) ∧ OwnA o d r j) => ?_)
  obtain ⟨hk1, hk2, hk3, hk4, hk5⟩ := hk
  replace ha := ha.up hk2
  rcases Nat.lt_or_ge k xs.length with hkl | hkl
  · refine Wc.gl 13 [1] ?_
    refine Wl.q rfl (Qy.at (α := IV) T.sl44 rfl rfl (by assumption) (by omega)) ?_
    refine Wl.q rfl (Qy.loadsG T.agg104 rfl (Arr.elem (by assumption) (by omega)) rfl) ?_
    refine Wl.alloc 10 rfl T.zero104 (fun b1 => ?_)
    refine Wl.gl 7 [10, 10] ?_
    refine Wl.callV (fst := []) (cap := cap) 0 rfl hg rfl rfl (hf k hkl _ hk2) (tags_of ⟨rfl, trivial⟩) (fun v1 G1 Ho1 hle1 hp => ?_)
    obtain ⟨r1, rfl, hr1, rfl⟩ := hp
    refine Wl.lit (α := IV) 11 [(r1)] rfl T.sl44 T.el104 rfl rfl rfl rfl rfl (fun b2 => ?_)
    refine Wl.append (α := IV) 9 rfl T.sl44 T.el104 rfl rfl rfl (by first | assumption | exact OwnA.nil | exact OwnA.made (by simp)) (Src.row 11 rfl) (by first | omega | (simp only [List.length_append, List.length_cons, List.length_nil, maxLen]; omega)) (by first | omega | (simp only [List.length_append, List.length_cons, List.length_nil, maxLen]; omega)) (fun a1 c1 junk1 ho1 => ?_)
    refine Wl.ga 8 [] ?_
    refine Ar.re 10 rfl (show _ = Value.int .i64 ((k + 1 : Nat) : Int) from rfl) ?_
    refine Ar.again ((k + 1, G1, r ++ [r1], (a1, c1, junk1))) ?_ ?_ rfl ⟨rfl, rfl, rfl, rfl, rfl, rfl, trivial⟩ ⟨rfl, rfl, trivial⟩
    · refine ⟨hkl, Imm.le_trans hk2 hle1, by rw [List.length_append, hk3]; rfl, ?_, ho1⟩
      rw [upP_succ]; exact bigs_snoc (hk4.up hle1) hr1
    · show xs.length - (k + 1) < xs.length - k
      omega
  · have hkl : k = xs.length := by omega
    subst hkl
    refine Wc.ga 19 [0] ?_
    refine Ar.freezeRow 9 rfl hk5 (fun G8 hle8 hA8 => ?_)
    refine Ar.out1 (.inr rfl) (Ho := [(0, some bk, .cells #[.int .i64 ((xs.length : Int) - 1)] 3)]) rfl (.tmp rfl) ⟨rfl, trivial⟩ ?_
    exact ⟨o, r, d, rfl, hA8, hk5.le, hk4.up hle8, rfl⟩
end Go.Proofs.YtbppmiimeccclaaGreat
