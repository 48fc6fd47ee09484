/- Parts of the proof (part 5): what the rows' text needs of the texts that lead to it. -/
import Derived.Test.YtbppmiimeccclaaMNd
set_option linter.unusedVariables false
namespace Go.Proofs.Ytbppmiimeccclaa
open Go Go.Sl
def doF (i : Sl.Instr) (σ : Int → Int) : Option Int :=
  if i.op = 2 then some (-σ i.a)
  else if i.op = 3 then some (σ i.a + σ i.b)
  else if i.op = 4 then some (σ i.a - σ i.b)
  else if i.op = 5 ∨ i.op = 7 then some (σ i.a * cst i)
  else if i.op = 6 ∨ i.op = 8 then (if σ i.a % cst i = 0 then some (σ i.a / cst i) else none)
  else some (σ i.a)
def upd (σ : Int → Int) (r v : Int) : Int → Int := fun x => if x = r then v else σ x
theorem upd_at (σ : Int → Int) (r v : Int) : upd σ r v r = v := if_pos rfl
theorem upd_ne (σ : Int → Int) {r x : Int} (v : Int) (h : x ≠ r) : upd σ r v x = σ x := if_neg h
theorem upd_upd (σ : Int → Int) (r v w : Int) : upd (upd σ r v) r w = upd σ r w := by
  funext x; unfold upd; split <;> rfl
theorem upd_self (σ : Int → Int) (r : Int) : upd σ r (σ r) = σ := by
  funext x; unfold upd; split
  · rename_i h; rw [h]
  · rfl
def runF : List Sl.Instr → (Int → Int) → Option (Int → Int)
  | [], σ => some σ
  | i :: l, σ => (doF i σ).bind fun x => runF l (upd σ i.to x)
theorem runF_append (l m : List Sl.Instr) (σ : Int → Int) : runF (l ++ m) σ = (runF l σ).bind (runF m) := by
  induction l generalizing σ with
  | nil => rfl
  | cons i l ih =>
    show (doF i σ).bind (fun x => runF (l ++ m) (upd σ i.to x)) = ((doF i σ).bind fun x => runF l (upd σ i.to x)).bind (runF m)
    cases doF i σ with
    | none => rfl
    | some x => exact ih _
theorem runF_seq {l m : List Sl.Instr} {σ σ1 σ2 : Int → Int} (h1 : runF l σ = some σ1) (h2 : runF m σ1 = some σ2) : runF (l ++ m) σ = some σ2 := by
  rw [runF_append, h1]; exact h2
theorem runF_one {i : Sl.Instr} {σ : Int → Int} {x : Int} (h : doF i σ = some x) : runF [i] σ = some (upd σ i.to x) := by
  show (doF i σ).bind (fun x => some (upd σ i.to x)) = _
  rw [h]; rfl
theorem run_add (to a b : Int) (σ : Int → Int) : runF [⟨3, to, a, b, 0⟩] σ = some (upd σ to (σ a + σ b)) := runF_one rfl
theorem run_sub (to a b : Int) (σ : Int → Int) : runF [⟨4, to, a, b, 0⟩] σ = some (upd σ to (σ a - σ b)) := runF_one rfl
theorem times_run (to x c : Int) (σ : Int → Int) : runF (timesI to x c) σ = some (upd σ to (c * σ x)) := by
  unfold timesI
  by_cases h0 : c = 0
  · rw [if_pos h0, run_sub, h0, Int.sub_self, Int.zero_mul]
  rw [if_neg h0]
  by_cases h1 : c = 1 ∧ to = x
  · rw [if_pos h1, h1.1, h1.2, Int.one_mul, upd_self]; rfl
  rw [if_neg h1]
  by_cases h2 : c = 1
  · rw [if_pos h2, h2, Int.one_mul]; rfl
  rw [if_neg h2]
  by_cases h3 : c = -1
  · rw [if_pos h3, h3, Int.neg_mul, Int.one_mul]; rfl
  rw [if_neg h3]
  refine (runF_one (x := σ x * c) ?_).trans (by rw [Int.mul_comm])
  unfold doF
  rw [if_neg (show ¬ ((5 : Int) = 2) by decide), if_neg (show ¬ ((5 : Int) = 3) by decide), if_neg (show ¬ ((5 : Int) = 4) by decide), if_pos (.inl rfl), cst_c (.inl rfl)]
theorem over_run (to c : Int) (σ : Int → Int) (hc : c ≠ 0) (hd : c ∣ σ to) : runF (overI to c) σ = some (upd σ to (σ to / c)) := by
  unfold overI
  by_cases h1 : c = 1
  · rw [if_pos h1, h1, Int.ediv_one, upd_self]; rfl
  rw [if_neg h1]
  by_cases h2 : c = -1
  · rw [if_pos h2, h2, Int.ediv_neg, Int.ediv_one]; rfl
  rw [if_neg h2]
  refine runF_one ?_
  unfold doF
  rw [if_neg (show ¬ ((6 : Int) = 2) by decide), if_neg (show ¬ ((6 : Int) = 3) by decide), if_neg (show ¬ ((6 : Int) = 4) by decide), if_neg (show ¬ ((6 : Int) = 5 ∨ (6 : Int) = 7) by decide), if_pos (.inl rfl), cst_c (.inr rfl)]
  exact if_pos (Int.emod_eq_zero_of_dvd hd)
/-- .. so often -/
theorem over_many (to g : Int) (hg : g ≠ 0) : ∀ (m : Nat) (σ : Int → Int) (v : Int), σ to = g ^ m * v → runF ((List.replicate m (overI to g)).flatten) σ = some (upd σ to v)
  | 0, σ, v, h => by
    rw [Int.pow_zero, Int.one_mul] at h
    rw [← h, upd_self]; rfl
  | m + 1, σ, v, h => by
    have e : σ to = g * (g ^ m * v) := by rw [h, Int.pow_succ]; ac_rfl
    rw [List.replicate_succ, List.flatten_cons]
    refine (runF_seq (over_run to g σ hg ⟨_, e⟩) (over_many to g hg m _ v ?_)).trans ?_
    · rw [upd_at, e, Int.mul_ediv_cancel_left _ hg]
    · rw [upd_upd]
def powL (to c : Int) : Int → Int → Nat → List Sl.Instr
  | fr, k, 0 => timesI to fr k
  | fr, k, e + 1 => if 512 < k * c ∨ k * c < -512 then timesI to fr k ++ powL to c to c e else powL to c fr (k * c) e
def powI (to a c : Int) (e : Nat) : List Sl.Instr :=
  if (c = 0 ∧ 0 < e) ∨ c = 1 ∨ c = -1 then timesI to a (if c = -1 ∧ e % 2 = 0 then 1 else c) else powL to c a 1 e
theorem powL_run (to c : Int) : ∀ (e : Nat) (fr k : Int) (σ : Int → Int), runF (powL to c fr k e) σ = some (upd σ to (σ fr * (k * c ^ e)))
  | 0, fr, k, σ => by
    unfold powL
    rw [times_run, Int.pow_zero, Int.mul_one, Int.mul_comm]
  | e + 1, fr, k, σ => by
    unfold powL
    split
    · refine (runF_seq (times_run to fr k σ) (powL_run to c e to c _)).trans ?_
      rw [upd_upd, upd_at]
      congr 2
      rw [Int.pow_succ]; ac_rfl
    · rw [powL_run to c e fr (k * c) σ]
      congr 2
      rw [Int.pow_succ]; ac_rfl
theorem neg_one_pow (e : Nat) : (-1 : Int) ^ e = if e % 2 = 0 then 1 else -1 := by
  induction e with
  | zero => rfl
  | succ e ih =>
    rw [Int.pow_succ, ih]
    by_cases h : e % 2 = 0
    · rw [if_pos h, if_neg (by omega)]; rfl
    · rw [if_neg h, if_pos (by omega)]; rfl
theorem powI_run (to a c : Int) (e : Nat) (σ : Int → Int) : runF (powI to a c e) σ = some (upd σ to (σ a * c ^ e)) := by
  unfold powI
  by_cases h : (c = 0 ∧ 0 < e) ∨ c = 1 ∨ c = -1
  · rw [if_pos h, times_run]
    congr 2
    rw [Int.mul_comm]
    congr 1
    rcases h with ⟨rfl, h⟩ | rfl | rfl
    · rw [if_neg (fun h => absurd h.1 (by decide)), Int.zero_pow (by omega)]
    · rw [if_neg (fun h => absurd h.1 (by decide)), Int.one_pow]
    · rw [neg_one_pow]
      by_cases he : e % 2 = 0
      · rw [if_pos ⟨rfl, he⟩, if_pos he]
      · rw [if_neg (fun h => he h.2), if_neg he]
  · rw [if_neg h, powL_run, Int.one_mul]
def ptW (wh : List R2) (k : Int) : R2 := wh[k.toNat]?.getD default
/-- what the linear form of the point k is worth at the point i -/
def linC (wh : List R2) (k i : Int) : Int := bezS (ptW wh k).a (ptW wh k).b * (ptW wh i).a + bezT (ptW wh k).a (ptW wh k).b * (ptW wh i).b
def detC (wh : List R2) (k i : Int) : Int := (ptW wh k).a * (ptW wh i).b - (ptW wh i).a * (ptW wh k).b
def awayOne (n : Int) (wh : List R2) (k : Int) (e : Nat) (i : Int) : List Sl.Instr :=
  (if linC wh k i ≠ 0 ∨ e = 0 then powI (3 * n) k (linC wh k i) e ++ [⟨4, i, i, 3 * n, 0⟩] else []) ++ (if detC wh k i = 1 then [] else overI i (detC wh k i))
def awayI (n : Int) (wh : List R2) (k : Int) (e : Nat) : List Int → List Sl.Instr
  | [] => []
  | i :: left => awayOne n wh k e i ++ awayI n wh k e left
theorem awayOne_run {n : Int} {wh : List R2} {k : Int} {e : Nat} {i : Int} {σ : Int → Int} {y : Int} (hk : k ≠ 3 * n) (hi : i ≠ 3 * n) (hd : detC wh k i ≠ 0) (hy : σ i - σ k * linC wh k i ^ e = detC wh k i * y) :
    ∃ σ', runF (awayOne n wh k e i) σ = some σ' ∧ σ' i = y ∧ ∀ r, r ≠ i → r ≠ 3 * n → σ' r = σ r := by
  obtain ⟨σ1, h1, h2, h3⟩ : ∃ σ1, runF (if linC wh k i ≠ 0 ∨ e = 0 then powI (3 * n) k (linC wh k i) e ++ [⟨4, i, i, 3 * n, 0⟩] else []) σ = some σ1 ∧ σ1 i = detC wh k i * y ∧ ∀ r, r ≠ i → r ≠ 3 * n → σ1 r = σ r := by
    by_cases h : linC wh k i ≠ 0 ∨ e = 0
    · rw [if_pos h]
      refine ⟨_, runF_seq (powI_run _ _ _ _ _) (run_sub _ _ _ _), ?_, fun r h1 h2 => ?_⟩
      · rw [upd_at, upd_at, upd_ne _ _ hi, hy]
      · rw [upd_ne _ _ h1, upd_ne _ _ h2]
    · rw [if_neg h]
      refine ⟨σ, rfl, ?_, fun _ _ _ => rfl⟩
      have hl : linC wh k i = 0 := Classical.byContradiction fun x => h (.inl x)
      have he : e ≠ 0 := fun x => h (.inr x)
      rw [← hy, hl, Int.zero_pow he, Int.mul_zero, Int.sub_zero]
  unfold awayOne
  by_cases h : detC wh k i = 1
  · rw [if_pos h, List.append_nil]
    exact ⟨σ1, h1, by rw [h2, h, Int.one_mul], h3⟩
  · rw [if_neg h]
    refine ⟨_, runF_seq h1 (over_run i (detC wh k i) σ1 hd ⟨y, h2⟩), ?_, fun r g1 g2 => ?_⟩
    · rw [upd_at, h2, Int.mul_ediv_cancel_left _ hd]
    · rw [upd_ne _ _ g1]; exact h3 r g1 g2
theorem awayI_run {n : Int} {wh : List R2} {k : Int} {e : Nat} (hk : k ≠ 3 * n) (y : Int → Int) : ∀ (left : List Int) (σ : Int → Int), left.Nodup → k ∉ left → (∀ i ∈ left, i ≠ 3 * n ∧ detC wh k i ≠ 0 ∧ σ i - σ k * linC wh k i ^ e = detC wh k i * y i) →
    ∃ σ', runF (awayI n wh k e left) σ = some σ' ∧ (∀ i ∈ left, σ' i = y i) ∧ ∀ r, r ∉ left → r ≠ 3 * n → σ' r = σ r
  | [], σ, _, _, _ => ⟨σ, rfl, fun i h => (by cases h), fun _ _ _ => rfl⟩
  | i :: left, σ, hn, hkl, h => by
    obtain ⟨hn1, hn2⟩ := List.nodup_cons.1 hn
    obtain ⟨g1, g2, g3⟩ := h i List.mem_cons_self
    obtain ⟨σ1, a1, a2, a3⟩ := awayOne_run hk g1 g2 g3
    have hki : k ≠ i := fun e => hkl (by rw [e]; exact List.mem_cons_self)
    obtain ⟨σ2, b1, b2, b3⟩ := awayI_run hk y left σ1 hn2 (fun x => hkl (List.mem_cons_of_mem _ x)) (fun j hj => by
      obtain ⟨k1, k2, k3⟩ := h j (List.mem_cons_of_mem _ hj)
      have hji : j ≠ i := fun e => hn1 (e ▸ hj)
      refine ⟨k1, k2, ?_⟩
      rw [a3 j hji k1, a3 k hki hk]; exact k3)
    refine ⟨σ2, runF_seq a1 b1, fun j hj => ?_, fun r hr hr2 => ?_⟩
    · rcases List.mem_cons.1 hj with rfl | hj
      · rw [b3 j hn1 g1, a2]
      · exact b2 j hj
    · rw [b3 r (fun x => hr (List.mem_cons_of_mem _ x)) hr2, a3 r (fun x => hr (by rw [x]; exact List.mem_cons_self)) hr2]
def rStep (n u v : Int) (th : List Bool) (j : Nat) : List Bool × List Sl.Instr :=
  let low := decide (0 < j) && th[j - 1]?.getD false && decide (u ≠ 0)
  let own := th[j]?.getD false && decide (v ≠ 0)
  (th.set j (own || low),
   (if low then timesI (3 * n) (2 * n + (j - 1)) u else []) ++
   (if own && low then timesI (2 * n + j) (2 * n + j) v ++ [⟨3, 2 * n + j, 2 * n + j, 3 * n, 0⟩] else if own then timesI (2 * n + j) (2 * n + j) v else if low then timesI (2 * n + j) (3 * n) 1 else []))
/-- the places m - 1 down to 0 -/
def rIn (n u v : Int) : Nat → List Bool → List Bool × List Sl.Instr
  | 0, th => (th, [])
  | m + 1, th => ((rIn n u v m (rStep n u v th m).1).1, (rStep n u v th m).2 ++ (rIn n u v m (rStep n u v th m).1).2)
/-- m times, from the power d on -/
def rOut (n u v : Int) : Nat → Nat → List Bool → List Bool × List Sl.Instr
  | 0, _, th => (th, [])
  | m + 1, d, th => ((rOut n u v m (d + 1) (rIn n u v (d + 1) th).1).1, (rIn n u v (d + 1) th).2 ++ (rOut n u v m (d + 1) (rIn n u v (d + 1) th).1).2)
def raisedT (n u v : Int) (e : Nat) : List Bool := (rOut n u v e 1 ((List.replicate (e + 1) false).set 0 true)).1
def raisedI (n u v k : Int) (e : Nat) : List Sl.Instr := timesI (2 * n) k 1 ++ (rOut n u v e 1 ((List.replicate (e + 1) false).set 0 true)).2
/-- the place j says x -/
def Rep (n : Int) (th : List Bool) (σ : Int → Int) (j : Nat) (x : Int) : Prop := (th[j]?.getD false = true → σ (2 * n + j) = x) ∧ (th[j]?.getD false = false → x = 0)
theorem rStep_len (n u v : Int) (th : List Bool) (j : Nat) : (rStep n u v th j).1.length = th.length := List.length_set
theorem rStep_other (n u v : Int) (th : List Bool) {j i : Nat} (h : i ≠ j) : (rStep n u v th j).1[i]? = th[i]? := by
  show (th.set j _)[i]? = _
  rw [List.getElem?_set, if_neg (fun e => h e.symm)]
theorem rStep_run {n u v : Int} {th : List Bool} {j : Nat} {σ : Int → Int} {x y : Int} (hj : j < th.length) (hn : (j : Int) < n) (hx : Rep n th σ j x) (hy : 0 < j → Rep n th σ (j - 1) y) (hy0 : j = 0 → y = 0) :
    ∃ σ', runF (rStep n u v th j).2 σ = some σ' ∧ Rep n (rStep n u v th j).1 σ' j (v * x + u * y) ∧ ∀ r, r ≠ 2 * n + j → r ≠ 3 * n → σ' r = σ r := by
  have hne : (2 * n + j : Int) ≠ 3 * n := by omega
  have hset : ∀ b : Bool, (th.set j b)[j]?.getD false = b := fun b => by rw [List.getElem?_set, if_pos rfl, if_pos hj]; rfl
  have hown : (th[j]?.getD false && decide (v ≠ 0)) = false → v * x = 0 := fun h => by
    rcases Bool.and_eq_false_iff.1 h with h | h
    · rw [hx.2 h, Int.mul_zero]
    · rw [Classical.byContradiction fun h2 => of_decide_eq_false h h2, Int.zero_mul]
  have hown1 : (th[j]?.getD false && decide (v ≠ 0)) = true → σ (2 * n + j) = x := fun h => hx.1 (Bool.and_eq_true_iff.1 h).1
  have hlow : (decide (0 < j) && th[j - 1]?.getD false && decide (u ≠ 0)) = false → u * y = 0 := fun h => by
    by_cases hj0 : j = 0
    · rw [hy0 hj0, Int.mul_zero]
    rcases Bool.and_eq_false_iff.1 h with h | h
    · rcases Bool.and_eq_false_iff.1 h with h | h
      · exact absurd (by omega) (of_decide_eq_false h)
      · rw [(hy (by omega)).2 h, Int.mul_zero]
    · rw [Classical.byContradiction fun h2 => of_decide_eq_false h h2, Int.zero_mul]
  have hlow1 : (decide (0 < j) && th[j - 1]?.getD false && decide (u ≠ 0)) = true → σ (2 * n + ((j : Int) - 1)) = y := fun h => by
    have h2 := (Bool.and_eq_true_iff.1 h).1
    have h3 := Bool.and_eq_true_iff.1 h2
    have hj1 : 0 < j := of_decide_eq_true h3.1
    have := (hy hj1).1 h3.2
    rw [show ((j : Int) - 1) = ((j - 1 : Nat) : Int) by omega]; exact this
  unfold rStep
  simp only
  generalize (decide (0 < j) && th[j - 1]?.getD false && decide (u ≠ 0)) = low at *
  generalize (th[j]?.getD false && decide (v ≠ 0)) = own at *
  cases low <;> cases own
  · refine ⟨σ, rfl, ⟨fun h => ?_, fun _ => ?_⟩, fun _ _ _ => rfl⟩
    · rw [hset] at h; cases h
    · rw [hown rfl, hlow rfl]; rfl
  · refine ⟨_, times_run _ _ _ _, ⟨fun _ => ?_, fun h => ?_⟩, fun r h1 h2 => upd_ne _ _ h1⟩
    · rw [upd_at, hown1 rfl, hlow rfl, Int.add_zero]
    · rw [hset] at h; cases h
  · refine ⟨_, runF_seq (m := timesI (2 * n + j) (3 * n) 1) (times_run _ _ _ _) (times_run _ _ _ _), ⟨fun _ => ?_, fun h => ?_⟩, fun r h1 h2 => ?_⟩
    · rw [upd_at, upd_at, hlow1 rfl, hown rfl, Int.zero_add, Int.one_mul]
    · rw [hset] at h; cases h
    · rw [upd_ne _ _ h1, upd_ne _ _ h2]
  · have h9 := runF_seq (times_run (3 * n) (2 * n + (j - 1)) u σ) (runF_seq (times_run (2 * n + j) (2 * n + j) v _) (run_add (2 * n + j) (2 * n + j) (3 * n) _))
    refine ⟨_, h9, ⟨fun _ => ?_, fun h => ?_⟩, fun r h1 h2 => ?_⟩
    · rw [upd_at, upd_at, upd_ne _ _ hne, upd_ne _ _ (Ne.symm hne), upd_at, hown1 rfl, hlow1 rfl]
    · rw [hset] at h; cases h
    · rw [upd_ne _ _ h1, upd_ne _ _ h1, upd_ne _ _ h2]
/-- a form's coefficients by u X + v Y -/
def nx (u v : Int) (C : Nat → Int) (j : Nat) : Int := v * C j + u * (if j = 0 then 0 else C (j - 1))
theorem rep_frame {n : Int} {th th' : List Bool} {σ σ' : Int → Int} {j : Nat} {x : Int} (h : Rep n th σ j x) (ht : th'[j]? = th[j]?) (hs : σ' (2 * n + j) = σ (2 * n + j)) : Rep n th' σ' j x := by
  unfold Rep at *
  rw [ht, hs]; exact h
theorem rIn_run {n u v : Int} {C : Nat → Int} : ∀ (m : Nat) (th : List Bool) (σ : Int → Int), m ≤ th.length → (m : Int) ≤ n → (∀ j, j < m → Rep n th σ j (C j)) →
    ∃ σ', runF (rIn n u v m th).2 σ = some σ' ∧ (rIn n u v m th).1.length = th.length ∧ (∀ j, j < m → Rep n (rIn n u v m th).1 σ' j (nx u v C j)) ∧ (∀ j, m ≤ j → (rIn n u v m th).1[j]? = th[j]?) ∧ (∀ r, (∀ j : Nat, j < m → r ≠ 2 * n + j) → r ≠ 3 * n → σ' r = σ r)
  | 0, th, σ, _, _, _ => ⟨σ, rfl, rfl, fun j h => (by omega), fun _ _ => rfl, fun _ _ _ => rfl⟩
  | m + 1, th, σ, hl, hn, h => by
    obtain ⟨σ1, a1, a2, a3⟩ := rStep_run (u := u) (v := v) (y := if m = 0 then 0 else C (m - 1)) (show m < th.length by omega) (by omega) (h m (by omega)) (fun hm => by rw [if_neg (by omega)]; exact h (m - 1) (by omega)) (fun hm => if_pos hm)
    obtain ⟨σ2, b1, b2, b3, b4, b5⟩ := rIn_run (u := u) (v := v) (C := C) m (rStep n u v th m).1 σ1 (by rw [rStep_len]; omega) (by omega) (fun j hj => rep_frame (h j (by omega)) (rStep_other n u v th (by omega)) (a3 _ (by omega) (by omega)))
    refine ⟨σ2, runF_seq a1 b1, by rw [← rStep_len n u v th m]; exact b2, fun j hj => ?_, fun j hj => ?_, fun r hr hr2 => ?_⟩
    · rcases Nat.lt_or_ge j m with hjm | hjm
      · exact b3 j hjm
      · have e : j = m := by omega
        subst e
        exact rep_frame a2 (b4 j (Nat.le_refl _)) (b5 _ (fun i hi => by omega) (by omega))
    · exact (b4 j (by omega)).trans (rStep_other n u v th (by omega))
    · rw [b5 r (fun j hj => hr j (by omega)) hr2, a3 r (hr m (by omega)) hr2]
def nxs (u v : Int) : Nat → (Nat → Int) → Nat → Int
  | 0, C => C
  | m + 1, C => nxs u v m (nx u v C)
theorem rOut_run {n u v : Int} : ∀ (m d : Nat) (th : List Bool) (σ : Int → Int) (C : Nat → Int), d + m ≤ th.length → (th.length : Int) ≤ n → (∀ j, d ≤ j → C j = 0) → (∀ j, j < th.length → Rep n th σ j (C j)) → (∀ j, d ≤ j → th[j]?.getD false = false) →
    ∃ σ', runF (rOut n u v m d th).2 σ = some σ' ∧ (rOut n u v m d th).1.length = th.length ∧ (∀ j, j < th.length → Rep n (rOut n u v m d th).1 σ' j (nxs u v m C j)) ∧ (∀ r, (∀ j : Nat, j < th.length → r ≠ 2 * n + j) → r ≠ 3 * n → σ' r = σ r)
  | 0, d, th, σ, C, _, _, _, h, _ => ⟨σ, rfl, rfl, h, fun _ _ _ => rfl⟩
  | m + 1, d, th, σ, C, hl, hn, hC, h, hf => by
    obtain ⟨σ1, a1, a2, a3, a4, a5⟩ := rIn_run (u := u) (v := v) (C := C) (d + 1) th σ (by omega) (by omega) (fun j hj => h j (by omega))
    have hC' : ∀ j, d + 1 ≤ j → nx u v C j = 0 := fun j hj => by
      unfold nx
      rw [if_neg (by omega), hC j (by omega), hC (j - 1) (by omega), Int.mul_zero, Int.mul_zero]; rfl
    have hf' : ∀ j, d + 1 ≤ j → (rIn n u v (d + 1) th).1[j]?.getD false = false := fun j hj => by rw [a4 j hj]; exact hf j (by omega)
    obtain ⟨σ2, b1, b2, b3, b4⟩ := rOut_run (u := u) (v := v) m (d + 1) (rIn n u v (d + 1) th).1 σ1 (nx u v C) (by rw [a2]; omega) (by rw [a2]; exact hn) hC' (fun j hj => by
      rcases Nat.lt_or_ge j (d + 1) with hjd | hjd
      · exact a3 j hjd
      · exact ⟨fun x => (by rw [hf' j hjd] at x; cases x), fun _ => hC' j hjd⟩) hf'
    refine ⟨σ2, runF_seq a1 b1, by rw [← a2]; exact b2, fun j hj => b3 j (by rw [a2]; exact hj), fun r hr hr2 => ?_⟩
    rw [b4 r (fun j hj => hr j (by rw [← a2]; exact hj)) hr2, a5 r (fun j hj => hr j (by omega)) hr2]
/-- a form's coefficient -/
def co (f : List Int) (j : Nat) : Int := f[j]?.getD 0
theorem byLin_co (p q : Int) : ∀ (f : List Int) (last : Int) (j : Nat), co (byLin p q last f) j = p * co f j - q * (if j = 0 then last else co f (j - 1))
  | [], last, 0 => by show -(q * last) = p * 0 - q * last; rw [Int.mul_zero]; omega
  | [], last, j + 1 => by show (0 : Int) = p * 0 - q * 0; rw [Int.mul_zero, Int.mul_zero]; rfl
  | c :: f, last, 0 => rfl
  | c :: f, last, j + 1 => by
    show co (byLin p q c f) j = p * co f j - q * co (c :: f) j
    rw [byLin_co p q f c j]
    cases j <;> rfl
theorem linPow_co (u v : Int) (e : Nat) : co (linPow u v (e + 1)) = nx u v (co (linPow u v e)) := by
  funext j
  show co (byLin v (-u) 0 (linPow u v e)) j = _
  rw [byLin_co]
  unfold nx
  rw [Int.neg_mul, Int.sub_neg]
theorem nx_scale (u v y : Int) (C : Nat → Int) : nx u v (fun j => y * C j) = fun j => y * nx u v C j := by
  funext j
  unfold nx
  rw [Int.mul_add]
  split
  · rw [Int.mul_zero, Int.mul_zero]; congr 1; ac_rfl
  · congr 1 <;> ac_rfl
theorem nxs_lin (u v y : Int) : ∀ (m e : Nat), nxs u v m (fun j => y * co (linPow u v e) j) = fun j => y * co (linPow u v (e + m)) j
  | 0, e => rfl
  | m + 1, e => by
    show nxs u v m (nx u v fun j => y * co (linPow u v e) j) = _
    rw [nx_scale, ← linPow_co, nxs_lin u v y m (e + 1), show e + 1 + m = e + (m + 1) by omega]
theorem raised_len (n u v : Int) : ∀ (m : Nat) (th : List Bool), (rIn n u v m th).1.length = th.length
  | 0, _ => rfl
  | m + 1, th => by show (rIn n u v m _).1.length = _; rw [raised_len, rStep_len]
theorem rOut_len (n u v : Int) : ∀ (m d : Nat) (th : List Bool), (rOut n u v m d th).1.length = th.length
  | 0, _, _ => rfl
  | m + 1, d, th => by show (rOut n u v m _ _).1.length = _; rw [rOut_len, raised_len]
theorem raisedT_len (n u v : Int) (e : Nat) : (raisedT n u v e).length = e + 1 := by unfold raisedT; rw [rOut_len, List.length_set, List.length_replicate]
theorem raised_run {n u v k : Int} {e : Nat} {σ : Int → Int} (he : (e : Int) < n) :
    ∃ σ', runF (raisedI n u v k e) σ = some σ' ∧ (∀ j, j ≤ e → Rep n (raisedT n u v e) σ' j (σ k * co (linPow u v e) j)) ∧ ∀ r, r < 2 * n → σ' r = σ r := by
  have hl : ((List.replicate (e + 1) false).set 0 true).length = e + 1 := by rw [List.length_set, List.length_replicate]
  have hget : ∀ j : Nat, ((List.replicate (e + 1) false).set 0 true)[j]?.getD false = decide (j = 0) := fun j => by
    rw [List.getElem?_set]
    split
    · rename_i h; subst h
      rw [if_pos (by rw [List.length_replicate]; omega)]; rfl
    · rename_i h
      rw [List.getElem?_replicate, decide_eq_false (fun e => h e.symm)]
      split <;> rfl
  have e0 : ∀ j : Nat, σ k * co (linPow u v 0) j = if j = 0 then σ k else 0 := fun j => by
    cases j with
    | zero => show σ k * 1 = _; rw [Int.mul_one]; rfl
    | succ j => show σ k * 0 = _; rw [Int.mul_zero]; rfl
  obtain ⟨σ', h1, h2, h3, h4⟩ := rOut_run (n := n) (u := u) (v := v) e 1 ((List.replicate (e + 1) false).set 0 true) (upd σ (2 * n) (1 * σ k)) (fun j => σ k * co (linPow u v 0) j) (by rw [hl]; omega) (by rw [hl]; omega) (fun j hj => by simp only [e0]; exact if_neg (by omega))
    (fun j hj => by
      unfold Rep
      rw [hget, e0]
      by_cases hj0 : j = 0
      · subst hj0
        refine ⟨fun _ => ?_, fun h => (by cases h)⟩
        show upd σ (2 * n) (1 * σ k) (2 * n + ((0 : Nat) : Int)) = σ k
        rw [show (2 * n + ((0 : Nat) : Int)) = 2 * n by omega, upd_at, Int.one_mul]
      · rw [decide_eq_false hj0, if_neg hj0]
        exact ⟨fun h => (by cases h), fun _ => rfl⟩) (fun j hj => by rw [hget]; exact decide_eq_false (by omega))
  refine ⟨σ', runF_seq (times_run _ _ _ _) h1, fun j hj => ?_, fun r hr => ?_⟩
  · have := h3 j (by rw [hl]; omega)
    rw [nxs_lin, Nat.zero_add] at this
    exact this
  · rw [h4 r (fun j _ => by omega) (by omega), upd_ne _ _ (by omega)]
def bkIn (n : Int) (p : R2) : Nat → List Sl.Instr
  | 0 => []
  | j + 1 => (if 0 < j then timesI (3 * n) (n + ((j : Int) - 1)) p.b else []) ++ (timesI (n + j) (n + j) p.a ++ ((if 0 < j then [⟨4, n + j, n + j, 3 * n, 0⟩] else []) ++ bkIn n p j))
def backA (n : Int) (p : R2) (e : Nat) : List Sl.Instr := timesI (n + e) (n + ((e : Int) - 1)) (-p.b) ++ bkIn n p e
def addAll (n : Int) : List Bool → Nat → List Sl.Instr
  | [], _ => []
  | t :: ts, j => (if t then [⟨3, n + j, n + j, 2 * n + j, 0⟩] else []) ++ addAll n ts (j + 1)
def backI (n : Int) (wh : List R2) (k : Int) (e : Nat) : List Sl.Instr :=
  backA n (ptW wh k) e ++ (raisedI n (bezS (ptW wh k).a (ptW wh k).b) (bezT (ptW wh k).a (ptW wh k).b) k e ++ addAll n (raisedT n (bezS (ptW wh k).a (ptW wh k).b) (bezT (ptW wh k).a (ptW wh k).b) e) 0)
theorem bkIn_run {n : Int} {p : R2} {c : Nat → Int} : ∀ (m : Nat) (σ : Int → Int), (m : Int) ≤ n → (∀ j : Nat, j < m → σ (n + j) = c j) →
    ∃ σ', runF (bkIn n p m) σ = some σ' ∧ (∀ j : Nat, j < m → σ' (n + j) = p.a * c j - p.b * (if j = 0 then 0 else c (j - 1))) ∧ ∀ r, (∀ j : Nat, j < m → r ≠ n + j) → r ≠ 3 * n → σ' r = σ r
  | 0, σ, _, _ => ⟨σ, rfl, fun j h => (by omega), fun _ _ _ => rfl⟩
  | m + 1, σ, hm, h => by
    obtain ⟨σ1, a1, a2, a3⟩ : ∃ σ1, runF ((if 0 < m then timesI (3 * n) (n + ((m : Int) - 1)) p.b else []) ++ (timesI (n + m) (n + m) p.a ++ (if 0 < m then [⟨4, n + m, n + m, 3 * n, 0⟩] else []))) σ = some σ1 ∧ σ1 (n + m) = p.a * c m - p.b * (if m = 0 then 0 else c (m - 1)) ∧ ∀ r, r ≠ n + m → r ≠ 3 * n → σ1 r = σ r := by
      by_cases hm0 : 0 < m
      · rw [if_pos hm0, if_pos hm0, if_neg (by omega)]
        refine ⟨_, runF_seq (times_run _ _ _ _) (runF_seq (times_run _ _ _ _) (run_sub _ _ _ _)), ?_, fun r h1 h2 => ?_⟩
        · have e1 : σ (n + ((m : Int) - 1)) = c (m - 1) := by
            rw [show ((m : Int) - 1) = ((m - 1 : Nat) : Int) by omega]; exact h (m - 1) (by omega)
          rw [upd_at, upd_at, upd_ne _ _ (by omega), upd_ne _ _ (by omega), upd_at, h m (by omega), e1]
        · rw [upd_ne _ _ h1, upd_ne _ _ h1, upd_ne _ _ h2]
      · rw [if_neg hm0, if_neg hm0, if_pos (by omega), List.nil_append, List.append_nil]
        refine ⟨_, times_run _ _ _ _, ?_, fun r h1 h2 => upd_ne _ _ h1⟩
        rw [upd_at, h m (by omega), Int.mul_zero, Int.sub_zero]
    obtain ⟨σ2, b1, b2, b3⟩ := bkIn_run (n := n) (p := p) (c := c) m σ1 (by omega) (fun j hj => by rw [a3 _ (by omega) (by omega)]; exact h j (by omega))
    refine ⟨σ2, ?_, fun j hj => ?_, fun r hr hr2 => ?_⟩
    · have := runF_seq a1 b1
      rw [List.append_assoc, List.append_assoc] at this
      exact this
    · rcases Nat.lt_or_ge j m with hjm | hjm
      · exact b2 j hjm
      · have e : j = m := by omega
        subst e
        rw [b3 _ (fun i hi => by omega) (by omega)]; exact a2
    · rw [b3 r (fun j hj => hr j (by omega)) hr2, a3 r (hr m (by omega)) hr2]
theorem addAll_run {n : Int} (σ0 : Int → Int) : ∀ (th : List Bool) (j0 : Nat) (σ : Int → Int), ((j0 + th.length : Nat) : Int) ≤ n → (∀ r, (∀ j : Nat, j < j0 → r ≠ n + j) → σ r = σ0 r) →
    ∃ σ', runF (addAll n th j0) σ = some σ' ∧ (∀ j : Nat, j < th.length → σ' (n + (j0 + j : Nat)) = σ0 (n + (j0 + j : Nat)) + (if th[j]?.getD false = true then σ0 (2 * n + (j0 + j : Nat)) else 0)) ∧ ∀ r, (∀ j : Nat, j < th.length → r ≠ n + (j0 + j : Nat)) → σ' r = σ r
  | [], j0, σ, _, _ => ⟨σ, rfl, fun j h => (by simp at h), fun _ _ => rfl⟩
  | t :: th, j0, σ, hn, h0 => by
    rw [List.length_cons] at hn
    obtain ⟨σ1, a1, a2, a3⟩ : ∃ σ1, runF (if t then [⟨3, n + j0, n + j0, 2 * n + j0, 0⟩] else []) σ = some σ1 ∧ σ1 (n + j0) = σ0 (n + j0) + (if t = true then σ0 (2 * n + j0) else 0) ∧ ∀ r, r ≠ n + j0 → σ1 r = σ r := by
      have e1 : σ (n + j0) = σ0 (n + j0) := h0 _ (fun j hj => by omega)
      have e2 : σ (2 * n + j0) = σ0 (2 * n + j0) := h0 _ (fun j hj => by omega)
      cases t
      · exact ⟨σ, rfl, by rw [e1]; exact (Int.add_zero _).symm, fun _ _ => rfl⟩
      · refine ⟨_, run_add _ _ _ _, ?_, fun r hr => upd_ne _ _ hr⟩
        rw [upd_at, e1, e2]; rfl
    obtain ⟨σ2, b1, b2, b3⟩ := addAll_run (n := n) σ0 th (j0 + 1) σ1 (by omega) (fun r hr => by
      rw [a3 r (hr j0 (by omega))]; exact h0 r (fun j hj => hr j (by omega)))
    refine ⟨σ2, runF_seq a1 b1, fun j hj => ?_, fun r hr => ?_⟩
    · rw [List.length_cons] at hj
      cases j with
      | zero =>
        rw [b3 _ (fun j hj => by omega)]
        exact a2
      | succ j =>
        have := b2 j (by omega)
        rw [show j0 + 1 + j = j0 + (j + 1) by omega] at this
        exact this
    · rw [b3 r (fun j hj => by have := hr (j + 1) (by rw [List.length_cons]; omega); rw [show j0 + 1 + j = j0 + (j + 1) by omega]; exact this)]
      refine a3 r ?_
      have := hr 0 (by rw [List.length_cons]; omega)
      exact this
theorem back_run {n : Int} {wh : List R2} {k : Int} {e : Nat} {σ : Int → Int} (f : List Int) (hf : f.length = e) (h1 : 1 ≤ e) (he : (e : Int) < n) (hk : k < n) (hs : ∀ j : Nat, j < e → σ (n + j) = co f j) :
    ∃ σ', runF (backI n wh k e) σ = some σ' ∧ (∀ j : Nat, j ≤ e → σ' (n + j) = co (byLin (ptW wh k).a (ptW wh k).b 0 f) j + σ k * co (linPow (bezS (ptW wh k).a (ptW wh k).b) (bezT (ptW wh k).a (ptW wh k).b) e) j) ∧ ∀ r, r < n → σ' r = σ r := by
  generalize hp : ptW wh k = p
  generalize hu : bezS p.a p.b = u
  generalize hv : bezT p.a p.b = v
  unfold backI
  rw [hp, hu, hv]
  obtain ⟨σ1, a1, a2, a3⟩ := bkIn_run (n := n) (p := p) (c := co f) e (upd σ (n + e) (-p.b * σ (n + ((e : Int) - 1)))) (by omega) (fun j hj => by rw [upd_ne _ _ (by omega)]; exact hs j hj)
  have hA : runF (backA n p e) σ = some σ1 := runF_seq (times_run _ _ _ _) a1
  have hB : ∀ j : Nat, j ≤ e → σ1 (n + j) = co (byLin p.a p.b 0 f) j := fun j hj => by
    rw [byLin_co]
    rcases Nat.lt_or_ge j e with hje | hje
    · exact a2 j hje
    · have e1 : j = e := by omega
      subst e1
      rw [a3 _ (fun i hi => by omega) (by omega), upd_at, if_neg (by omega)]
      have e2 : co f j = 0 := by unfold co; rw [List.getElem?_eq_none (by omega)]; rfl
      have e3 : σ (n + ((j : Int) - 1)) = co f (j - 1) := by
        rw [show ((j : Int) - 1) = ((j - 1 : Nat) : Int) by omega]; exact hs (j - 1) (by omega)
      rw [e2, e3, Int.mul_zero, Int.neg_mul]; omega
  have hC : ∀ r, r < n → σ1 r = σ r := fun r hr => by rw [a3 r (fun j hj => by omega) (by omega), upd_ne _ _ (by omega)]
  obtain ⟨σ2, b1, b2, b3⟩ := raised_run (u := u) (v := v) (k := k) (σ := σ1) he
  obtain ⟨σ3, c1, c2, c3⟩ := addAll_run (n := n) σ2 (raisedT n u v e) 0 σ2 (by rw [raisedT_len]; omega) (fun _ _ => rfl)
  refine ⟨σ3, runF_seq hA (runF_seq b1 c1), fun j hj => ?_, fun r hr => ?_⟩
  · have h2 := c2 j (by rw [raisedT_len]; omega)
    rw [Nat.zero_add] at h2
    rw [h2, b3 _ (by omega), hB j hj]
    congr 1
    obtain ⟨g1, g2⟩ := b2 j hj
    rw [hC k hk] at g1 g2
    cases ht : (raisedT n u v e)[j]?.getD false with
    | true => rw [if_pos rfl]; exact g1 ht
    | false => rw [if_neg (by decide)]; exact (g2 ht).symm
  · rw [c3 r (fun j hj => by omega), b3 r (by omega), hC r hr]
def awayAll (n : Int) (wh : List R2) : List Int → List Sl.Instr
  | [] => []
  | k :: left => awayI n wh k left.length left ++ awayAll n wh left
def backAll (n : Int) (wh : List R2) : List Int → List Sl.Instr
  | [] => []
  | [k] => timesI n k 1
  | k :: i :: left => backAll n wh (i :: left) ++ backI n wh k (i :: left).length
theorem co_less {t : Int} {F G : List Int} (h : F.length = G.length) (j : Nat) : co (lessT t F G) j = co F j - t * co G j := by
  unfold co lessT
  rw [List.getElem?_zipWith]
  rcases Nat.lt_or_ge j F.length with hj | hj
  · rw [List.getElem?_eq_getElem hj, List.getElem?_eq_getElem (show j < G.length by omega)]; rfl
  · rw [List.getElem?_eq_none hj, List.getElem?_eq_none (show G.length ≤ j by omega)]
    show (0 : Int) = 0 - t * 0
    rw [Int.mul_zero]; rfl
theorem smith_run {n : Int} {wh : List R2} : ∀ (o : List Int) (f : List Int) (σ : Int → Int), o.Nodup → o ≠ [] → (∀ k ∈ o, 0 ≤ k ∧ k < n) → (o.length : Int) ≤ n →
    (∀ k ∈ o, Int.gcd (ptW wh k).a (ptW wh k).b = 1 ∧ bezS (ptW wh k).a (ptW wh k).b * (ptW wh k).a + bezT (ptW wh k).a (ptW wh k).b * (ptW wh k).b = 1) → (∀ k ∈ o, ∀ i ∈ o, k ≠ i → detC wh k i ≠ 0) → f.length = o.length → (∀ k ∈ o, σ k = ev f (ptW wh k).a (ptW wh k).b) →
    ∃ σ', runF (awayAll n wh o ++ backAll n wh o) σ = some σ' ∧ (∀ j : Nat, j < f.length → σ' (n + j) = co f j) ∧ ∀ r, r < n → r ∉ o → σ' r = σ r
  | [], f, σ, _, h, _, _, _, _, _, _ => absurd rfl h
  | [k], f, σ, _, _, ho, _, _, _, hf, hv => by
    obtain ⟨c, rfl⟩ : ∃ c, f = [c] := by
      match f, hf with
      | [c], _ => exact ⟨c, rfl⟩
    have hk := ho k (by simp)
    refine ⟨_, (times_run n k 1 σ : runF (timesI n k 1) σ = _), fun j hj => ?_, fun r hr hr2 => upd_ne _ _ (by omega)⟩
    have hj0 : j = 0 := by simpa using hj
    subst hj0
    show upd σ n (1 * σ k) (n + ((0 : Nat) : Int)) = c
    rw [show n + ((0 : Nat) : Int) = n by omega, upd_at, hv k (by simp), Int.one_mul]
    show c * _ ^ 0 + _ * 0 = c
    rw [Int.pow_zero, Int.mul_one, Int.mul_zero, Int.add_zero]
  | k :: i :: left, f, σ, hn, _, ho, hon, hg, hd, hf, hv => by
    obtain ⟨hn1, hn2⟩ := List.nodup_cons.1 hn
    obtain ⟨hk0, hkn⟩ := ho k List.mem_cons_self
    obtain ⟨hgk, hbk⟩ := hg k List.mem_cons_self
    generalize hrest : i :: left = rest at *
    have hrl : 1 ≤ rest.length := by rw [← hrest]; simp
    rw [List.length_cons] at hf hon
    obtain ⟨g, g1, g2, g3⟩ := take_away hgk hbk f rest.length hf
    have hvk := hv k List.mem_cons_self
    obtain ⟨σ1, a1, a2, a3⟩ := awayI_run (n := n) (wh := wh) (k := k) (e := rest.length) (by omega) (fun i => ev g (ptW wh i).a (ptW wh i).b) rest σ hn2 hn1 (fun i hi => by
      have := ho i (List.mem_cons_of_mem _ hi)
      refine ⟨by omega, hd k List.mem_cons_self i (List.mem_cons_of_mem _ hi) (fun e => hn1 (e ▸ hi)), ?_⟩
      rw [hvk, hv i (List.mem_cons_of_mem _ hi)]
      have e2 := g3 (ptW wh i).a (ptW wh i).b
      have e3 : detC wh k i = (ptW wh k).a * (ptW wh i).b - (ptW wh k).b * (ptW wh i).a := by unfold detC; rw [Int.mul_comm (ptW wh i).a]
      rw [e3]
      exact e2)
    obtain ⟨σ2, b1, b2, b3⟩ := smith_run rest g σ1 hn2 (by intro e; rw [e] at hrl; simp at hrl) (fun k hk => ho k (List.mem_cons_of_mem _ hk)) (by omega) (fun k hk => hg k (List.mem_cons_of_mem _ hk)) (fun k hk i hi => hd k (List.mem_cons_of_mem _ hk) i (List.mem_cons_of_mem _ hi)) g1 (fun i hi => a2 i hi)
    have hk2 : σ2 k = σ k := by rw [b3 k hkn hn1, a3 k hn1 (by omega)]
    obtain ⟨σ3, c1, c2, c3⟩ := back_run (wh := wh) (σ := σ2) g g1 hrl (by omega) hkn (fun j hj => b2 j (by omega))
    refine ⟨σ3, ?_, fun j hj => ?_, fun r hr hr2 => ?_⟩
    · have e1 : awayAll n wh (k :: rest) ++ backAll n wh (k :: rest) = awayI n wh k rest.length rest ++ ((awayAll n wh rest ++ backAll n wh rest) ++ backI n wh k rest.length) := by
        have e2 : backAll n wh (k :: rest) = backAll n wh rest ++ backI n wh k rest.length := by rw [← hrest]; rfl
        rw [e2]
        show (awayI n wh k rest.length rest ++ awayAll n wh rest) ++ _ = _
        simp only [List.append_assoc]
      rw [e1]
      exact runF_seq a1 (runF_seq b1 c1)
    · rw [c2 j (by omega), ← g2, hk2, hvk, co_less (by rw [hf, linPow_len])]
      omega
    · rw [c3 r hr, b3 r hr (fun x => hr2 (List.mem_cons_of_mem _ x)), a3 r (fun x => hr2 (List.mem_cons_of_mem _ x)) (by omega)]
end Go.Proofs.Ytbppmiimeccclaa
set_option maxRecDepth 100000
set_option linter.unusedVariables false
namespace Go.Proofs.Ytbppmiimeccclaa
open Go Go.Sl
set_option maxHeartbeats 4000000
theorem c159 (G : Imm) (b : Nat) (n : Int) (ac : Option Addr) (cc : Nat) (code : List Sl.Instr) (j : List Value) (wa : Option Addr) (wn wc : Nat) (to x c : Int) (e : Nat) (ho : OwnA ac cc code j) (hl : (code ++ powI to x c e).length ≤ 1048576) (hc : -512 ≤ c ∧ c ≤ 512) (he : e ≤ 1000) :
    Does Try.prog 159 [.pointer (some ⟨b, 0, none⟩), .int .i64 to, .int .i64 x, .int .i64 c, .int .i64 e] G [(0, some b, .cells #[.int .i64 n, .slice ac code.length cc, .slice wa wn wc] 175), (1, ac.map (·.block), Row 72 code j)]
      (fun v G' Ho => v = .tuple #[] ∧ G' = G ∧ ∃ (a' : Option Addr) (c' : Nat) (j' : List Value), OwnA a' c' (code ++ powI to x c e) j' ∧ Ho = [(0, some b, .cells #[.int .i64 n, .slice a' (code ++ powI to x c e).length c', .slice wa wn wc] 175), (1, a'.map (·.block), Row 72 (code ++ powI to x c e) j')]) := by
  have hl0 : code.length ≤ 1048576 := by rw [List.length_append] at hl; omega
  refine Does.enter Try.func159 rfl Try.ntmps159 rfl (fun w => ?_)
  refine Wc.seq ?_
  refine Wc.seq ?_
  refine Wc.region rfl ?_
  refine Wl.q rfl (Qy.move rfl) ?_
  refine Wl.q rfl (Qy.eql rfl rfl) ?_
  refine Wl.q rfl (Qy.move rfl) ?_
  apply Wl.joinAnd 3 14 17 rfl
  intro hg1
  refine Wl.want rfl rfl ?_
  refine Wl.q rfl (Qy.move rfl) ?_
  refine Wl.want rfl rfl ?_
  refine Wl.q rfl (Qy.gtr rfl rfl) ?_
  refine Wl.q rfl (Qy.pick rfl rfl) ?_
  exact Wl.back 3 0 rfl rfl rfl rfl rfl
  intro hg1
  refine Wl.pass rfl rfl rfl ?_
  refine Wl.pass rfl rfl rfl ?_
  refine Wl.q rfl (Qy.pick rfl rfl) ?_
  exact Wl.back 3 0 rfl rfl rfl rfl rfl
  refine Wl.q rfl (Qy.move rfl) ?_
  apply Wl.joinOr 3 18 21 rfl
  intro hg1
  refine Wl.want rfl rfl ?_
  refine Wl.q rfl (Qy.move rfl) ?_
  refine Wl.want rfl rfl ?_
  refine Wl.q rfl (Qy.eql rfl rfl) ?_
  refine Wl.q rfl (Qy.pick rfl rfl) ?_
  exact Wl.back 3 0 rfl rfl rfl rfl rfl
  intro hg1
  refine Wl.pass rfl rfl rfl ?_
  refine Wl.pass rfl rfl rfl ?_
  refine Wl.q rfl (Qy.pick rfl rfl) ?_
  exact Wl.back 3 0 rfl rfl rfl rfl rfl
  refine Wl.q rfl (Qy.move rfl) ?_
  apply Wl.joinOr 3 22 25 rfl
  intro hg1
  refine Wl.want rfl rfl ?_
  refine Wl.q rfl (Qy.move rfl) ?_
  refine Wl.want rfl rfl ?_
  refine Wl.q rfl (Qy.eql rfl rfl) ?_
  refine Wl.q rfl (Qy.pick rfl rfl) ?_
  exact Wl.back 3 0 rfl rfl rfl rfl rfl
  intro hg1
  refine Wl.pass rfl rfl rfl ?_
  refine Wl.pass rfl rfl rfl ?_
  refine Wl.q rfl (Qy.pick rfl rfl) ?_
  exact Wl.back 3 0 rfl rfl rfl rfl rfl
  refine Wl.done ?_
  refine Ar.next ?_
  refine Wc.cond rfl (fun hc1 => ?_) (fun hc1 => ?_)
  refine Wc.seq ?_
  refine Wc.seq ?_
  refine Wc.region rfl ?_
  refine Wl.q rfl (Qy.move rfl) ?_
  refine Wl.q rfl (Qy.eql rfl rfl) ?_
  refine Wl.q rfl (Qy.move rfl) ?_
  apply Wl.joinAnd 4 28 32 rfl
  intro hg1
  refine Wl.want rfl rfl ?_
  refine Wl.q rfl (Qy.move rfl) ?_
  refine Wl.want rfl rfl ?_
  refine Wl.q rfl (Qy.urem rfl rfl (by omega)) ?_
  refine Wl.want rfl rfl ?_
  refine Wl.q rfl (Qy.eql rfl rfl) ?_
  refine Wl.q rfl (Qy.pick rfl rfl) ?_
  exact Wl.back 4 0 rfl rfl rfl rfl rfl
  intro hg1
  refine Wl.pass rfl rfl rfl ?_
  refine Wl.pass rfl rfl rfl ?_
  refine Wl.pass rfl rfl rfl ?_
  refine Wl.q rfl (Qy.pick rfl rfl) ?_
  exact Wl.back 4 0 rfl rfl rfl rfl rfl
  refine Wl.done ?_
  refine Ar.next ?_
  refine Wc.cond rfl (fun hc2 => ?_) (fun hc2 => ?_)
  refine Wc.region rfl ?_
  refine Wl.q rfl (Qy.assign rfl) ?_
  refine Wl.done ?_
  refine Ar.next ?_
  refine Wc.seq ?_
  refine Wc.region rfl ?_
  refine Wl.q rfl (Qy.move rfl) ?_
  refine Wl.q rfl (Qy.move rfl) ?_
  refine Wl.q rfl (Qy.move rfl) ?_
  refine Wl.q rfl (Qy.move rfl) ?_
  refine Wl.call 0 rfl T.fn126 rfl (c126 _ b n ac cc code j wa wn wc _ _ _ ho hl0) (tags_of ⟨rfl, rfl, trivial⟩) (fun v1 G1 Ho1 hle1 hp => ?_)
  obtain ⟨rfl, rfl, a1, d1, j1, ho1, rfl⟩ := hp
  refine Wl.done ?_
  refine Ar.next ?_
  refine Wc.ret ?_
  refine Ar.passRet ?_
  rotate_left
  refine Wc.skip ?_
  refine Ar.next ?_
  refine Wc.seq ?_
  refine Wc.region rfl ?_
  refine Wl.q rfl (Qy.move rfl) ?_
  refine Wl.q rfl (Qy.move rfl) ?_
  refine Wl.q rfl (Qy.move rfl) ?_
  refine Wl.q rfl (Qy.move rfl) ?_
  refine Wl.call 0 rfl T.fn126 rfl (c126 _ b n ac cc code j wa wn wc _ _ _ ho hl0) (tags_of ⟨rfl, rfl, trivial⟩) (fun v1 G1 Ho1 hle1 hp => ?_)
  obtain ⟨rfl, rfl, a1, d1, j1, ho1, rfl⟩ := hp
  refine Wl.done ?_
  refine Ar.next ?_
  refine Wc.ret ?_
  refine Ar.passRet ?_
  rotate_left
  refine Wc.skip ?_
  refine Ar.next ?_
  refine Wc.seq ?_
  refine Wc.region rfl ?_
  refine Wl.q rfl (Qy.move rfl) ?_
  refine Wl.q rfl (Qy.assign rfl) ?_
  refine Wl.q rfl (Qy.assign rfl) ?_
  refine Wl.done ?_
  refine Ar.next ?_
  refine Wc.seq ?_
  refine Wc.seq ?_
  refine Wc.region rfl ?_
  refine Wl.q rfl (Qy.move rfl) ?_
  refine Wl.q rfl (Qy.move rfl) ?_
  refine Wl.done ?_
  refine Ar.next ?_
  refine Wc.block ?_
  rotate_left
  · have e1 : powI to x c e = timesI to x 1 := by unfold powI; rw [if_pos (by omega), if_pos (by omega)]
    rw [e1]
    refine Ar.out0 (by first | exact .inl rfl | exact .inr rfl) (Ho := [(0, some b, .cells #[.int .i64 n, .slice a1 (code ++ timesI to x 1).length d1, .slice wa wn wc] 175), (1, a1.map (·.block), Row 72 (code ++ timesI to x 1) j1)]) rfl ⟨rfl, rfl, trivial⟩ ?_
    exact ⟨rfl, rfl, a1, d1, j1, ho1, rfl⟩
  · have e1 : powI to x c e = timesI to x c := by unfold powI; rw [if_pos (by omega), if_neg (by omega)]
    rw [e1]
    refine Ar.out0 (by first | exact .inl rfl | exact .inr rfl) (Ho := [(0, some b, .cells #[.int .i64 n, .slice a1 (code ++ timesI to x c).length d1, .slice wa wn wc] 175), (1, a1.map (·.block), Row 72 (code ++ timesI to x c) j1)]) rfl ⟨rfl, rfl, trivial⟩ ?_
    exact ⟨rfl, rfl, a1, d1, j1, ho1, rfl⟩
  · have hT0 : code ++ powL to c x 1 e = code ++ powI to x c e := by unfold powI; rw [if_neg (by omega)]
    generalize code ++ powI to x c e = Tg at *
    refine Wc.loop (ι := Nat × Int × Int × List Sl.Instr × (Option Addr × Nat × List Value)) (fun (t, fr, k, cd, (o, d, q)) => ([(40, .int .i64 (t : Int)), (11, .int .i64 k), (10, .int .i64 fr), (39, Go.Value.int Go.IntKind.i64 (↑e : Int)), (0, Go.Value.pointer (Option.some (Go.Addr.mk b 0 Option.none))), (1, Go.Value.int Go.IntKind.i64 to), (3, Go.Value.int Go.IntKind.i64 c)], [(0, some b, .cells #[.int .i64 n, .slice o cd.length d, .slice wa wn wc] 175), (1, o.map (·.block), Row 72 cd q)])) (fun (t, fr, k, cd, (o, d, q)) => t ≤ e ∧ (-512 ≤ k ∧ k ≤ 512) ∧ cd ++ powL to c fr k (e - t) = Tg ∧ OwnA o d cd q) (fun (t, fr, k, cd, (o, d, q)) => e - t) ((0, x, 1, code, (ac, cc, j))) (⟨Nat.zero_le _, by omega, hT0, ho⟩) ⟨rfl, rfl, rfl, rfl, rfl, rfl, rfl, trivial⟩ ⟨rfl, rfl, trivial⟩ (fun ⟨t, fr, k, cd, (o, d, q)⟩ => fun (hk : t ≤ e ∧ (-512 ≤ k ∧ k ≤ 512) ∧ cd ++ powL to c fr k (e - t) = Tg ∧ OwnA o d cd q) => ?_)
    obtain ⟨ht1, ht2, ht3, ht4⟩ := hk
    have htl : cd.length ≤ 1048576 := by rw [← ht3, List.length_append] at hl; omega
    have hkc : (k * c).natAbs ≤ 512 * 512 := by rw [Int.natAbs_mul]; exact Nat.mul_le_mul (by omega) (by omega)
    have hkc2 : -9223372036854775808 ≤ k * c ∧ k * c ≤ 9223372036854775807 := by omega
    have hkc3 : -9223372036854775808 ≤ 1 * c ∧ 1 * c ≤ 9223372036854775807 := by omega
    rcases Nat.lt_or_ge t e with hte | hte
    · have e2 : e - t = (e - (t + 1)) + 1 := by omega
      rw [e2] at ht3
      unfold powL at ht3
      refine Wc.seq ?_
      refine Wc.region rfl ?_
      refine Wl.q rfl (Qy.lss rfl rfl) ?_
      refine Wl.done ?_
      refine Ar.next ?_
      refine Wc.seq ?_
      refine Wc.condP rfl (by first | assumption | omega) ?_
      refine Wc.skip ?_
      refine Ar.next ?_
      refine Wc.seq ?_
      refine Wc.block ?_
      refine Wc.seq ?_
      refine Wc.seq ?_
      refine Wc.region rfl ?_
      refine Wl.q rfl (Qy.move rfl) ?_
      refine Wl.q rfl (Qy.move rfl) ?_
      refine Wl.q rfl (Qy.mul rfl rfl (by omega)) ?_
      refine Wl.q rfl (Qy.gtr rfl rfl) ?_
      refine Wl.q rfl (Qy.move rfl) ?_
      apply Wl.joinOr 5 46 51 rfl
      intro hg1
      refine Wl.want rfl rfl ?_
      refine Wl.q rfl (Qy.move rfl) ?_
      refine Wl.want rfl rfl ?_
      refine Wl.q rfl (Qy.move rfl) ?_
      refine Wl.want rfl rfl ?_
      refine Wl.q rfl (Qy.mul rfl rfl (by omega)) ?_
      refine Wl.want rfl rfl ?_
      refine Wl.q rfl (Qy.lss rfl rfl) ?_
      refine Wl.q rfl (Qy.pick rfl rfl) ?_
      exact Wl.back 5 0 rfl rfl rfl rfl rfl
      intro hg1
      refine Wl.pass rfl rfl rfl ?_
      refine Wl.pass rfl rfl rfl ?_
      refine Wl.pass rfl rfl rfl ?_
      refine Wl.pass rfl rfl rfl ?_
      refine Wl.q rfl (Qy.pick rfl rfl) ?_
      exact Wl.back 5 0 rfl rfl rfl rfl rfl
      refine Wl.done ?_
      refine Ar.next ?_
      refine Wc.cond rfl (fun hc2 => ?_) (fun hc2 => ?_)
      refine Wc.seq ?_
      refine Wc.region rfl ?_
      refine Wl.q rfl (Qy.move rfl) ?_
      refine Wl.q rfl (Qy.move rfl) ?_
      refine Wl.q rfl (Qy.move rfl) ?_
      refine Wl.q rfl (Qy.move rfl) ?_
      refine Wl.call 0 rfl T.fn126 rfl (c126 _ b n o d cd q wa wn wc _ _ _ ht4 htl) (tags_of ⟨rfl, rfl, trivial⟩) (fun v1 G1 Ho1 hle1 hp => ?_)
      obtain ⟨rfl, rfl, a1, d1, j1, ho1, rfl⟩ := hp
      refine Wl.done ?_
      refine Ar.next ?_
      refine Wc.region rfl ?_
      refine Wl.q rfl (Qy.move rfl) ?_
      refine Wl.q rfl (Qy.assign rfl) ?_
      refine Wl.q rfl (Qy.assign rfl) ?_
      refine Wl.done ?_
      refine Ar.next ?_
      refine Wc.region rfl ?_
      refine Wl.q rfl (Qy.move rfl) ?_
      refine Wl.q rfl (Qy.move rfl) ?_
      refine Wl.q rfl (Qy.mul rfl rfl (by omega)) ?_
      refine Wl.q rfl (Qy.assign rfl) ?_
      refine Wl.done ?_
      refine Ar.outNormal ?_
      refine Ar.next ?_
      refine Wc.region rfl ?_
      refine Wl.q rfl (Qy.add rfl rfl (by omega)) ?_
      refine Wl.q rfl (Qy.move rfl) ?_
      refine Wl.done ?_
      rotate_left
      refine Wc.skip ?_
      refine Ar.next ?_
      refine Wc.region rfl ?_
      refine Wl.q rfl (Qy.move rfl) ?_
      refine Wl.q rfl (Qy.move rfl) ?_
      refine Wl.q rfl (Qy.mul rfl rfl (by omega)) ?_
      refine Wl.q rfl (Qy.assign rfl) ?_
      refine Wl.done ?_
      refine Ar.outNormal ?_
      refine Ar.next ?_
      refine Wc.region rfl ?_
      refine Wl.q rfl (Qy.add rfl rfl (by omega)) ?_
      refine Wl.q rfl (Qy.move rfl) ?_
      refine Wl.done ?_
      rotate_left
      · refine Ar.re 40 rfl (show _ = Value.int .i64 ((t + 1 : Nat) : Int) from rfl) ?_
        refine Ar.re 11 rfl (show _ = Value.int .i64 c by rw [Int.one_mul]) ?_
        refine Ar.again ((t + 1, to, c, cd ++ timesI to fr k, (a1, d1, j1))) ?_ ?_ rfl ⟨rfl, rfl, rfl, rfl, rfl, rfl, rfl, trivial⟩ ⟨rfl, rfl, trivial⟩
        · rw [if_pos hc2, ← List.append_assoc] at ht3
          exact ⟨hte, hc, ht3, ho1⟩
        · show e - (t + 1) < e - t
          omega
      · refine Ar.re 40 rfl (show _ = Value.int .i64 ((t + 1 : Nat) : Int) from rfl) ?_
        refine Ar.again ((t + 1, fr, k * c, cd, (o, d, q))) ?_ ?_ rfl ⟨rfl, rfl, rfl, rfl, rfl, rfl, rfl, trivial⟩ ⟨rfl, rfl, trivial⟩
        · rw [if_neg hc2] at ht3
          exact ⟨hte, by omega, ht3, ht4⟩
        · show e - (t + 1) < e - t
          omega
    · have hte : t = e := by omega
      subst hte
      rw [Nat.sub_self] at ht3
      have ht3 : cd ++ timesI to fr k = Tg := ht3
      subst ht3
      refine Wc.seq ?_
      refine Wc.region rfl ?_
      refine Wl.q rfl (Qy.lss rfl rfl) ?_
      refine Wl.done ?_
      refine Ar.next ?_
      refine Wc.seq ?_
      refine Wc.condN rfl (by first | assumption | omega) ?_
      refine Wc.exit ?_
      refine Ar.passExit ?_
      refine Ar.passExit ?_
      refine Ar.here ?_
      refine Ar.next ?_
      refine Wc.region rfl ?_
      refine Wl.q rfl (Qy.move rfl) ?_
      refine Wl.q rfl (Qy.move rfl) ?_
      refine Wl.q rfl (Qy.move rfl) ?_
      refine Wl.q rfl (Qy.move rfl) ?_
      refine Wl.call 0 rfl T.fn126 rfl (c126 _ b n o d cd q wa wn wc _ _ _ ht4 htl) (tags_of ⟨rfl, rfl, trivial⟩) (fun v1 G1 Ho1 hle1 hp => ?_)
      obtain ⟨rfl, rfl, a1, d1, j1, ho1, rfl⟩ := hp
      refine Wl.done ?_
      refine Ar.out0 (by first | exact .inl rfl | exact .inr rfl) (Ho := [(0, some b, .cells #[.int .i64 n, .slice a1 (cd ++ timesI to fr k).length d1, .slice wa wn wc] 175), (1, a1.map (·.block), Row 72 (cd ++ timesI to fr k) j1)]) rfl ⟨rfl, rfl, trivial⟩ ?_
      exact ⟨rfl, rfl, a1, d1, j1, ho1, rfl⟩
end Go.Proofs.Ytbppmiimeccclaa
set_option maxRecDepth 100000
set_option linter.unusedVariables false
namespace Go.Proofs.Ytbppmiimeccclaa
open Go Go.Sl
section
variable {P : Program} {e : Env} {H : Hp} {G : Imm}
theorem Qy.indexLit {ty : TypeId} {T et : TypeId} {len i : Nat} {x y : Operand} {cs : List Value} {v : Value} (hT : P.underlying T = some (.array len et)) (h1 : P.plainKey et = true) (hs : (P.info? et).map (·.size) = some 1)
    (hx : e.ev x = some (.agg cs.toArray)) (hy : e.ev y = some (.int .i64 (i : Int))) (hi : i < len) (hv : cs[i]? = some v) : Qy P (.index T x y) ty e H G v := fun a w _ _ _ _ hh => by
  have hp : (part et cs.toArray i).run P w = .ok v w := by
    unfold Program.plainKey at h1
    cases hu : P.underlying et with
    | none => simp [hu] at h1
    | some d => cases d <;> simp [hu] at h1 <;> simp [part, isAgg, run_underlying hu, hv, Result.andThen]
  have hsz := Go.Sl.run_sizeOf (P := P) w hs
  have h2 : (0 : Int) ≤ (i : Int) ∧ (i : Int) < (len : Int) := by omega
  simp only [execOp, hh.eval hx, hh.eval hy, Instr.index, asIntOf, Sem.run_bind, Sem.run_pure, Result.andThen_ok, run_underlying hT]
  rw [if_pos h2]
  simp only [Sem.run_bind, hsz, Result.andThen_ok, Int.toNat_natCast, Nat.mul_one, hp, Sem.run_pure]
end
theorem und201 : Try.prog.underlying 201 = some (.array 2 3) := by kernel_rfl
theorem pkey3 : Try.prog.plainKey 3 = true := by kernel_rfl
theorem siz3 : (Try.prog.info? 3).map (·.size) = some 1 := by kernel_rfl
theorem bez_first (a b : Int) : ∀ (n k j : Nat), k ≤ j → j < bezF a b n k → hitB a b (j : Int) = false ∧ hitB a b (-(j : Int)) = false
  | 0, k, j, h1, h2 => by unfold bezF at h2; omega
  | n + 1, k, j, h1, h2 => by
    unfold bezF at h2
    split at h2
    · omega
    · rename_i hh
      by_cases hjk : j = k
      · subst hjk
        cases h3 : hitB a b (j : Int) <;> cases h4 : hitB a b (-(j : Int)) <;> simp [h3, h4] at hh ⊢
      · exact bez_first a b n (k + 1) j (by omega) h2
set_option maxHeartbeats 4000000
theorem c123 (G : Imm) (x y : Int) (hn : near x y) (h0 : ¬ (x = 0 ∧ y = 0)) :
    Does Try.prog 123 [.agg #[.int .i64 x, .int .i64 y]] G [] (fun v G' Ho => v = .tuple #[.int .i64 (Int.gcd x y), .int .i64 (bezS x y), .int .i64 (bezT x y), .int .i64 0] ∧ G' = G ∧ Ho = []) := by
  have hn2 := hn
  unfold near at hn2
  refine Does.enter Try.func123 rfl Try.ntmps123 rfl (fun w => ?_)
  obtain ⟨hb1, hb2, hb3, hb4⟩ := bez_facts hn h0
  have q1 := tdiv_rng x (Int.gcd x y)
  have hg0 : 0 < Int.gcd x y := Nat.pos_of_ne_zero fun h1 => h0 (Int.gcd_eq_zero_iff.mp h1)
  have hg16 : Int.gcd x y ≤ 16 := by
    by_cases ha : x = 0
    · have := Nat.le_of_dvd (by omega) (show Int.gcd x y ∣ y.natAbs from Nat.gcd_dvd_right _ _)
      omega
    · have := Nat.le_of_dvd (by omega) (show Int.gcd x y ∣ x.natAbs from Nat.gcd_dvd_left _ _)
      omega
  refine Wc.seq ?_
  refine Wc.region rfl ?_
  refine Wl.box 0 rfl rfl rfl (fun b1 => ?_)
  refine Wl.q rfl (Qy.assign rfl) ?_
  refine Wl.q rfl (Qy.assign rfl) ?_
  refine Wl.q rfl (Qy.assign rfl) ?_
  refine Wl.q rfl (Qy.assign rfl) ?_
  refine Wl.done ?_
  refine Ar.next ?_
  refine Wc.seq ?_
  refine Wc.region rfl ?_
  refine Wl.q rfl (Qy.fieldAddr T.fa75_0 rfl) ?_
  refine Wl.q rfl (Qy.load 0 T.one3 rfl rfl rfl) ?_
  refine Wl.q rfl (Qy.fieldAddr T.fa75_1 rfl) ?_
  refine Wl.q rfl (Qy.load 0 T.one3 rfl rfl rfl) ?_
  refine Wl.call0 rfl T.fn143 rfl (c143 _ _ _ (by omega) (by omega)) ?_
  refine Wl.q rfl (Qy.assign rfl) ?_
  refine Wl.done ?_
  refine Ar.next ?_
  refine Wc.seq ?_
  refine Wc.block ?_
  refine Wc.seq ?_
  refine Wc.region rfl ?_
  refine Wl.q rfl (Qy.loadAll 0 T.agg75 rfl rfl rfl) ?_
  refine Wl.call0 rfl T.fn71 rfl (c71 _ _ _) ?_
  refine Wl.q rfl (Qy.notD rfl) ?_
  refine Wl.q rfl (Qy.assign rfl) ?_
  refine Wl.done ?_
  refine Ar.next ?_
  refine Wc.cond rfl (fun hc1 => ?_) (fun hc1 => ?_)
  refine Wc.seq ?_
  refine Wc.region rfl ?_
  refine Wl.q rfl (Qy.assign rfl) ?_
  refine Wl.q rfl (Qy.assign rfl) ?_
  refine Wl.q rfl (Qy.assign rfl) ?_
  refine Wl.q rfl (Qy.assign rfl) ?_
  refine Wl.done ?_
  refine Ar.next ?_
  refine Wc.ret ?_
  refine Ar.outRet ?_
  refine Ar.passRet ?_
  refine Ar.out4 (.inr rfl) (Ho := Hp.only _ []) rfl (.tmp rfl) (.tmp rfl) (.tmp rfl) (.tmp rfl) (Hp.sub_only _ _) ?_
  rotate_left
  refine Wc.seq ?_
  refine Wc.region rfl ?_
  refine Wl.q rfl (Qy.move rfl) ?_
  refine Wl.q rfl (Qy.eql rfl rfl) ?_
  refine Wl.q rfl (Qy.assign rfl) ?_
  refine Wl.done ?_
  refine Ar.next ?_
  refine Wc.condN rfl (by first | assumption | omega) ?_
  refine Wc.seq ?_
  refine Wc.region rfl ?_
  refine Wl.q rfl (Qy.fieldAddr T.fa75_1 rfl) ?_
  refine Wl.q rfl (Qy.load 0 T.one3 rfl rfl rfl) ?_
  refine Wl.q rfl (Qy.eql rfl rfl) ?_
  refine Wl.q rfl (Qy.assign rfl) ?_
  refine Wl.done ?_
  refine Ar.next ?_
  refine Wc.cond rfl (fun hc2 => ?_) (fun hc2 => ?_)
  refine Wc.seq ?_
  refine Wc.draw [0] [] T.mixed rfl ?_
  refine Gm.q 0 [] (by kernel_rfl) rfl rfl (Qy.move rfl) ?_
  refine Gm.q 1 [] (by kernel_rfl) rfl rfl (Qy.fieldAddr T.fa75_0 rfl) ?_
  refine Gm.q 2 [0] (by kernel_rfl) rfl rfl (Qy.load 0 T.one3 rfl rfl rfl) ?_
  refine Gm.q 3 [] (by kernel_rfl) rfl rfl (Qy.move rfl) ?_
  refine Gm.q 4 [] (by kernel_rfl) rfl rfl (Qy.quo rfl rfl (by omega) (by omega)) ?_
  refine Gm.q 5 [] (by kernel_rfl) rfl rfl (Qy.assign rfl) ?_
  refine Gm.q 6 [] (by kernel_rfl) rfl rfl (Qy.assign rfl) ?_
  refine Gm.q 7 [] (by kernel_rfl) rfl rfl (Qy.assign rfl) ?_
  refine Gm.q 8 [] (by kernel_rfl) rfl rfl (Qy.assign rfl) ?_
  refine Gm.doneA (by kernel_rfl) ⟨rfl, trivial⟩ (by first | exact Imm.le_refl _ | repeat (first | assumption | refine Imm.le_trans ?_ (by assumption))) ?_
  refine Ar.next ?_
  refine Wc.ret ?_
  refine Ar.outRet ?_
  refine Ar.passRet ?_
  refine Ar.out4 (.inr rfl) (Ho := Hp.only _ []) rfl (.tmp rfl) (.tmp rfl) (.tmp rfl) (.tmp rfl) (Hp.sub_only _ _) ?_
  rotate_left
  refine Wc.skip ?_
  refine Ar.outNormal ?_
  refine Ar.next ?_
  refine Wc.seq ?_
  refine Wc.region rfl ?_
  refine Wl.q rfl (Qy.assign rfl) ?_
  refine Wl.done ?_
  refine Ar.next ?_
  refine Wc.block ?_
  rotate_left
  · exact absurd hn hc1
  · refine ⟨?_, rfl, rfl⟩
    unfold bezS bezT
    rw [if_pos hc2, if_pos hc2]
  · refine Wc.loop (ι := Nat) (fun k => ([(7, .int .i64 (k : Int)), (6, Go.Value.int Go.IntKind.i64 (↑(Int.gcd x y) : Int)), (1, Go.Value.pointer (Option.some (Go.Addr.mk b1 0 Option.none)))], [(0, Option.some b1, Go.Obj.cells #[Go.Value.int Go.IntKind.i64 x, Go.Value.int Go.IntKind.i64 y] 75)])) (fun k => k ≤ bezK x y) (fun k => bezK x y + 1 - k) (0) (Nat.zero_le _) ⟨rfl, rfl, rfl, trivial⟩ ⟨rfl, trivial⟩ (fun k => fun (hk : k ≤ bezK x y) => ?_)
    have hm1 : ((k : Int) * x).natAbs ≤ 15 * 16 := by rw [Int.natAbs_mul]; exact Nat.mul_le_mul (by omega) (by omega)
    have hm2 : (-(k : Int) * x).natAbs ≤ 15 * 16 := by rw [Int.natAbs_mul]; exact Nat.mul_le_mul (by omega) (by omega)
    have hm3 : -9223372036854775808 ≤ (k : Int) * x ∧ (k : Int) * x ≤ 9223372036854775807 := by omega
    have hm4 : -9223372036854775808 ≤ -(k : Int) * x ∧ -(k : Int) * x ≤ 9223372036854775807 := by omega
    refine Wc.seq ?_
    refine Wc.block ?_
    refine Wc.seq ?_
    refine Wc.region rfl ?_
    refine Wl.q rfl (Qy.move rfl) ?_
    refine Wl.q rfl (Qy.move rfl) ?_
    refine Wl.q rfl (Qy.neg rfl (by omega)) ?_
    refine Wl.q rfl (Qy.buildA (cs := [_, _]) T.ar201 rfl rfl rfl) ?_
    refine Wl.q rfl (Qy.move rfl) ?_
    refine Wl.done ?_
    refine Ar.next ?_
    refine Wc.block ?_
    refine Wc.loop (ι := Nat) (fun i => ([(37, .int .i64 (i : Int)), (7, .int .i64 (k : Int)), (36, Go.Value.agg #[Go.Value.int Go.IntKind.i64 (↑k : Int), Go.Value.int Go.IntKind.i64 (-(↑k : Int))]), (6, Go.Value.int Go.IntKind.i64 (↑(Int.gcd x y) : Int)), (1, Go.Value.pointer (Option.some (Go.Addr.mk b1 0 Option.none)))], [(0, Option.some b1, Go.Obj.cells #[Go.Value.int Go.IntKind.i64 x, Go.Value.int Go.IntKind.i64 y] 75)])) (fun i => i ≤ 2 ∧ (1 ≤ i → hitB x y (k : Int) = false) ∧ (2 ≤ i → hitB x y (-(k : Int)) = false)) (fun i => 2 - i) (0) (⟨Nat.zero_le _, fun h => absurd h (by omega), fun h => absurd h (by omega)⟩) ⟨rfl, rfl, rfl, rfl, rfl, trivial⟩ ⟨rfl, trivial⟩ (fun i => fun (hk : i ≤ 2 ∧ (1 ≤ i → hitB x y (k : Int) = false) ∧ (2 ≤ i → hitB x y (-(k : Int)) = false)) => ?_)
    obtain ⟨hi1, hi2, hi3⟩ := hk
    have hcase : i = 0 ∨ i = 1 ∨ i = 2 := by omega
    have q2 := tdiv_rng ((Int.gcd x y : Int) - (k : Int) * x) y
    have q3 := tdiv_rng ((Int.gcd x y : Int) - -(k : Int) * x) y
    have hit : ∀ s : Int, hitB x y s = true ↔ ((Int.gcd x y : Int) - s * x).tmod y = 0 := fun s => by unfold hitB; rw [beq_iff_eq]
    rcases hcase with hi | hi | hi
    · subst hi
      refine Wc.seq ?_
      refine Wc.region rfl ?_
      refine Wl.q rfl (Qy.lss rfl rfl) ?_
      refine Wl.done ?_
      refine Ar.next ?_
      refine Wc.seq ?_
      refine Wc.condP rfl (by first | assumption | omega) ?_
      refine Wc.skip ?_
      refine Ar.next ?_
      refine Wc.seq ?_
      refine Wc.block ?_
      refine Wc.seq ?_
      refine Wc.region rfl ?_
      refine Wl.q rfl (Qy.indexLit (i := 0) (cs := [.int .i64 (k : Int), .int .i64 (-(k : Int))]) und201 pkey3 siz3 rfl rfl (by decide) rfl) ?_
      refine Wl.q rfl (Qy.assign rfl) ?_
      refine Wl.done ?_
      refine Ar.next ?_
      refine Wc.seq ?_
      refine Wc.region rfl ?_
      refine Wl.q rfl (Qy.move rfl) ?_
      refine Wl.q rfl (Qy.move rfl) ?_
      refine Wl.q rfl (Qy.fieldAddr T.fa75_0 rfl) ?_
      refine Wl.q rfl (Qy.load 0 T.one3 rfl rfl rfl) ?_
      refine Wl.q rfl (Qy.mul rfl rfl (by omega)) ?_
      refine Wl.q rfl (Qy.sub rfl rfl (by omega)) ?_
      refine Wl.q rfl (Qy.fieldAddr T.fa75_1 rfl) ?_
      refine Wl.q rfl (Qy.load 0 T.one3 rfl rfl rfl) ?_
      refine Wl.q rfl (Qy.rem rfl rfl (by omega)) ?_
      refine Wl.q rfl (Qy.eql rfl rfl) ?_
      refine Wl.done ?_
      refine Ar.next ?_
      refine Wc.cond rfl (fun hc3 => ?_) (fun hc3 => ?_)
      refine Wc.seq ?_
      refine Wc.draw [0] [] T.mixed rfl ?_
      refine Gm.q 0 [] (by kernel_rfl) rfl rfl (Qy.move rfl) ?_
      refine Gm.q 1 [] (by kernel_rfl) rfl rfl (Qy.move rfl) ?_
      refine Gm.q 2 [] (by kernel_rfl) rfl rfl (Qy.move rfl) ?_
      refine Gm.q 3 [] (by kernel_rfl) rfl rfl (Qy.move rfl) ?_
      refine Gm.q 4 [] (by kernel_rfl) rfl rfl (Qy.fieldAddr T.fa75_0 rfl) ?_
      refine Gm.q 5 [0] (by kernel_rfl) rfl rfl (Qy.load 0 T.one3 rfl rfl rfl) ?_
      refine Gm.q 6 [] (by kernel_rfl) rfl rfl (Qy.mul rfl rfl (by omega)) ?_
      refine Gm.q 7 [] (by kernel_rfl) rfl rfl (Qy.sub rfl rfl (by omega)) ?_
      refine Gm.q 8 [] (by kernel_rfl) rfl rfl (Qy.fieldAddr T.fa75_1 rfl) ?_
      refine Gm.q 9 [0] (by kernel_rfl) rfl rfl (Qy.load 0 T.one3 rfl rfl rfl) ?_
      refine Gm.q 10 [] (by kernel_rfl) rfl rfl (Qy.quo rfl rfl (by omega) (by omega)) ?_
      refine Gm.q 11 [] (by kernel_rfl) rfl rfl (Qy.assign rfl) ?_
      refine Gm.q 12 [] (by kernel_rfl) rfl rfl (Qy.assign rfl) ?_
      refine Gm.q 13 [] (by kernel_rfl) rfl rfl (Qy.assign rfl) ?_
      refine Gm.q 14 [] (by kernel_rfl) rfl rfl (Qy.assign rfl) ?_
      refine Gm.doneA (by kernel_rfl) ⟨rfl, trivial⟩ (by first | exact Imm.le_refl _ | repeat (first | assumption | refine Imm.le_trans ?_ (by assumption))) ?_
      refine Ar.next ?_
      refine Wc.ret ?_
      refine Ar.outRet ?_
      refine Ar.passRet ?_
      refine Ar.passRet ?_
      refine Ar.outRet ?_
      refine Ar.outRet ?_
      refine Ar.passRet ?_
      refine Ar.passRet ?_
      refine Ar.outRet ?_
      refine Ar.out4 (.inr rfl) (Ho := Hp.only _ []) rfl (.tmp rfl) (.tmp rfl) (.tmp rfl) (.tmp rfl) (Hp.sub_only _ _) ?_
      rotate_left
      refine Wc.skip ?_
      refine Ar.outNormal ?_
      refine Ar.next ?_
      refine Wc.region rfl ?_
      refine Wl.q rfl (Qy.add rfl rfl (by omega)) ?_
      refine Wl.q rfl (Qy.move rfl) ?_
      refine Wl.done ?_
      rotate_left
      · have hkk : k = bezK x y := by
          rcases Nat.lt_or_ge k (bezK x y) with h | h
          · have := (bez_first x y 16 0 k (Nat.zero_le _) h).1
            rw [(hit _).2 hc3] at this; cases this
          · omega
        have hs : bezS x y = k := by unfold bezS; rw [if_neg hc2, ← hkk, if_pos ((hit _).2 hc3)]
        have ht : bezT x y = ((Int.gcd x y : Int) - (k : Int) * x).tdiv y := by unfold bezT; rw [if_neg hc2, hs]
        refine ⟨by rw [hs, ht], rfl, rfl⟩
      · refine Ar.re 37 rfl (show _ = Value.int .i64 ((1 : Nat) : Int) from rfl) ?_
        refine Ar.again (1) ?_ ?_ rfl ⟨rfl, rfl, rfl, rfl, rfl, trivial⟩ ⟨rfl, trivial⟩
        · refine ⟨by omega, fun _ => ?_, fun h => absurd h (by omega)⟩
          cases hh : hitB x y (k : Int)
          · rfl
          · exact absurd ((hit _).1 hh) hc3
        · show 2 - 1 < 2 - 0
          omega
    · subst hi
      refine Wc.seq ?_
      refine Wc.region rfl ?_
      refine Wl.q rfl (Qy.lss rfl rfl) ?_
      refine Wl.done ?_
      refine Ar.next ?_
      refine Wc.seq ?_
      refine Wc.condP rfl (by first | assumption | omega) ?_
      refine Wc.skip ?_
      refine Ar.next ?_
      refine Wc.seq ?_
      refine Wc.block ?_
      refine Wc.seq ?_
      refine Wc.region rfl ?_
      refine Wl.q rfl (Qy.indexLit (i := 1) (cs := [.int .i64 (k : Int), .int .i64 (-(k : Int))]) und201 pkey3 siz3 rfl rfl (by decide) rfl) ?_
      refine Wl.q rfl (Qy.assign rfl) ?_
      refine Wl.done ?_
      refine Ar.next ?_
      refine Wc.seq ?_
      refine Wc.region rfl ?_
      refine Wl.q rfl (Qy.move rfl) ?_
      refine Wl.q rfl (Qy.move rfl) ?_
      refine Wl.q rfl (Qy.fieldAddr T.fa75_0 rfl) ?_
      refine Wl.q rfl (Qy.load 0 T.one3 rfl rfl rfl) ?_
      refine Wl.q rfl (Qy.mul rfl rfl (by omega)) ?_
      refine Wl.q rfl (Qy.sub rfl rfl (by omega)) ?_
      refine Wl.q rfl (Qy.fieldAddr T.fa75_1 rfl) ?_
      refine Wl.q rfl (Qy.load 0 T.one3 rfl rfl rfl) ?_
      refine Wl.q rfl (Qy.rem rfl rfl (by omega)) ?_
      refine Wl.q rfl (Qy.eql rfl rfl) ?_
      refine Wl.done ?_
      refine Ar.next ?_
      refine Wc.cond rfl (fun hc3 => ?_) (fun hc3 => ?_)
      refine Wc.seq ?_
      refine Wc.draw [0] [] T.mixed rfl ?_
      refine Gm.q 0 [] (by kernel_rfl) rfl rfl (Qy.move rfl) ?_
      refine Gm.q 1 [] (by kernel_rfl) rfl rfl (Qy.move rfl) ?_
      refine Gm.q 2 [] (by kernel_rfl) rfl rfl (Qy.move rfl) ?_
      refine Gm.q 3 [] (by kernel_rfl) rfl rfl (Qy.move rfl) ?_
      refine Gm.q 4 [] (by kernel_rfl) rfl rfl (Qy.fieldAddr T.fa75_0 rfl) ?_
      refine Gm.q 5 [0] (by kernel_rfl) rfl rfl (Qy.load 0 T.one3 rfl rfl rfl) ?_
      refine Gm.q 6 [] (by kernel_rfl) rfl rfl (Qy.mul rfl rfl (by omega)) ?_
      refine Gm.q 7 [] (by kernel_rfl) rfl rfl (Qy.sub rfl rfl (by omega)) ?_
      refine Gm.q 8 [] (by kernel_rfl) rfl rfl (Qy.fieldAddr T.fa75_1 rfl) ?_
      refine Gm.q 9 [0] (by kernel_rfl) rfl rfl (Qy.load 0 T.one3 rfl rfl rfl) ?_
      refine Gm.q 10 [] (by kernel_rfl) rfl rfl (Qy.quo rfl rfl (by omega) (by omega)) ?_
      refine Gm.q 11 [] (by kernel_rfl) rfl rfl (Qy.assign rfl) ?_
      refine Gm.q 12 [] (by kernel_rfl) rfl rfl (Qy.assign rfl) ?_
      refine Gm.q 13 [] (by kernel_rfl) rfl rfl (Qy.assign rfl) ?_
      refine Gm.q 14 [] (by kernel_rfl) rfl rfl (Qy.assign rfl) ?_
      refine Gm.doneA (by kernel_rfl) ⟨rfl, trivial⟩ (by first | exact Imm.le_refl _ | repeat (first | assumption | refine Imm.le_trans ?_ (by assumption))) ?_
      refine Ar.next ?_
      refine Wc.ret ?_
      refine Ar.outRet ?_
      refine Ar.passRet ?_
      refine Ar.passRet ?_
      refine Ar.outRet ?_
      refine Ar.outRet ?_
      refine Ar.passRet ?_
      refine Ar.passRet ?_
      refine Ar.outRet ?_
      refine Ar.out4 (.inr rfl) (Ho := Hp.only _ []) rfl (.tmp rfl) (.tmp rfl) (.tmp rfl) (.tmp rfl) (Hp.sub_only _ _) ?_
      rotate_left
      refine Wc.skip ?_
      refine Ar.outNormal ?_
      refine Ar.next ?_
      refine Wc.region rfl ?_
      refine Wl.q rfl (Qy.add rfl rfl (by omega)) ?_
      refine Wl.q rfl (Qy.move rfl) ?_
      refine Wl.done ?_
      rotate_left
      · have hkk : k = bezK x y := by
          rcases Nat.lt_or_ge k (bezK x y) with h | h
          · have := (bez_first x y 16 0 k (Nat.zero_le _) h).2
            rw [(hit _).2 hc3] at this; cases this
          · omega
        have hs : bezS x y = -k := by unfold bezS; rw [if_neg hc2, ← hkk, if_neg (by rw [hi2 (by omega)]; decide)]
        have ht : bezT x y = ((Int.gcd x y : Int) - -(k : Int) * x).tdiv y := by unfold bezT; rw [if_neg hc2, hs]
        refine ⟨by rw [hs, ht], rfl, rfl⟩
      · refine Ar.re 37 rfl (show _ = Value.int .i64 ((2 : Nat) : Int) from rfl) ?_
        refine Ar.again (2) ?_ ?_ rfl ⟨rfl, rfl, rfl, rfl, rfl, trivial⟩ ⟨rfl, trivial⟩
        · refine ⟨by omega, fun _ => hi2 (by omega), fun _ => ?_⟩
          cases hh : hitB x y (-(k : Int))
          · rfl
          · exact absurd ((hit _).1 hh) hc3
        · show 2 - 2 < 2 - 1
          omega
    · subst hi
      refine Wc.seq ?_
      refine Wc.region rfl ?_
      refine Wl.q rfl (Qy.lss rfl rfl) ?_
      refine Wl.done ?_
      refine Ar.next ?_
      refine Wc.seq ?_
      refine Wc.condN rfl (by first | assumption | omega) ?_
      refine Wc.exit ?_
      refine Ar.passExit ?_
      refine Ar.passExit ?_
      refine Ar.here ?_
      refine Ar.outNormal ?_
      refine Ar.next ?_
      refine Wc.region rfl ?_
      refine Wl.q rfl (Qy.move rfl) ?_
      refine Wl.q rfl (Qy.add rfl rfl (by omega)) ?_
      refine Wl.q rfl (Qy.assign rfl) ?_
      refine Wl.done ?_
      refine Ar.re 7 rfl (show _ = Value.int .i64 ((k + 1 : Nat) : Int) from rfl) ?_
      refine Ar.again (k + 1) ?_ ?_ rfl ⟨rfl, rfl, rfl, trivial⟩ ⟨rfl, trivial⟩
      · rcases Nat.lt_or_ge k (bezK x y) with h | h
        · exact h
        · have hkk : k = bezK x y := by omega
          have h1 := hi2 (by omega)
          have h2 := hi3 (by omega)
          rw [hkk] at h1 h2
          rw [h1, h2] at hb4
          rcases hb4 with h | h | h
          · exact absurd h hc2
          · cases h
          · cases h
      · show bezK x y + 1 - (k + 1) < bezK x y + 1 - k
        omega
end Go.Proofs.Ytbppmiimeccclaa
set_option maxRecDepth 100000
set_option linter.unusedVariables false
namespace Go.Proofs.Ytbppmiimeccclaa
open Go Go.Sl
set_option maxHeartbeats 4000000
/-- Det of two points' norms -/
def dt (p q : R2) : Int := (nrm p.a p.b).1 * (nrm q.a q.b).2 - (nrm q.a q.b).1 * (nrm p.a p.b).2
/-- the amounts of the pairs before the pair (i, j) -/
def Amt (l : List R2) (j i : Nat) (d : Int) : Prop := ∃ j' i', i' < j' ∧ (j' < j ∨ (j' = j ∧ i' < i)) ∧ d = ((dt (l[i']?.getD default) (l[j']?.getD default)).natAbs : Int)
theorem Amt.zero {l : List R2} {d : Int} : ¬ Amt l 0 0 d := fun ⟨j', i', h1, h2, _⟩ => by omega
theorem Amt.row {l : List R2} {j : Nat} {d : Int} : Amt l j j d ↔ Amt l (j + 1) 0 d :=
  ⟨fun ⟨j', i', h1, h2, h3⟩ => ⟨j', i', h1, by omega, h3⟩, fun ⟨j', i', h1, h2, h3⟩ => ⟨j', i', h1, by omega, h3⟩⟩
theorem Amt.step {l : List R2} {j i : Nat} {d : Int} (h : i < j) : Amt l j (i + 1) d ↔ Amt l j i d ∨ d = ((dt (l[i]?.getD default) (l[j]?.getD default)).natAbs : Int) := by
  constructor
  · rintro ⟨j', i', h1, h2, h3⟩
    by_cases hc : j' = j ∧ i' = i
    · rw [hc.1, hc.2] at h3; exact .inr h3
    · exact .inl ⟨j', i', h1, by omega, h3⟩
  · rintro (⟨j', i', h1, h2, h3⟩ | h3)
    · exact ⟨j', i', h1, by omega, h3⟩
    · exact ⟨j, i, h, by omega, h3⟩
/-- a table that marks what is among them -/
def Marks (xs : List Bool) (A : Int → Prop) : Prop := xs.length = 513 ∧ ∀ d : Nat, d < 513 → (xs[d]?.getD false = true ↔ A d)
theorem Marks.set {xs : List Bool} {A B : Int → Prop} {m : Int} (h : Marks xs A) (h0 : 0 ≤ m) (hB : ∀ d : Int, B d ↔ A d ∨ d = m) : Marks (xs.set m.toNat true) B := by
  refine ⟨by rw [List.length_set]; exact h.1, fun d hd => ?_⟩
  rw [hB, ← h.2 d hd, List.getElem?_set]
  by_cases e : m.toNat = d
  · rw [if_pos e, if_pos (by rw [h.1]; omega)]
    exact ⟨fun _ => .inr (by omega), fun _ => rfl⟩
  · rw [if_neg e]
    exact ⟨.inl, fun h => h.resolve_right (by omega)⟩
end Go.Proofs.Ytbppmiimeccclaa
set_option maxRecDepth 100000
set_option linter.unusedVariables false
namespace Go.Proofs.Ytbppmiimeccclaa
open Go Go.Sl
set_option maxHeartbeats 4000000
/-- an order of n things -/
def OrderP (o : List Int) (n : Nat) : Prop := o.length = n ∧ (∀ x ∈ o, 0 ≤ x ∧ x < n) ∧ o.Nodup
instance (o : List Int) (n : Nat) : Decidable (OrderP o n) := inferInstanceAs (Decidable (_ ∧ _))
/-- a table of n that marks what is among them -/
def MarksN (xs : List Bool) (n : Nat) (A : Int → Prop) : Prop := xs.length = n ∧ ∀ d : Nat, d < n → (xs[d]?.getD false = true ↔ A d)
theorem MarksN.set {xs : List Bool} {n : Nat} {A B : Int → Prop} {m : Int} (h : MarksN xs n A) (h0 : 0 ≤ m) (hB : ∀ d : Int, B d ↔ A d ∨ d = m) : MarksN (xs.set m.toNat true) n B := by
  refine ⟨by rw [List.length_set]; exact h.1, fun d hd => ?_⟩
  rw [hB, ← h.2 d hd, List.getElem?_set]
  by_cases e : m.toNat = d
  · rw [if_pos e, if_pos (by rw [h.1]; omega)]
    exact ⟨fun _ => .inr (by omega), fun _ => rfl⟩
  · rw [if_neg e]
    exact ⟨.inl, fun h => h.resolve_right (by omega)⟩
end Go.Proofs.Ytbppmiimeccclaa
set_option linter.unusedVariables false
namespace Go.Proofs.Ytbppmiimeccclaa
open Go Go.Sl
theorem right_ofS {q : PV} (h : 1 ≤ q.ins ∧ q.ins ≤ q.regs ∧ q.regs ≤ 128 ∧ q.code.length ≤ 16384 ∧ 1 ≤ q.outs.length ∧ q.outs.length ≤ 128) (ho : ∀ r ∈ q.outs, 0 ≤ r ∧ r < q.regs) (hc : ∀ i ∈ q.code, mayOk i q.regs = true) : rightP q = true := by
  have h1 : headOk q = true := by
    unfold headOk
    rw [Bool.and_eq_true, decide_eq_true_eq, List.all_eq_true]
    exact ⟨by omega, fun r hr => by rw [decide_eq_true_eq]; exact ho r hr⟩
  have h2 : badAt q = none := by
    unfold badAt
    rw [List.findIdx?_eq_none_iff]
    intro i hi
    rw [hc i hi]; rfl
  unfold rightP checkP
  rw [if_neg (by rw [h1]; decide), h2]; rfl
structure Good (R : Int) (L d : Nat) (l : List Sl.Instr) : Prop where
  fit : ∀ i ∈ l, mayOk i R = true
  len : l.length ≤ L
  dv : divs l ≤ d
theorem divs_append (l m : List Sl.Instr) : divs (l ++ m) = divs l + divs m := by unfold divs; rw [List.filter_append, List.length_append]
theorem Good.nil (R : Int) : Good R 0 0 [] := ⟨fun i h => (by cases h), Nat.le_refl _, Nat.le_refl _⟩
theorem Good.append {R : Int} {L d L' d' : Nat} {l m : List Sl.Instr} (h : Good R L d l) (k : Good R L' d' m) : Good R (L + L') (d + d') (l ++ m) :=
  ⟨fun i hi => (List.mem_append.1 hi).elim (h.fit i) (k.fit i), by rw [List.length_append]; have := h.len; have := k.len; omega, by rw [divs_append]; have := h.dv; have := k.dv; omega⟩
theorem Good.mono {R : Int} {L d L' d' : Nat} {l : List Sl.Instr} (h : Good R L d l) (h1 : L ≤ L') (h2 : d ≤ d') : Good R L' d' l := ⟨h.fit, Nat.le_trans h.len h1, Nat.le_trans h.dv h2⟩
theorem Good.one {R : Int} {i : Sl.Instr} (h : mayOk i R = true) : Good R 1 (if isDiv i then 1 else 0) [i] :=
  ⟨fun j hj => by rw [List.mem_singleton.1 hj]; exact h, Nat.le_refl _, by unfold divs; by_cases hd : isDiv i <;> simp [hd]⟩
theorem may_two {op to a b R : Int} (ho : op = 3 ∨ op = 4) (h1 : 0 ≤ to ∧ to < R) (h2 : 0 ≤ a ∧ a < R) (h3 : 0 ≤ b ∧ b < R) : mayOk ⟨op, to, a, b, 0⟩ R = true := by
  unfold mayOk
  rw [Bool.and_eq_true, Bool.and_eq_true, decide_eq_true_eq, List.all_eq_true]
  refine ⟨⟨(show 1 ≤ op ∧ op ≤ 8 ∧ 0 ≤ to ∧ to < R ∧ (op = 3 ∨ op = 4 ∨ b = 0) by omega), ?_⟩, fun r hr => ?_⟩
  · unfold constOk
    rw [if_neg (show ¬ (op = 5 ∨ op = 6) by omega), if_neg (show ¬ (op = 7 ∨ op = 8) by omega)]; rfl
  · rw [decide_eq_true_eq]
    unfold asks at hr
    rw [if_pos (show op = 3 ∨ op = 4 from ho)] at hr
    rcases List.mem_cons.1 hr with rfl | hr
    · exact h2
    · rw [List.mem_singleton.1 hr]; exact h3
theorem may_one {op to a R : Int} (ho : op = 1 ∨ op = 2) (h1 : 0 ≤ to ∧ to < R) (h2 : 0 ≤ a ∧ a < R) : mayOk ⟨op, to, a, 0, 0⟩ R = true := by
  unfold mayOk
  rw [Bool.and_eq_true, Bool.and_eq_true, decide_eq_true_eq, List.all_eq_true]
  refine ⟨⟨(show 1 ≤ op ∧ op ≤ 8 ∧ 0 ≤ to ∧ to < R ∧ (op = 3 ∨ op = 4 ∨ (0 : Int) = 0) by omega), ?_⟩, fun r hr => ?_⟩
  · unfold constOk
    rw [if_neg (show ¬ (op = 5 ∨ op = 6) by omega), if_neg (show ¬ (op = 7 ∨ op = 8) by omega)]; rfl
  · rw [decide_eq_true_eq]
    unfold asks at hr
    rw [if_neg (show ¬ (op = 3 ∨ op = 4) by omega), if_pos (show 1 ≤ op ∧ op ≤ 8 by omega)] at hr
    rw [List.mem_singleton.1 hr]; exact h2
theorem may_const {op to a c R : Int} (ho : op = 5 ∨ op = 6) (h1 : 0 ≤ to ∧ to < R) (h2 : 0 ≤ a ∧ a < R) (hc : c ≠ 0 ∧ -512 ≤ c ∧ c ≤ 512) : mayOk ⟨op, to, a, 0, c⟩ R = true := by
  unfold mayOk
  rw [Bool.and_eq_true, Bool.and_eq_true, decide_eq_true_eq, List.all_eq_true]
  refine ⟨⟨(show 1 ≤ op ∧ op ≤ 8 ∧ 0 ≤ to ∧ to < R ∧ (op = 3 ∨ op = 4 ∨ (0 : Int) = 0) by omega), ?_⟩, fun r hr => ?_⟩
  · unfold constOk
    rw [if_pos (show op = 5 ∨ op = 6 from ho), decide_eq_true_eq]; exact hc
  · rw [decide_eq_true_eq]
    unfold asks at hr
    rw [if_neg (show ¬ (op = 3 ∨ op = 4) by omega), if_pos (show 1 ≤ op ∧ op ≤ 8 by omega)] at hr
    rw [List.mem_singleton.1 hr]; exact h2
theorem add_good {R to a b : Int} (h1 : 0 ≤ to ∧ to < R) (h2 : 0 ≤ a ∧ a < R) (h3 : 0 ≤ b ∧ b < R) : Good R 1 0 [⟨3, to, a, b, 0⟩] := (Good.one (may_two (.inl rfl) h1 h2 h3)).mono (Nat.le_refl _) (Nat.le_of_eq (if_neg (show ¬ ((3 : Int) = 6 ∨ (3 : Int) = 8) by decide)))
theorem sub_good {R to a b : Int} (h1 : 0 ≤ to ∧ to < R) (h2 : 0 ≤ a ∧ a < R) (h3 : 0 ≤ b ∧ b < R) : Good R 1 0 [⟨4, to, a, b, 0⟩] := (Good.one (may_two (.inr rfl) h1 h2 h3)).mono (Nat.le_refl _) (Nat.le_of_eq (if_neg (show ¬ ((4 : Int) = 6 ∨ (4 : Int) = 8) by decide)))
theorem times_good {R to x c : Int} (h1 : 0 ≤ to ∧ to < R) (h2 : 0 ≤ x ∧ x < R) (hc : -512 ≤ c ∧ c ≤ 512) : Good R 1 0 (timesI to x c) := by
  unfold timesI
  split
  · exact sub_good h1 h2 h2
  rename_i h0
  split
  · exact (Good.nil R).mono (by omega) (by omega)
  split
  · exact (Good.one (may_one (.inl rfl) h1 h2)).mono (Nat.le_refl _) (Nat.le_of_eq (if_neg (show ¬ ((1 : Int) = 6 ∨ (1 : Int) = 8) by decide)))
  split
  · exact (Good.one (may_one (.inr rfl) h1 h2)).mono (Nat.le_refl _) (Nat.le_of_eq (if_neg (show ¬ ((2 : Int) = 6 ∨ (2 : Int) = 8) by decide)))
  · exact (Good.one (may_const (.inl rfl) h1 h2 ⟨h0, hc⟩)).mono (Nat.le_refl _) (Nat.le_of_eq (if_neg (show ¬ ((5 : Int) = 6 ∨ (5 : Int) = 8) by decide)))
theorem over_good {R to c : Int} (h1 : 0 ≤ to ∧ to < R) (h0 : c ≠ 0) (hc : -512 ≤ c ∧ c ≤ 512) : Good R 1 (if c = 1 then 0 else 1) (overI to c) := by
  unfold overI
  split
  · exact (Good.nil R).mono (by omega) (by omega)
  split
  · exact (Good.one (may_one (.inr rfl) h1 h1)).mono (Nat.le_refl _) (by split <;> omega)
  · exact (Good.one (may_const (.inr rfl) h1 h1 ⟨h0, hc⟩)).mono (Nat.le_refl _) (by split <;> omega)
theorem many_good {R to c : Int} (h1 : 0 ≤ to ∧ to < R) (h0 : c ≠ 0) (hc : -512 ≤ c ∧ c ≤ 512) : ∀ m : Nat, Good R m (if c = 1 then 0 else m) (List.replicate m (overI to c)).flatten
  | 0 => (Good.nil R).mono (Nat.le_refl _) (Nat.zero_le _)
  | m + 1 => by
    rw [List.replicate_succ, List.flatten_cons]
    refine ((over_good h1 h0 hc).append (many_good h1 h0 hc m)).mono (by omega) ?_
    split <;> omega
theorem powL_good {R to c : Int} (h1 : 0 ≤ to ∧ to < R) (hc : -512 ≤ c ∧ c ≤ 512) : ∀ (e : Nat) (fr k : Int), 0 ≤ fr ∧ fr < R → -512 ≤ k ∧ k ≤ 512 → Good R (e + 1) 0 (powL to c fr k e)
  | 0, fr, k, h2, hk => times_good h1 h2 hk
  | e + 1, fr, k, h2, hk => by
    unfold powL
    split
    · exact ((times_good h1 h2 hk).append (powL_good h1 hc e to c h1 hc)).mono (by omega) (by omega)
    · exact (powL_good h1 hc e fr (k * c) h2 (by omega)).mono (by omega) (by omega)
theorem powI_good {R to a c : Int} (h1 : 0 ≤ to ∧ to < R) (h2 : 0 ≤ a ∧ a < R) (hc : -512 ≤ c ∧ c ≤ 512) (e : Nat) : Good R (e + 1) 0 (powI to a c e) := by
  unfold powI
  split
  · refine (times_good h1 h2 ?_).mono (by omega) (by omega)
    split <;> omega
  · exact powL_good h1 hc e a 1 h2 (by omega)
theorem lin_rng {u v a b : Int} (h : u.natAbs + v.natAbs ≤ 17) (hn : near a b) : -512 ≤ u * a + v * b ∧ u * a + v * b ≤ 512 := by
  unfold near at hn
  have h1 : (u * a).natAbs ≤ u.natAbs * 16 := by rw [Int.natAbs_mul]; exact Nat.mul_le_mul_left _ (by omega)
  have h2 : (v * b).natAbs ≤ v.natAbs * 16 := by rw [Int.natAbs_mul]; exact Nat.mul_le_mul_left _ (by omega)
  omega
theorem det_rng {a b c d : Int} (h : near a b) (k : near c d) : -512 ≤ a * d - c * b ∧ a * d - c * b ≤ 512 := by
  unfold near at h k
  have h1 : (a * d).natAbs ≤ 16 * 16 := by rw [Int.natAbs_mul]; exact Nat.mul_le_mul (by omega) (by omega)
  have h2 : (c * b).natAbs ≤ 16 * 16 := by rw [Int.natAbs_mul]; exact Nat.mul_le_mul (by omega) (by omega)
  omega
/-- what is asked of points without common factors -/
structure Wh (wh : List R2) (o : List Int) : Prop where
  near : ∀ k ∈ o, near (ptW wh k).a (ptW wh k).b
  cop : ∀ k ∈ o, Int.gcd (ptW wh k).a (ptW wh k).b = 1
  bez : ∀ k ∈ o, bezS (ptW wh k).a (ptW wh k).b * (ptW wh k).a + bezT (ptW wh k).a (ptW wh k).b * (ptW wh k).b = 1
  small : ∀ k ∈ o, (bezS (ptW wh k).a (ptW wh k).b).natAbs + (bezT (ptW wh k).a (ptW wh k).b).natAbs ≤ 17
  det : ∀ k ∈ o, ∀ i ∈ o, k ≠ i → detC wh k i ≠ 0
theorem Wh.tail {wh : List R2} {k : Int} {o : List Int} (h : Wh wh (k :: o)) : Wh wh o :=
  ⟨fun i hi => h.near i (List.mem_cons_of_mem _ hi), fun i hi => h.cop i (List.mem_cons_of_mem _ hi), fun i hi => h.bez i (List.mem_cons_of_mem _ hi), fun i hi => h.small i (List.mem_cons_of_mem _ hi),
    fun k hk i hi => h.det k (List.mem_cons_of_mem _ hk) i (List.mem_cons_of_mem _ hi)⟩
theorem awayOne_good {n : Int} {wh : List R2} {k i : Int} (e : Nat) (hk : 0 ≤ k ∧ k < n) (hi : 0 ≤ i ∧ i < n) (h1 : near (ptW wh k).a (ptW wh k).b) (h2 : near (ptW wh i).a (ptW wh i).b) (h3 : (bezS (ptW wh k).a (ptW wh k).b).natAbs + (bezT (ptW wh k).a (ptW wh k).b).natAbs ≤ 17) (h4 : detC wh k i ≠ 0) :
    Good (3 * n + 1) (e + 3) 1 (awayOne n wh k e i) := by
  have hl := lin_rng h3 h2
  have hd := det_rng h1 h2
  unfold awayOne
  have e1 : Good (3 * n + 1) (e + 2) 0 (if linC wh k i ≠ 0 ∨ e = 0 then powI (3 * n) k (linC wh k i) e ++ [⟨4, i, i, 3 * n, 0⟩] else []) := by
    split
    · exact (powI_good (by omega) (by omega) hl e).append (sub_good (by omega) (by omega) (by omega))
    · exact (Good.nil _).mono (by omega) (by omega)
  have e2 : Good (3 * n + 1) 1 1 (if detC wh k i = 1 then [] else overI i (detC wh k i)) := by
    split
    · exact (Good.nil _).mono (by omega) (by omega)
    · exact (over_good (by omega) h4 hd).mono (Nat.le_refl _) (by split <;> omega)
  exact (e1.append e2).mono (by omega) (by omega)
theorem awayI_good {n : Int} {wh : List R2} {k : Int} (e : Nat) (hk : 0 ≤ k ∧ k < n) (h1 : near (ptW wh k).a (ptW wh k).b) (h3 : (bezS (ptW wh k).a (ptW wh k).b).natAbs + (bezT (ptW wh k).a (ptW wh k).b).natAbs ≤ 17) :
    ∀ left : List Int, (∀ i ∈ left, 0 ≤ i ∧ i < n) → (∀ i ∈ left, near (ptW wh i).a (ptW wh i).b ∧ detC wh k i ≠ 0) → Good (3 * n + 1) (left.length * (e + 3)) left.length (awayI n wh k e left)
  | [], _, _ => (Good.nil _).mono (Nat.zero_le _) (Nat.zero_le _)
  | i :: left, hi, h => by
    have h5 := h i List.mem_cons_self
    refine ((awayOne_good e hk (hi i List.mem_cons_self) h1 h5.1 h3 h5.2).append (awayI_good e hk h1 h3 left (fun j hj => hi j (List.mem_cons_of_mem _ hj)) (fun j hj => h j (List.mem_cons_of_mem _ hj)))).mono ?_ ?_
    · rw [List.length_cons, Nat.succ_mul]; omega
    · rw [List.length_cons]; omega
/-- 0 + 1 + .. -/
def tri : Nat → Nat
  | 0 => 0
  | m + 1 => m + tri m
theorem awayAll_good {n : Int} {wh : List R2} : ∀ o : List Int, o.length ≤ 15 → (∀ i ∈ o, 0 ≤ i ∧ i < n) → o.Nodup → Wh wh o → Good (3 * n + 1) (238 * o.length) (tri o.length) (awayAll n wh o)
  | [], _, _, _, _ => (Good.nil _).mono (Nat.zero_le _) (Nat.zero_le _)
  | k :: left, hl, hr, hn, hw => by
    obtain ⟨hn1, hn2⟩ := List.nodup_cons.1 hn
    rw [List.length_cons] at hl
    have h1 := awayI_good (n := n) (wh := wh) left.length (hr k List.mem_cons_self) (hw.near k List.mem_cons_self) (hw.small k List.mem_cons_self) left (fun i hi => hr i (List.mem_cons_of_mem _ hi)) (fun i hi => ⟨hw.near i (List.mem_cons_of_mem _ hi), hw.det k List.mem_cons_self i (List.mem_cons_of_mem _ hi) (fun e => hn1 (e ▸ hi))⟩)
    have h2 := awayAll_good left (by omega) (fun i hi => hr i (List.mem_cons_of_mem _ hi)) hn2 hw.tail
    refine (h1.append h2).mono ?_ ?_
    · rw [List.length_cons]
      have : left.length * (left.length + 3) ≤ 14 * 17 := Nat.mul_le_mul (by omega) (by omega)
      omega
    · exact Nat.le_refl _
theorem rStep_good {n u v : Int} {th : List Bool} {j : Nat} (hj : (j : Int) < n) (hu : -512 ≤ u ∧ u ≤ 512) (hv : -512 ≤ v ∧ v ≤ 512) : Good (3 * n + 1) 3 0 (rStep n u v th j).2 := by
  unfold rStep
  simp only
  by_cases hj0 : 0 < j
  · have h1 : Good (3 * n + 1) 1 0 (timesI (3 * n) (2 * n + (j - 1)) u) := times_good (by omega) (by omega) hu
    have h2 : Good (3 * n + 1) 1 0 (timesI (2 * n + j) (2 * n + j) v) := times_good (by omega) (by omega) hv
    have h3 : Good (3 * n + 1) 1 0 (timesI (2 * n + j) (3 * n) 1) := times_good (by omega) (by omega) (by omega)
    have h4 : Good (3 * n + 1) 1 0 [(⟨3, 2 * n + j, 2 * n + j, 3 * n, 0⟩ : Sl.Instr)] := add_good (by omega) (by omega) (by omega)
    generalize (decide (0 < j) && th[j - 1]?.getD false && decide (u ≠ 0)) = low
    generalize (th[j]?.getD false && decide (v ≠ 0)) = own
    cases low <;> cases own
    · exact (Good.nil _).mono (by omega) (by omega)
    · exact h2.mono (by omega) (by omega)
    · exact (h1.append h3).mono (by omega) (by omega)
    · exact (h1.append (h2.append h4)).mono (by omega) (by omega)
  · have h2 : Good (3 * n + 1) 1 0 (timesI (2 * n + j) (2 * n + j) v) := times_good (by omega) (by omega) hv
    rw [decide_eq_false hj0]
    generalize (th[j]?.getD false && decide (v ≠ 0)) = own
    cases own
    · exact (Good.nil _).mono (by omega) (by omega)
    · exact h2.mono (by omega) (by omega)
theorem rIn_good {n u v : Int} (hu : -512 ≤ u ∧ u ≤ 512) (hv : -512 ≤ v ∧ v ≤ 512) : ∀ (m : Nat) (th : List Bool), (m : Int) ≤ n → Good (3 * n + 1) (3 * m) 0 (rIn n u v m th).2
  | 0, _, _ => Good.nil _
  | m + 1, th, h => ((rStep_good (by omega) hu hv).append (rIn_good hu hv m _ (by omega))).mono (by omega) (by omega)
theorem rOut_good {n u v : Int} (hu : -512 ≤ u ∧ u ≤ 512) (hv : -512 ≤ v ∧ v ≤ 512) (hn : n ≤ 15) : ∀ (m d : Nat) (th : List Bool), ((d + m : Nat) : Int) ≤ n → Good (3 * n + 1) (45 * m) 0 (rOut n u v m d th).2
  | 0, _, _, _ => Good.nil _
  | m + 1, d, th, h => ((rIn_good hu hv (d + 1) th (by omega)).append (rOut_good hu hv hn m (d + 1) _ (by omega))).mono (by omega) (by omega)
theorem raised_good {n u v k : Int} {e : Nat} (hu : -512 ≤ u ∧ u ≤ 512) (hv : -512 ≤ v ∧ v ≤ 512) (hn : n ≤ 15) (he : (e : Int) < n) (hk : 0 ≤ k ∧ k < n) : Good (3 * n + 1) (1 + 45 * e) 0 (raisedI n u v k e) :=
  (times_good (by omega) (by omega) (by omega)).append (rOut_good hu hv hn e 1 _ (by omega))
theorem bkIn_good {n : Int} {p : R2} (hp : near p.a p.b) : ∀ m : Nat, (m : Int) ≤ n → Good (3 * n + 1) (3 * m) 0 (bkIn n p m)
  | 0, _ => Good.nil _
  | j + 1, h => by
    unfold near at hp
    unfold bkIn
    have h1 : Good (3 * n + 1) 1 0 (if 0 < j then timesI (3 * n) (n + ((j : Int) - 1)) p.b else []) := by
      split
      · exact times_good (by omega) (by omega) (by omega)
      · exact (Good.nil _).mono (by omega) (by omega)
    have h2 : Good (3 * n + 1) 1 0 (timesI (n + j) (n + j) p.a) := times_good (by omega) (by omega) (by omega)
    have h3 : Good (3 * n + 1) 1 0 (if 0 < j then [(⟨4, n + j, n + j, 3 * n, 0⟩ : Sl.Instr)] else []) := by
      split
      · exact sub_good (by omega) (by omega) (by omega)
      · exact (Good.nil _).mono (by omega) (by omega)
    exact (h1.append (h2.append (h3.append (bkIn_good hp j (by omega))))).mono (by omega) (by omega)
theorem addAll_good {n : Int} : ∀ (th : List Bool) (j : Nat), ((j + th.length : Nat) : Int) ≤ n → Good (3 * n + 1) th.length 0 (addAll n th j)
  | [], _, _ => Good.nil _
  | t :: th, j, h => by
    rw [List.length_cons] at h
    have h1 : Good (3 * n + 1) 1 0 (if t then [(⟨3, n + j, n + j, 2 * n + j, 0⟩ : Sl.Instr)] else []) := by
      split
      · exact add_good (by omega) (by omega) (by omega)
      · exact (Good.nil _).mono (by omega) (by omega)
    exact (h1.append (addAll_good th (j + 1) (by omega))).mono (by rw [List.length_cons]; omega) (by omega)
theorem back_good {n : Int} {wh : List R2} {k : Int} {e : Nat} (hn : n ≤ 15) (h1 : 1 ≤ e) (he : (e : Int) < n) (hk : 0 ≤ k ∧ k < n) (hp : near (ptW wh k).a (ptW wh k).b) (hs : (bezS (ptW wh k).a (ptW wh k).b).natAbs + (bezT (ptW wh k).a (ptW wh k).b).natAbs ≤ 17) : Good (3 * n + 1) 700 0 (backI n wh k e) := by
  have a1 := times_good (R := 3 * n + 1) (to := n + e) (x := n + ((e : Int) - 1)) (c := -(ptW wh k).b) (by omega) (by omega) (by unfold near at hp; omega)
  have a2 := bkIn_good (n := n) hp e (by omega)
  have a3 := raised_good (n := n) (u := bezS (ptW wh k).a (ptW wh k).b) (v := bezT (ptW wh k).a (ptW wh k).b) (k := k) (e := e) (by omega) (by omega) hn he hk
  have a4 := addAll_good (n := n) (raisedT n (bezS (ptW wh k).a (ptW wh k).b) (bezT (ptW wh k).a (ptW wh k).b) e) 0 (by rw [raisedT_len]; omega)
  have hl := raisedT_len n (bezS (ptW wh k).a (ptW wh k).b) (bezT (ptW wh k).a (ptW wh k).b) e
  exact ((a1.append a2).append (a3.append a4)).mono (by rw [hl]; omega) (by omega)
theorem backAll_good {n : Int} {wh : List R2} (hn : n ≤ 15) : ∀ o : List Int, (o.length : Int) ≤ n → (∀ i ∈ o, 0 ≤ i ∧ i < n) → Wh wh o → Good (3 * n + 1) (700 * o.length) 0 (backAll n wh o)
  | [], _, _, _ => Good.nil _
  | [k], _, hr, _ => by
    have := hr k List.mem_cons_self
    exact (times_good (by omega) (by omega) (by omega)).mono (by simp) (Nat.le_refl _)
  | k :: i :: left, hl, hr, hw => by
    rw [List.length_cons] at hl
    have h1 := backAll_good hn (i :: left) (by omega) (fun j hj => hr j (List.mem_cons_of_mem _ hj)) hw.tail
    have h2 := back_good (n := n) (wh := wh) (k := k) (e := (i :: left).length) hn (by simp) (by omega) (hr k List.mem_cons_self) (hw.near k List.mem_cons_self) (hw.small k List.mem_cons_self)
    exact (h1.append h2).mono (by rw [List.length_cons (a := k)]; omega) (by omega)
def normAll (m : Nat) : List R2 → Nat → List Sl.Instr
  | [], _ => []
  | p :: l, k => (List.replicate m (overI k (Int.gcd p.a p.b))).flatten ++ normAll m l (k + 1)
def wholeP (p : R2) : R2 := ⟨p.a.tdiv (Int.gcd p.a p.b), p.b.tdiv (Int.gcd p.a p.b)⟩
def codeP (l : List R2) (o : List Int) : List Sl.Instr := normAll (l.length - 1) l 0 ++ (awayAll l.length (l.map wholeP) o ++ backAll l.length (l.map wholeP) o)
def madeP (l : List R2) (o : List Int) : PV := ⟨l.length, 3 * l.length + 1, codeP l o, (List.range l.length).map fun j : Nat => (l.length : Int) + j⟩
theorem gcd_near {p : R2} (h : okP p) : 1 ≤ Int.gcd p.a p.b ∧ Int.gcd p.a p.b ≤ 16 := by
  obtain ⟨h1, h2⟩ := h
  have hg0 : 0 < Int.gcd p.a p.b := Nat.pos_of_ne_zero fun h1 => h2 (Int.gcd_eq_zero_iff.mp h1)
  refine ⟨hg0, ?_⟩
  unfold near at h1
  by_cases ha : p.a = 0
  · have hb : p.b ≠ 0 := fun hb => h2 ⟨ha, hb⟩
    have := Nat.le_of_dvd (by omega) (show Int.gcd p.a p.b ∣ p.b.natAbs from Nat.gcd_dvd_right _ _)
    omega
  · have := Nat.le_of_dvd (by omega) (show Int.gcd p.a p.b ∣ p.a.natAbs from Nat.gcd_dvd_left _ _)
    omega
theorem normAll_good {n : Int} (m : Nat) : ∀ (l : List R2) (k : Nat), ((k + l.length : Nat) : Int) ≤ n → (∀ p ∈ l, okP p) → Good (3 * n + 1) (l.length * m) (m * uneven l) (normAll m l k)
  | [], _, _, _ => (Good.nil _).mono (Nat.zero_le _) (Nat.zero_le _)
  | p :: l, k, h, hp => by
    rw [List.length_cons] at h
    have hg := gcd_near (hp p List.mem_cons_self)
    have h1 := many_good (R := 3 * n + 1) (to := (k : Int)) (c := (Int.gcd p.a p.b : Int)) (by omega) (by omega) (by omega) m
    have h2 := normAll_good (n := n) m l (k + 1) (by omega) (fun q hq => hp q (List.mem_cons_of_mem _ hq))
    refine (h1.append h2).mono ?_ ?_
    · rw [List.length_cons, Nat.succ_mul]; omega
    · have e : uneven (p :: l) = (if Int.gcd p.a p.b = 1 then 0 else 1) + uneven l := by
        unfold uneven
        rw [List.filter_cons]
        by_cases hh : Int.gcd p.a p.b = 1
        · rw [if_neg (by simp [hh]), if_pos hh, Nat.zero_add]
        · rw [if_pos (by simp [hh]), if_neg hh, List.length_cons, Nat.add_comm]
      rw [e, Nat.mul_add]
      by_cases hh : Int.gcd p.a p.b = 1
      · rw [if_pos (by omega), if_pos hh]; omega
      · rw [if_neg (by omega), if_neg hh]; omega
theorem ptW_map (l : List R2) {k : Int} (h0 : 0 ≤ k) (h : k < l.length) : ptW (l.map wholeP) k = wholeP (l[k.toNat]?.getD default) := by
  unfold ptW
  rw [List.getElem?_map, List.getElem?_eq_getElem (show k.toNat < l.length by omega)]; rfl
theorem whole_facts {p : R2} (h : okP p) : p.a = Int.gcd p.a p.b * (wholeP p).a ∧ p.b = Int.gcd p.a p.b * (wholeP p).b ∧ Int.gcd (wholeP p).a (wholeP p).b = 1 ∧ okP (wholeP p) := by
  obtain ⟨g1, g2⟩ := gcd_near h
  have e1 : p.a.tdiv (Int.gcd p.a p.b) * Int.gcd p.a p.b = p.a := Int.tdiv_mul_cancel (Int.gcd_dvd_left p.a p.b)
  have e2 : p.b.tdiv (Int.gcd p.a p.b) * Int.gcd p.a p.b = p.b := Int.tdiv_mul_cancel (Int.gcd_dvd_right p.a p.b)
  have q1 := tdiv_rng p.a (Int.gcd p.a p.b)
  have q2 := tdiv_rng p.b (Int.gcd p.a p.b)
  refine ⟨by rw [Int.mul_comm]; exact e1.symm, by rw [Int.mul_comm]; exact e2.symm, ?_, ?_, ?_⟩
  · show Nat.gcd (p.a.tdiv (Int.gcd p.a p.b)).natAbs (p.b.tdiv (Int.gcd p.a p.b)).natAbs = 1
    rw [show (p.a.tdiv (Int.gcd p.a p.b)).natAbs = p.a.natAbs / Int.gcd p.a p.b from Int.natAbs_tdiv _ _, show (p.b.tdiv (Int.gcd p.a p.b)).natAbs = p.b.natAbs / Int.gcd p.a p.b from Int.natAbs_tdiv _ _]
    exact Nat.coprime_div_gcd_div_gcd g1
  · have h1 := h.1
    unfold near at *
    show _ ≤ p.a.tdiv _ ∧ p.a.tdiv _ ≤ _ ∧ _ ≤ p.b.tdiv _ ∧ p.b.tdiv _ ≤ _
    omega
  · intro ⟨z1, z2⟩
    apply h.2
    have z1 : p.a.tdiv (Int.gcd p.a p.b) = 0 := z1
    have z2 : p.b.tdiv (Int.gcd p.a p.b) = 0 := z2
    rw [z1, Int.zero_mul] at e1
    rw [z2, Int.zero_mul] at e2
    exact ⟨e1.symm, e2.symm⟩
theorem det_ne {l : List R2} (hR : RightL l) {i j : Nat} (hij : i < j) (hj : j < l.length) : (l[i]?.getD default).a * (l[j]?.getD default).b - (l[j]?.getD default).a * (l[i]?.getD default).b ≠ 0 := by
  obtain ⟨h1, h2, h3, h4⟩ := hR
  intro h
  apply h4
  obtain ⟨p1, p2⟩ := h3 i (by omega)
  obtain ⟨q1, q2⟩ := h3 j hj
  refine ⟨j, hj, i, hij, p1, q1, (same_iff _ _ _ _).2 ?_⟩
  unfold oneR
  rw [if_neg (fun h => h.elim p2 q2)]
  exact h
theorem wh_right {l : List R2} (hR : RightL l) {o : List Int} (ho : ∀ k ∈ o, 0 ≤ k ∧ k < l.length) : Wh (l.map wholeP) o := by
  have hok : ∀ k ∈ o, okP (l[k.toNat]?.getD default) := fun k hk => hR.2.2.1 _ (by have := ho k hk; omega)
  have hpt : ∀ k ∈ o, ptW (l.map wholeP) k = wholeP (l[k.toNat]?.getD default) := fun k hk => ptW_map l (ho k hk).1 (ho k hk).2
  have hb : ∀ k ∈ o, bezS (ptW (l.map wholeP) k).a (ptW (l.map wholeP) k).b * (ptW (l.map wholeP) k).a + bezT (ptW (l.map wholeP) k).a (ptW (l.map wholeP) k).b * (ptW (l.map wholeP) k).b = 1 ∧ (bezS (ptW (l.map wholeP) k).a (ptW (l.map wholeP) k).b).natAbs + (bezT (ptW (l.map wholeP) k).a (ptW (l.map wholeP) k).b).natAbs ≤ 17 := fun k hk => by
    rw [hpt k hk]
    obtain ⟨_, _, w3, w4⟩ := whole_facts (hok k hk)
    obtain ⟨b1, b2, _⟩ := bez_facts w4.1 w4.2
    rw [w3] at b1
    exact ⟨b1, b2⟩
  refine ⟨fun k hk => by rw [hpt k hk]; exact (whole_facts (hok k hk)).2.2.2.1, fun k hk => by rw [hpt k hk]; exact (whole_facts (hok k hk)).2.2.1, fun k hk => (hb k hk).1, fun k hk => (hb k hk).2, fun k hk i hi hne => ?_⟩
  have hd : ((l[k.toNat]?.getD default).a * (l[i.toNat]?.getD default).b - (l[i.toNat]?.getD default).a * (l[k.toNat]?.getD default).b) ≠ 0 := by
    have h1 := ho k hk
    have h2 := ho i hi
    rcases Nat.lt_or_ge k.toNat i.toNat with h | h
    · exact det_ne hR h (by omega)
    · have := det_ne hR (show i.toNat < k.toNat by omega) (by omega)
      intro h3; apply this; omega
  intro h0
  apply hd
  unfold detC at h0
  rw [hpt k hk, hpt i hi] at h0
  obtain ⟨a1, a2, _⟩ := whole_facts (hok k hk)
  obtain ⟨c1, c2, _⟩ := whole_facts (hok i hi)
  generalize (l[k.toNat]?.getD default) = p at *
  generalize (l[i.toNat]?.getD default) = q at *
  have key : p.a * q.b - q.a * p.b = ((wholeP p).a * (wholeP q).b - (wholeP q).a * (wholeP p).b) * ((Int.gcd p.a p.b : Int) * (Int.gcd q.a q.b : Int)) := by
    rw [Int.sub_mul]
    calc p.a * q.b - q.a * p.b = (Int.gcd p.a p.b * (wholeP p).a) * (Int.gcd q.a q.b * (wholeP q).b) - (Int.gcd q.a q.b * (wholeP q).a) * (Int.gcd p.a p.b * (wholeP p).b) := by rw [← a1, ← a2, ← c1, ← c2]
      _ = _ := by congr 1 <;> ac_rfl
  rw [key, h0, Int.zero_mul]
theorem code_good {l : List R2} {o : List Int} (hR : RightL l) (ho : OrderP o l.length) : Good (3 * l.length + 1) 16384 (tri l.length + (l.length - 1) * uneven l) (codeP l o) := by
  obtain ⟨o1, o2, o3⟩ := ho
  have hl := hR.2.1
  have hw := wh_right hR o2
  have hok : ∀ p ∈ l, okP p := fun p hp => by
    obtain ⟨i, hi, rfl⟩ := List.mem_iff_getElem.1 hp
    have := hR.2.2.1 i hi
    rw [List.getElem?_eq_getElem hi] at this
    exact this
  have h1 := normAll_good (n := l.length) (l.length - 1) l 0 (by omega) hok
  have h2 := awayAll_good (n := l.length) (wh := l.map wholeP) o (by omega) o2 o3 hw
  have h3 := backAll_good (n := l.length) (wh := l.map wholeP) (by omega) o (by omega) o2 hw
  refine (h1.append (h2.append h3)).mono ?_ ?_
  · have : l.length * (l.length - 1) ≤ 15 * 14 := Nat.mul_le_mul (by omega) (by omega)
    omega
  · rw [o1]; omega
theorem made_right {l : List R2} {o : List Int} (hR : RightL l) (ho : OrderP o l.length) : rightP (madeP l o) = true := by
  have hg := code_good hR ho
  have hl := hR.1
  have hl2 := hR.2.1
  refine right_ofS ⟨?_, ?_, ?_, hg.len, ?_, ?_⟩ ?_ hg.fit
  · show (1 : Int) ≤ l.length; omega
  · show (l.length : Int) ≤ 3 * l.length + 1; omega
  · show (3 * l.length + 1 : Int) ≤ 128; omega
  · show 1 ≤ ((List.range l.length).map _).length; rw [List.length_map, List.length_range]; exact hl
  · show ((List.range l.length).map _).length ≤ 128; rw [List.length_map, List.length_range]; omega
  · intro r hr
    obtain ⟨j, hj, rfl⟩ := List.mem_map.1 hr
    have := List.mem_range.1 hj
    show 0 ≤ (l.length : Int) + j ∧ (l.length : Int) + j < 3 * l.length + 1
    omega
end Go.Proofs.Ytbppmiimeccclaa
set_option maxRecDepth 100000
set_option linter.unusedVariables false
namespace Go.Proofs.Ytbppmiimeccclaa
open Go Go.Sl
theorem flat_int (l : List Int) : flat l = l.map (Value.int .i64) := by
  induction l with
  | nil => rfl
  | cons x l ih => rw [flat_cons, ih]; rfl
theorem put_flat (l l' : List Int) (jk : List Value) (h : l'.length = l.length) : Go.Sort.putCells (Value.int .i64) 0 l'.toArray (flat l ++ jk).toArray = (flat l' ++ jk).toArray := by
  rw [flat_int, flat_int]
  apply Array.ext_getElem?
  intro k
  simp only [Go.Sort.putCells, Array.getElem?_mapIdx, List.getElem?_toArray, List.size_toArray, Nat.zero_le, true_and, Nat.zero_add, Nat.sub_zero]
  by_cases hk : k < l'.length
  · rw [List.getElem?_append_left (by rw [List.length_map]; omega), List.getElem?_append_left (by rw [List.length_map]; omega), List.getElem?_map, List.getElem?_map, List.getElem?_eq_getElem (show k < l.length by omega), List.getElem?_eq_getElem hk]
    simp [hk]
  · rw [List.getElem?_append_right (by rw [List.length_map]; omega), List.getElem?_append_right (by rw [List.length_map]; omega), List.length_map, List.length_map, h]
    cases jk[k - l.length]? with
    | none => rfl
    | some v => simp [hk]; intro h2; omega
theorem holds_row {w : World} {G : Imm} {b : Nat} {l : List Int} {jk : List Value} {E : TypeId} (hw : HoldH [(0, some b, Row E l jk)] G w) : Go.Sort.Holds (Value.int .i64) w b 0 l.toArray := by
  intro j hj
  have hj : j < l.length := by simpa using hj
  have ho : w.heap[b]? = some (Row E l jk) := hw.own 0 b _ rfl
  constructor
  · show World.cell? w ⟨b, 0 + j, none⟩ = _
    unfold World.cell?
    rw [show w.heap[(⟨b, 0 + j, none⟩ : Addr).block]? = some (Row E l jk) from ho]
    show (flat l ++ jk).toArray[0 + j]? = _
    rw [Nat.zero_add, List.getElem?_toArray, flat_int, List.getElem?_append_left (by rw [List.length_map]; exact hj), List.getElem?_map, List.getElem?_eq_getElem hj]
    simp [hj]
  · show World.frozen? w ⟨b, 0 + j, none⟩ = _
    unfold World.frozen?
    rw [show w.heap[(⟨b, 0 + j, none⟩ : Addr).block]? = some (Row E l jk) from ho]
    show (decide (0 ≤ 0 + j) && decide (0 + j < 0)) = false
    simp
theorem row_put {w : World} {G : Imm} {b n : Nat} {l l' : List Int} {jk : List Value} {E : TypeId} {os : Array Obj} (hw : HoldH [(0, some b, Row E l jk)] G w) (hlen : l'.length = l.length) {v : Value} :
    DoesPost G [(0, some b, Row E l jk)] w (fun v' G' Ho => v' = v ∧ G' = G ∧ Ho = [(0, some b, Row E l' jk)]) (.returned v) (Go.Sort.grow (Go.Sort.putRow (Value.int .i64) (Go.Sort.ahead w n) b 0 l'.toArray) os) := by
  have ho : w.heap[b]? = some (Row E l jk) := hw.own 0 b _ rfl
  have hb : b < w.heap.size := by
    rcases Nat.lt_or_ge b w.heap.size with h | h
    · exact h
    · rw [Array.getElem?_eq_none h] at ho; cases ho
  have hget : ∀ k, k < w.heap.size → (Go.Sort.grow (Go.Sort.putRow (Value.int .i64) (Go.Sort.ahead w n) b 0 l'.toArray) os).heap[k]? = if b = k then some (Row E l' jk) else w.heap[k]? := by
    intro k hk
    show ((w.heap.modify b (Go.Sort.onCells (Go.Sort.putCells (Value.int .i64) 0 l'.toArray))) ++ os)[k]? = _
    rw [Array.getElem?_append_left (by rw [Array.size_modify]; exact hk), Array.getElem?_modify]
    split
    · rename_i e
      subst e
      rw [ho]
      show some (Obj.cells (Go.Sort.putCells (Value.int .i64) 0 l'.toArray (flat l ++ jk).toArray) E (0, 0)) = _
      rw [put_flat _ _ _ hlen]; rfl
    · rfl
  have hone : ∀ {o' : Obj} {t b' : Nat} {o : Obj}, Hp.get [(0, some b, o')] t = some (some b', o) → t = 0 ∧ b = b' ∧ o' = o := by
    intro o' t b' o h
    rw [Hp.get_cons] at h
    split at h
    · rename_i e
      simp at h
      exact ⟨e.symm, h.1, h.2⟩
    · simp [Hp.get] at h
  refine ⟨v, G, [(0, some b, Row E l' jk)], rfl, ⟨?_, ?_, ?_, ?_⟩, Imm.le_refl _, ⟨rfl, rfl, rfl, ?_, ?_⟩, ?_, ?_, rfl, rfl, rfl⟩
  · intro t b' o h
    obtain ⟨_, e, e2⟩ := hone h
    subst e; subst e2
    rw [hget b hb, if_pos rfl]
  · intro t t' b' o o' h h'
    rw [(hone h).1, (hone h').1]
  · intro b' o h
    have h1 := hw.imm b' o h
    have h2 : b' < w.heap.size := by
      rcases Nat.lt_or_ge b' w.heap.size with h | h
      · exact h
      · rw [Array.getElem?_eq_none h] at h1; cases h1
    rw [hget b' h2, if_neg]
    · exact h1
    · intro e
      subst e
      have := hw.off 0 b _ rfl
      rw [h] at this; cases this
  · intro t b' o h
    obtain ⟨_, e, _⟩ := hone h
    subst e
    exact hw.off 0 b _ rfl
  · show w.heap.size ≤ ((w.heap.modify b _) ++ os).size
    rw [Array.size_append, Array.size_modify]; omega
  · intro k hk hx
    rw [hget k hk, if_neg]
    intro e
    subst e
    exact hx ⟨0, _, rfl⟩
  · intro b' h h'; exact absurd h' h
  · intro t b' o h
    obtain ⟨_, e, _⟩ := hone h
    subst e
    exact .inr ⟨0, _, rfl⟩
theorem c69 (G : Imm) (b c : Nat) (l : List Int) (jk : List Value) (h : l.length < 4611686018427387904) :
    Does Try.prog 69 [.slice (some ⟨b, 0, none⟩) l.length c] G [(0, some b, Row 3 l jk)] (fun v G' Ho => v = .tuple #[] ∧ G' = G ∧ Ho = [(0, some b, Row 3 (l.mergeSort fun x y => decide (x ≤ y)) jk)]) := fun w hw => by
  have ho : w.heap[b]? = some (Row 3 l jk) := hw.own 0 b _ rfl
  have hb : b < w.heap.size := by
    rcases Nat.lt_or_ge b w.heap.size with h | h
    · exact h
    · rw [Array.getElem?_eq_none h] at ho; cases ho
  have h69 : Calls Try.prog 69 #[.slice (some ⟨b, 0, none⟩) l.length c] w _ := Any.slices_Sort_int Try.laysSort b 0 c l w (holds_row hw) hb h
  refine h69.mono ?_
  rintro e w' ⟨rfl, n, os, rfl⟩
  exact row_put hw (List.length_mergeSort l)
theorem c69N (G : Imm) (c : Nat) : Does Try.prog 69 [.slice none 0 c] G [] (fun v G' Ho => v = .tuple #[] ∧ G' = G ∧ Ho = []) := fun w hw => by
  have h69 : Calls Try.prog 69 #[.slice none 0 c] w _ := Any.slices_Sort_int_none Try.laysSort none c w
  refine h69.mono ?_
  rintro e w' ⟨rfl, rfl⟩
  exact ⟨_, G, [], rfl, hw, Imm.le_refl _, Upd.refl _ _, fun _ h h' => absurd h' h, fun t b o h => by simp [Hp.get] at h, rfl, rfl, rfl⟩
theorem sorted_le (l : List Int) : (l.mergeSort fun x y => decide (x ≤ y)).Pairwise (· ≤ ·) :=
  (List.pairwise_mergeSort (le := fun x y : Int => decide (x ≤ y)) (fun a b c h1 h2 => by simp at *; omega) (fun a b => by simp; omega) l).imp (fun h => by simpa using h)
end Go.Proofs.Ytbppmiimeccclaa
set_option maxRecDepth 100000
set_option linter.unusedVariables false
namespace Go.Proofs.Ytbppmiimeccclaa
open Go Go.Sl
set_option maxHeartbeats 4000000
attribute [local irreducible] RightL
theorem c68N (G : Imm) (a b c d : Int) (h : near a b) (h' : near c d) : Does Try.prog 68 [.agg #[.int .i64 a, .int .i64 b], .agg #[.int .i64 c, .int .i64 d]] G [] (fun v G' Ho => v = .tuple #[.int .i64 (a * d - c * b), .int .i64 0] ∧ G' = G ∧ Ho = []) :=
  (c68 G a b c d).mono fun v G' Ho _ ⟨e1, e2, e3⟩ => ⟨by rw [e1, if_pos ⟨h, h'⟩, if_pos ⟨h, h'⟩], e2, e3⟩
end Go.Proofs.Ytbppmiimeccclaa
set_option maxRecDepth 100000
set_option linter.unusedVariables false
namespace Go.Proofs.Ytbppmiimeccclaa
open Go Go.Sl
set_option maxHeartbeats 4000000
theorem c125 (G : Imm) (b : Nat) (ac : Option Addr) (cc : Nat) (code : List Sl.Instr) (j : List Value) (wa : Option Addr) (wc : Nat) (wh : List R2) (k : Int) (la : Option Addr) (lc : Nat) (left : List Int) (e : Nat) (ho : OwnA ac cc code j) (hw : Arr G wa wh) (hla : Arr G la left)
    (hwl : wh.length ≤ 15) (hk : 0 ≤ k ∧ k < wh.length) (hll : left.length ≤ 15) (hleft : ∀ i, i < left.length → 0 ≤ left[i]?.getD default ∧ left[i]?.getD default < wh.length) (he : e ≤ 14) (hok : ∀ i, i < wh.length → okP (wh[i]?.getD default)) (hl : (code ++ awayI wh.length wh k e left).length ≤ 1048576) :
    Does Try.prog 125 [.pointer (some ⟨b, 0, none⟩), .int .i64 k, .slice la left.length lc, .int .i64 e] G [(0, some b, .cells #[.int .i64 wh.length, .slice ac code.length cc, .slice wa wh.length wc] 175), (1, ac.map (·.block), Row 72 code j)]
      (fun v G' Ho => v = .tuple #[] ∧ G' = G ∧ ∃ (a' : Option Addr) (c' : Nat) (j' : List Value), OwnA a' c' (code ++ awayI wh.length wh k e left) j' ∧ Ho = [(0, some b, .cells #[.int .i64 wh.length, .slice a' (code ++ awayI wh.length wh k e left).length c', .slice wa wh.length wc] 175), (1, a'.map (·.block), Row 72 (code ++ awayI wh.length wh k e left) j')]) := by
  have hl0 : code.length ≤ 1048576 := by rw [List.length_append] at hl; omega
  obtain ⟨hnk, hzk⟩ := hok k.toNat (by omega)
  obtain ⟨_, b2, _, _⟩ := bez_facts hnk hzk
  refine Does.enter Try.func125 rfl Try.ntmps125 rfl (fun w => ?_)
  refine Wc.scope ?_
  refine Wc.seq ?_
  refine Wc.region rfl ?_
  refine Wl.q rfl (Qy.move rfl) ?_
  refine Wl.q rfl (Qy.nilCheck rfl) ?_
  refine Wl.q rfl (Qy.fieldAddr T.fa175_2 rfl) ?_
  refine Wl.q rfl (Qy.load 0 T.one47 rfl rfl rfl) ?_
  refine Wl.q rfl (Qy.move rfl) ?_
  refine Wl.q rfl (Qy.at (α := R2) T.sl47 rfl rfl (by assumption) (by omega)) ?_
  refine Wl.q rfl (Qy.loadsG T.agg75 rfl (Arr.elem (by assumption) (by omega)) rfl) ?_
  refine Wl.alloc 2 rfl T.zero75 (fun b1 => ?_)
  refine Wl.storeAll 2 T.size75 rfl rfl rfl rfl rfl rfl ?_
  refine Wl.done ?_
  refine Ar.next ?_
  refine Wc.seq ?_
  refine Wc.region rfl ?_
  refine Wl.q rfl (Qy.loadAll 2 T.agg75 rfl rfl rfl) ?_
  refine Wl.call0 rfl T.fn123 rfl (c123 _ _ _ (by assumption) (by assumption)) ?_
  refine Wl.q rfl (Qy.move rfl) ?_
  refine Wl.q rfl (Qy.extract rfl rfl) ?_
  refine Wl.q rfl (Qy.extract rfl rfl) ?_
  refine Wl.q rfl (Qy.extract rfl rfl) ?_
  refine Wl.q rfl (Qy.extract rfl rfl) ?_
  refine Wl.q rfl (Qy.assign rfl) ?_
  refine Wl.q rfl (Qy.assign rfl) ?_
  refine Wl.q rfl (Qy.assign rfl) ?_
  refine Wl.q rfl (Qy.assign rfl) ?_
  refine Wl.done ?_
  refine Ar.next ?_
  refine Wc.seq ?_
  refine Wc.label ?_
  refine Ar.next ?_
  refine Wc.seq ?_
  refine Wc.region rfl ?_
  refine Wl.q rfl (Qy.move rfl) ?_
  refine Wl.q rfl (Qy.len T.sl23 rfl) ?_
  refine Wl.q rfl (Qy.move rfl) ?_
  refine Wl.done ?_
  refine Ar.next ?_
  refine Wc.block ?_
  generalize hTg : code ++ awayI wh.length wh k e left = Tg at *
  refine Wc.loop (ι := Nat × List Sl.Instr × (Option Addr × Nat × List Value)) (fun (t, cd, (o, d, q)) => ([(35, .int .i64 (t : Int)), (34, Go.Value.int Go.IntKind.i64 (↑(List.length left) : Int)), (33, Go.Value.slice la (List.length left) lc), (11, Go.Value.int Go.IntKind.i64 (Go.Proofs.Ytbppmiimeccclaa.bezT (Go.Sl.R2.a (Option.getD wh[Int.toNat k]? Inhabited.default)) (Go.Sl.R2.b (Option.getD wh[Int.toNat k]? Inhabited.default)))), (10, Go.Value.int Go.IntKind.i64 (Go.Proofs.Ytbppmiimeccclaa.bezS (Go.Sl.R2.a (Option.getD wh[Int.toNat k]? Inhabited.default)) (Go.Sl.R2.b (Option.getD wh[Int.toNat k]? Inhabited.default)))), (8, Go.Value.pointer (Option.some (Go.Addr.mk b1 0 Option.none))), (0, Go.Value.pointer (Option.some (Go.Addr.mk b 0 Option.none))), (1, Go.Value.int Go.IntKind.i64 k), (3, Go.Value.int Go.IntKind.i64 (↑e : Int))], [(0, some b, .cells #[.int .i64 wh.length, .slice o cd.length d, .slice wa wh.length wc] 175), (1, o.map (·.block), Row 72 cd q), (2, Option.some b1, Go.Obj.cells (List.toArray (Go.Sl.Cells.enc (Option.getD wh[Int.toNat k]? Inhabited.default))) 75)])) (fun (t, cd, (o, d, q)) => t ≤ left.length ∧ cd ++ awayI wh.length wh k e (left.drop t) = Tg ∧ OwnA o d cd q) (fun (t, cd, (o, d, q)) => left.length - t) ((0, code, (ac, cc, j))) (⟨Nat.zero_le _, hTg, ho⟩) ⟨rfl, rfl, rfl, rfl, rfl, rfl, rfl, rfl, rfl, trivial⟩ ⟨rfl, rfl, rfl, trivial⟩ (fun ⟨t, cd, (o, d, q)⟩ => fun (hk : t ≤ left.length ∧ cd ++ awayI wh.length wh k e (left.drop t) = Tg ∧ OwnA o d cd q) => ?_)
  obtain ⟨ht1, ht3, ht4⟩ := hk
  have htl : cd.length ≤ 1048576 := by rw [← ht3, List.length_append] at hl; omega
  rcases Nat.lt_or_ge t left.length with hte | hte
  · have hi := hleft t hte
    have hdr : left.drop t = left[((t : Nat) : Int).toNat]?.getD default :: left.drop (t + 1) := by
      rw [List.drop_eq_getElem_cons hte, Int.toNat_natCast, List.getElem?_eq_getElem hte]; rfl
    rw [Int.toNat_natCast] at hdr
    obtain ⟨hni, hzi⟩ := hok (left[((t : Nat) : Int).toNat]?.getD default).toNat (by rw [Int.toNat_natCast]; omega)
    have hi' : 0 ≤ left[((t : Nat) : Int).toNat]?.getD default ∧ left[((t : Nat) : Int).toNat]?.getD default < wh.length := by rw [Int.toNat_natCast]; exact hi
    rw [hdr] at ht3
    have ht3 : cd ++ (awayOne wh.length wh k e (left[((t : Nat) : Int).toNat]?.getD default) ++ awayI wh.length wh k e (left.drop (t + 1))) = Tg := by rw [Int.toNat_natCast]; exact ht3
    have hlr : -512 ≤ linC wh k (left[((t : Nat) : Int).toNat]?.getD default) ∧ linC wh k (left[((t : Nat) : Int).toNat]?.getD default) ≤ 512 := lin_rng b2 hni
    have hm1 : (bezS (wh[k.toNat]?.getD default).a (wh[k.toNat]?.getD default).b * (wh[(left[((t : Nat) : Int).toNat]?.getD default).toNat]?.getD default).a).natAbs ≤ 17 * 16 := by rw [Int.natAbs_mul]; exact Nat.mul_le_mul (by omega) (by unfold near at hni; omega)
    have hm2 : (bezT (wh[k.toNat]?.getD default).a (wh[k.toNat]?.getD default).b * (wh[(left[((t : Nat) : Int).toNat]?.getD default).toNat]?.getD default).b).natAbs ≤ 17 * 16 := by rw [Int.natAbs_mul]; exact Nat.mul_le_mul (by omega) (by unfold near at hni; omega)
    have hTl : cd.length + (awayOne wh.length wh k e (left[((t : Nat) : Int).toNat]?.getD default)).length ≤ 1048576 := by rw [← ht3, List.length_append, List.length_append] at hl; omega
    unfold awayOne at ht3 hTl
    rw [List.length_append] at hTl
    refine Wc.seq ?_
    refine Wc.region rfl ?_
    refine Wl.q rfl (Qy.lss rfl rfl) ?_
    refine Wl.done ?_
    refine Ar.next ?_
    refine Wc.seq ?_
    refine Wc.condP rfl (by first | assumption | omega) ?_
    refine Wc.skip ?_
    refine Ar.next ?_
    refine Wc.seq ?_
    refine Wc.block ?_
    refine Wc.seq ?_
    refine Wc.region rfl ?_
    refine Wl.q rfl (Qy.at (α := Int) T.sl23 rfl rfl (by assumption) (by omega)) ?_
    refine Wl.q rfl (Qy.loadG T.one3 rfl (Arr.cell (by assumption) (by omega) 0 rfl rfl)) ?_
    refine Wl.q rfl (Qy.assign rfl) ?_
    refine Wl.done ?_
    refine Ar.next ?_
    refine Wc.seq ?_
    refine Wc.region rfl ?_
    refine Wl.q rfl (Qy.move rfl) ?_
    refine Wl.q rfl (Qy.nilCheck rfl) ?_
    refine Wl.q rfl (Qy.fieldAddr T.fa175_2 rfl) ?_
    refine Wl.q rfl (Qy.load 0 T.one47 rfl rfl rfl) ?_
    refine Wl.q rfl (Qy.move rfl) ?_
    refine Wl.q rfl (Qy.at (α := R2) T.sl47 rfl rfl (by assumption) (by omega)) ?_
    refine Wl.q rfl (Qy.loadsG T.agg75 rfl (Arr.elem (by assumption) (by omega)) rfl) ?_
    refine Wl.alloc 3 rfl T.zero75 (fun b3 => ?_)
    refine Wl.storeAll 3 T.size75 rfl rfl rfl rfl rfl rfl ?_
    refine Wl.done ?_
    refine Ar.next ?_
    refine Wc.seq ?_
    refine Wc.region rfl ?_
    refine Wl.q rfl (Qy.loadAll 2 T.agg75 rfl rfl rfl) ?_
    refine Wl.q rfl (Qy.loadAll 3 T.agg75 rfl rfl rfl) ?_
    refine Wl.call0 rfl T.fn68 rfl (c68N _ _ _ _ _ (by assumption) (by assumption)) ?_
    refine Wl.q rfl (Qy.move rfl) ?_
    refine Wl.q rfl (Qy.extract rfl rfl) ?_
    refine Wl.q rfl (Qy.extract rfl rfl) ?_
    refine Wl.q rfl (Qy.assign rfl) ?_
    refine Wl.q rfl (Qy.assign rfl) ?_
    refine Wl.done ?_
    refine Ar.next ?_
    refine Wc.seq ?_
    refine Wc.region rfl ?_
    refine Wl.q rfl (Qy.move rfl) ?_
    refine Wl.q rfl (Qy.fieldAddr T.fa75_0 rfl) ?_
    refine Wl.q rfl (Qy.load 3 T.one3 rfl rfl rfl) ?_
    refine Wl.q rfl (Qy.mul rfl rfl (by omega)) ?_
    refine Wl.q rfl (Qy.move rfl) ?_
    refine Wl.q rfl (Qy.fieldAddr T.fa75_1 rfl) ?_
    refine Wl.q rfl (Qy.load 3 T.one3 rfl rfl rfl) ?_
    refine Wl.q rfl (Qy.mul rfl rfl (by omega)) ?_
    refine Wl.q rfl (Qy.add rfl rfl (by omega)) ?_
    refine Wl.q rfl (Qy.assign rfl) ?_
    refine Wl.done ?_
    refine Ar.next ?_
    refine Wc.seq ?_
    refine Wc.seq ?_
    refine Wc.region rfl ?_
    refine Wl.q rfl (Qy.move rfl) ?_
    refine Wl.q rfl (Qy.neq rfl rfl) ?_
    refine Wl.q rfl (Qy.move rfl) ?_
    apply Wl.joinOr 3 63 66 rfl
    intro hg1
    refine Wl.want rfl rfl ?_
    refine Wl.q rfl (Qy.move rfl) ?_
    refine Wl.want rfl rfl ?_
    refine Wl.q rfl (Qy.eql rfl rfl) ?_
    refine Wl.q rfl (Qy.pick rfl rfl) ?_
    exact Wl.back 3 0 rfl rfl rfl rfl rfl
    intro hg1
    refine Wl.pass rfl rfl rfl ?_
    refine Wl.pass rfl rfl rfl ?_
    refine Wl.q rfl (Qy.pick rfl rfl) ?_
    exact Wl.back 3 0 rfl rfl rfl rfl rfl
    refine Wl.done ?_
    refine Ar.next ?_
    refine Wc.cond rfl (fun hc1 => ?_) (fun hc1 => ?_)
    refine Wc.seq ?_
    refine Wc.region rfl ?_
    refine Wl.q rfl (Qy.move rfl) ?_
    refine Wl.q rfl (Qy.move rfl) ?_
    refine Wl.call1 0 rfl T.fn160 rfl (c160 _ b _ _ _ (by omega)) (tags_of ⟨rfl, trivial⟩) ?_
    refine Wl.q rfl (Qy.move rfl) ?_
    refine Wl.q rfl (Qy.move rfl) ?_
    refine Wl.q rfl (Qy.move rfl) ?_
    rotate_left
    refine Wc.skip ?_
    refine Ar.next ?_
    refine Wc.seq ?_
    refine Wc.seq ?_
    refine Wc.region rfl ?_
    refine Wl.q rfl (Qy.move rfl) ?_
    refine Wl.q rfl (Qy.eql rfl rfl) ?_
    refine Wl.done ?_
    refine Ar.next ?_
    refine Wc.cond rfl (fun hc2 => ?_) (fun hc2 => ?_)
    refine Wc.exit ?_
    refine Ar.passExit ?_
    refine Ar.here ?_
    refine Ar.next ?_
    refine Wc.region rfl ?_
    refine Wl.q rfl (Qy.add rfl rfl (by omega)) ?_
    refine Wl.q rfl (Qy.move rfl) ?_
    refine Wl.done ?_
    rotate_left
    refine Wc.skip ?_
    refine Ar.next ?_
    refine Wc.region rfl ?_
    refine Wl.q rfl (Qy.move rfl) ?_
    refine Wl.q rfl (Qy.move rfl) ?_
    refine Wl.q rfl (Qy.move rfl) ?_
    rotate_left
    · have hcc : linC wh k (left[((t : Nat) : Int).toNat]?.getD default) ≠ 0 ∨ e = 0 := by
        rcases hc1 with h | h
        · exact .inl h
        · exact .inr (by omega)
      rw [if_pos hcc] at ht3 hTl
      rw [List.length_append, List.length_singleton] at hTl
      have hq1 : (cd ++ powI (3 * (wh.length : Int)) k (linC wh k (left[((t : Nat) : Int).toNat]?.getD default)) e).length ≤ 1048576 := by rw [List.length_append]; omega
      refine Wl.call 0 rfl T.fn159 rfl (c159 _ b _ o d cd q wa _ wc (3 * (wh.length : Int)) k (linC wh k (left[((t : Nat) : Int).toNat]?.getD default)) e ht4 hq1 hlr (by omega)) (tags_of ⟨rfl, rfl, trivial⟩) (fun v1 G1 Ho1 hle1 hp => ?_)
      obtain ⟨rfl, rfl, a1, d1, j1, ho1, rfl⟩ := hp
      refine Wl.done ?_
      refine Ar.next ?_
      refine Wc.region rfl ?_
      refine Wl.q rfl (Qy.move rfl) ?_
      refine Wl.q rfl (Qy.move rfl) ?_
      refine Wl.q rfl (Qy.move rfl) ?_
      refine Wl.q rfl (Qy.move rfl) ?_
      refine Wl.call1 0 rfl T.fn160 rfl (c160 _ b _ _ _ (by omega)) (tags_of ⟨rfl, trivial⟩) ?_
      refine Wl.call 0 rfl T.fn158 rfl (c158 _ b _ a1 d1 (cd ++ powI (3 * (wh.length : Int)) k (linC wh k (left[((t : Nat) : Int).toNat]?.getD default)) e) j1 wa _ wc _ _ _ _ _ ho1 hq1) (tags_of ⟨rfl, rfl, trivial⟩) (fun v2 G2 Ho2 hle2 hp => ?_)
      obtain ⟨rfl, rfl, a2, d2, j2, ho2, rfl⟩ := hp
      refine Wl.done ?_
      refine Ar.next ?_
      refine Wc.seq ?_
      refine Wc.seq ?_
      refine Wc.region rfl ?_
      refine Wl.q rfl (Qy.move rfl) ?_
      refine Wl.q rfl (Qy.eql rfl rfl) ?_
      refine Wl.done ?_
      refine Ar.next ?_
      refine Wc.cond rfl (fun hc2 => ?_) (fun hc2 => ?_)
      refine Wc.exit ?_
      refine Ar.passExit ?_
      refine Ar.here ?_
      refine Ar.next ?_
      refine Wc.region rfl ?_
      refine Wl.q rfl (Qy.add rfl rfl (by omega)) ?_
      refine Wl.q rfl (Qy.move rfl) ?_
      refine Wl.done ?_
      rotate_left
      refine Wc.skip ?_
      refine Ar.next ?_
      refine Wc.region rfl ?_
      refine Wl.q rfl (Qy.move rfl) ?_
      refine Wl.q rfl (Qy.move rfl) ?_
      refine Wl.q rfl (Qy.move rfl) ?_
      rotate_left
      · have hdd : detC wh k (left[((t : Nat) : Int).toNat]?.getD default) = 1 := hc2
        rw [if_pos hdd, List.append_nil] at ht3
        refine Ar.re 35 rfl (show _ = Value.int .i64 ((t + 1 : Nat) : Int) from rfl) ?_
        refine Ar.again ((t + 1, (cd ++ powI (3 * (wh.length : Int)) k (linC wh k (left[((t : Nat) : Int).toNat]?.getD default)) e ++ [(⟨4, (left[((t : Nat) : Int).toNat]?.getD default), (left[((t : Nat) : Int).toNat]?.getD default), 3 * (wh.length : Int), 0⟩ : Sl.Instr)]), (a2, d2, j2))) ?_ ?_ rfl ⟨rfl, rfl, rfl, rfl, rfl, rfl, rfl, rfl, rfl, trivial⟩ ⟨rfl, rfl, rfl, trivial⟩
        · refine ⟨hte, ?_, ho2⟩
          rw [← ht3]; simp only [List.append_assoc]
        · show left.length - (t + 1) < left.length - t
          omega
      · have hdd : ¬ detC wh k (left[((t : Nat) : Int).toNat]?.getD default) = 1 := hc2
        rw [if_neg hdd] at ht3 hTl
        have hq2 : (cd ++ powI (3 * (wh.length : Int)) k (linC wh k (left[((t : Nat) : Int).toNat]?.getD default)) e ++ [(⟨4, (left[((t : Nat) : Int).toNat]?.getD default), (left[((t : Nat) : Int).toNat]?.getD default), 3 * (wh.length : Int), 0⟩ : Sl.Instr)]).length ≤ 1048576 := by rw [List.length_append, List.length_append, List.length_singleton]; omega
        refine Wl.call 0 rfl T.fn124 rfl (c124 _ b _ a2 d2 (cd ++ powI (3 * (wh.length : Int)) k (linC wh k (left[((t : Nat) : Int).toNat]?.getD default)) e ++ [(⟨4, (left[((t : Nat) : Int).toNat]?.getD default), (left[((t : Nat) : Int).toNat]?.getD default), 3 * (wh.length : Int), 0⟩ : Sl.Instr)]) j2 wa _ wc _ _ ho2 hq2) (tags_of ⟨rfl, rfl, trivial⟩) (fun v3 G3 Ho3 hle3 hp => ?_)
        obtain ⟨rfl, rfl, a3, d3, j3, ho3, rfl⟩ := hp
        refine Wl.done ?_
        refine Ar.outNormal ?_
        refine Ar.next ?_
        refine Wc.region rfl ?_
        refine Wl.q rfl (Qy.add rfl rfl (by omega)) ?_
        refine Wl.q rfl (Qy.move rfl) ?_
        refine Wl.done ?_
        refine Ar.re 35 rfl (show _ = Value.int .i64 ((t + 1 : Nat) : Int) from rfl) ?_
        refine Ar.again ((t + 1, (cd ++ powI (3 * (wh.length : Int)) k (linC wh k (left[((t : Nat) : Int).toNat]?.getD default)) e ++ [(⟨4, (left[((t : Nat) : Int).toNat]?.getD default), (left[((t : Nat) : Int).toNat]?.getD default), 3 * (wh.length : Int), 0⟩ : Sl.Instr)]) ++ overI (left[((t : Nat) : Int).toNat]?.getD default) (detC wh k (left[((t : Nat) : Int).toNat]?.getD default)), (a3, d3, j3))) ?_ ?_ rfl ⟨rfl, rfl, rfl, rfl, rfl, rfl, rfl, rfl, rfl, trivial⟩ ⟨rfl, rfl, rfl, trivial⟩
        · refine ⟨hte, ?_, ho3⟩
          rw [← ht3]; simp only [List.append_assoc]
        · show left.length - (t + 1) < left.length - t
          omega
    · have hcc : ¬ (linC wh k (left[((t : Nat) : Int).toNat]?.getD default) ≠ 0 ∨ e = 0) := fun h => hc1 (h.elim .inl (fun h => .inr (by omega)))
      rw [if_neg hcc] at ht3 hTl
      have hdd : detC wh k (left[((t : Nat) : Int).toNat]?.getD default) = 1 := hc2
      rw [if_pos hdd] at ht3
      refine Ar.re 35 rfl (show _ = Value.int .i64 ((t + 1 : Nat) : Int) from rfl) ?_
      refine Ar.again ((t + 1, cd, (o, d, q))) ?_ ?_ rfl ⟨rfl, rfl, rfl, rfl, rfl, rfl, rfl, rfl, rfl, trivial⟩ ⟨rfl, rfl, rfl, trivial⟩
      · exact ⟨hte, ht3, ht4⟩
      · show left.length - (t + 1) < left.length - t
        omega
    · have hcc : ¬ (linC wh k (left[((t : Nat) : Int).toNat]?.getD default) ≠ 0 ∨ e = 0) := fun h => hc1 (h.elim .inl (fun h => .inr (by omega)))
      rw [if_neg hcc] at ht3 hTl
      have hdd : ¬ detC wh k (left[((t : Nat) : Int).toNat]?.getD default) = 1 := hc2
      rw [if_neg hdd] at ht3
      refine Wl.call 0 rfl T.fn124 rfl (c124 _ b _ o d cd q wa _ wc _ _ ht4 htl) (tags_of ⟨rfl, rfl, trivial⟩) (fun v1 G1 Ho1 hle1 hp => ?_)
      obtain ⟨rfl, rfl, a1, d1, j1, ho1, rfl⟩ := hp
      refine Wl.done ?_
      refine Ar.outNormal ?_
      refine Ar.next ?_
      refine Wc.region rfl ?_
      refine Wl.q rfl (Qy.add rfl rfl (by omega)) ?_
      refine Wl.q rfl (Qy.move rfl) ?_
      refine Wl.done ?_
      refine Ar.re 35 rfl (show _ = Value.int .i64 ((t + 1 : Nat) : Int) from rfl) ?_
      refine Ar.again ((t + 1, cd ++ overI (left[((t : Nat) : Int).toNat]?.getD default) (detC wh k (left[((t : Nat) : Int).toNat]?.getD default)), (a1, d1, j1))) ?_ ?_ rfl ⟨rfl, rfl, rfl, rfl, rfl, rfl, rfl, rfl, rfl, trivial⟩ ⟨rfl, rfl, rfl, trivial⟩
      · refine ⟨hte, ?_, ho1⟩
        rw [← ht3, List.nil_append]; simp only [List.append_assoc]
      · show left.length - (t + 1) < left.length - t
        omega
  · have hte : t = left.length := by omega
    subst hte
    rw [List.drop_length] at ht3
    have ht3 : cd = Tg := by rw [← ht3]; exact (List.append_nil _).symm
    subst ht3
    refine Wc.seq ?_
    refine Wc.region rfl ?_
    refine Wl.q rfl (Qy.lss rfl rfl) ?_
    refine Wl.done ?_
    refine Ar.next ?_
    refine Wc.seq ?_
    refine Wc.condN rfl (by first | assumption | omega) ?_
    refine Wc.exit ?_
    refine Ar.passExit ?_
    refine Ar.passExit ?_
    refine Ar.here ?_
    refine Ar.scopeN ?_
    refine Ar.out0 (by first | exact .inl rfl | exact .inr rfl) (Ho := [(0, some b, .cells #[.int .i64 wh.length, .slice o cd.length d, .slice wa wh.length wc] 175), (1, o.map (·.block), Row 72 cd q)]) rfl ⟨rfl, rfl, trivial⟩ ?_
    exact ⟨rfl, rfl, o, d, q, ht4, rfl⟩
end Go.Proofs.Ytbppmiimeccclaa
set_option linter.unusedVariables false
namespace Go.Sl
open Go
/-- a truth value as a decision -/
theorem boolDec (y : Bool) : Value.bool y = Value.bool (decide (y = true)) := by cases y <;> rfl
section
variable {α : Type} [Cells α] [Inhabited α] {P : Program} {ops : Array Oper} {rest : List Oper} {B : Bs} {e : Env} {D : List Deferred} {H : Hp} {G : Imm} {K : Act → World → Prop}
  {ty : TypeId} {pos : String} {after : Array Edge} {d : Nat}
theorem flat_setK (k : Nat) (v : Value) (hk : k < Cells.sz α) : ∀ (xs : List α) (i : Nat) (z : α), i < xs.length → Cells.enc z = (Cells.enc (xs[i]?.getD default)).set k v → (flat xs).set (i * Cells.sz α + k) v = flat (xs.set i z)
  | [], i, z, h, _ => by simp at h
  | x :: xs, 0, z, _, hz => by
    have hz : Cells.enc z = (Cells.enc x).set k v := hz
    rw [flat_cons, Nat.zero_mul, Nat.zero_add, List.set_append_left _ _ (by rw [Cells.len]; exact hk), List.set_cons_zero, flat_cons, hz]
  | x :: xs, i + 1, z, h, hz => by
    have ih := flat_setK k v hk xs i z (by simpa using h) hz
    have h1 : (i + 1) * Cells.sz α + k = (Cells.enc x).length + (i * Cells.sz α + k) := by rw [Cells.len, Nat.add_mul]; omega
    rw [flat_cons, List.set_cons_succ, flat_cons, ← ih, h1, List.set_append_right _ _ (by omega), Nat.add_sub_cancel_left]
/-- one cell of an element is written -/
theorem Wl.setP {T : TypeId} {x y : Operand} {b : Nat} {E : TypeId} {xs : List α} {junk : List Value} {m : Int} {v : Value} (z : α) (t k : Nat) (hs : (P.info? T).map (·.size) = some 1)
    (hx : e.ev x = some (.pointer (some ⟨b, 0 + m.toNat * Cells.sz α + k, none⟩))) (hy : e.ev y = some v) (h1 : v.oneCell' = true) (ht : H.get t = some (some b, Row E xs junk)) (hm : 0 ≤ m ∧ m < xs.length) (hk : k < Cells.sz α)
    (hz : Cells.enc z = (Cells.enc (xs[m.toNat]?.getD default)).set k v)
    (h : Wl P ops rest B ⟨e, D, (t, some b, Row E (xs.set m.toNat z) junk) :: H, G⟩ K) : Wl P ops (⟨none, .store T x y, ty, pos, after, none⟩ :: rest) B ⟨e, D, H, G⟩ K :=
  Wl.writes (v := undef) (x := .skip) ht (.inl ⟨rfl, rfl⟩) (fun a w hh => by
    have hlt : m.toNat < xs.length := by omega
    have hle : m.toNat * Cells.sz α + Cells.sz α ≤ (flat xs).length := by rw [flat_length, ← Nat.succ_mul]; exact Nat.mul_le_mul_right _ hlt
    have hb := hh.mem.own t b _ ht
    have hst := run_storeAt (P := P) (T := T) (off := 0 + m.toNat * Cells.sz α + k) (cs := flat xs ++ junk) (vs := [v]) (v := v) hs (cells_one h1) (by simp [h1]) hb (by rw [List.length_append]; simp; omega)
    refine ⟨_, by simp only [execOp, hh.eval hx, hh.eval hy, Sem.run_bind, hst, Result.andThen_ok, Sem.run_pure]; rfl, setRow_upd w b _, ?_⟩
    rw [setRow_heap w b _ _ E _ hb]
    have e1 : (flat xs ++ junk).take (0 + m.toNat * Cells.sz α + k) ++ [v] ++ (flat xs ++ junk).drop (0 + m.toNat * Cells.sz α + k + [v].length) = flat (xs.set m.toNat z) ++ junk := by
      rw [← flat_setK k v hk xs m.toNat z hlt hz, Nat.zero_add, ← List.set_append_left _ _ (by omega), List.set_eq_take_append_cons_drop, if_pos (by rw [List.length_append]; omega), List.append_assoc]; rfl
    rw [e1]; rfl) h
end
section
variable {α : Type} [Cells α] {P : Program} {ops : Array Oper} {rest : List Oper} {B : Bs} {e : Env} {D : List Deferred} {H : Hp} {G : Imm} {K : Act → World → Prop}
  {ty : TypeId} {pos : String} {after : Array Edge} {d : Nat}
/-- 'append(s, ys...)' to a slice of the call's own that is asked later on: what it grew out of stays known, in place or not -/
theorem Wl.appendK {s x : Operand} {T E bytes : Nat} {zs : List Value} {a ad : Option Addr} {c c2 : Nat} {xs ys : List α} {junk : List Value} (t t2 : Nat) (hn : Nat.ble (d + 1) B.n = true) (hT : isSlice P T E (Cells.sz α)) (hE : ElemOf P E (Cells.sz α) bytes zs)
    (hs : e.ev s = some (.slice a xs.length c)) (hx : e.ev x = some (.slice ad ys.length c2)) (ht : H.get t = some (a.map (·.block), Row E xs junk)) (ho : OwnA a c xs junk) (hsrc : Src H G ad ys)
    (hb : (xs.length + ys.length) * bytes ≤ 140737488355328) (hl : xs.length + ys.length ≤ maxLen)
    (h : ∀ c' junk', OwnA a c' (xs ++ ys) junk' → Wl P ops rest B ⟨(d, .slice a (xs ++ ys).length c') :: e, D, (t, a.map (·.block), Row E (xs ++ ys) junk') :: H, G⟩ K)
    (h2 : ∀ a' c' junk', OwnA a' c' (xs ++ ys) junk' → Wl P ops rest B ⟨(d, .slice a' (xs ++ ys).length c') :: e, D, (t2, a'.map (·.block), Row E (xs ++ ys) junk') :: H, G⟩ K) :
    Wl P ops (⟨some d, .call { callee := .builtin .append, args := #[s, x], argTypes := #[T, T] }, ty, pos, after, none⟩ :: rest) B ⟨e, D, H, G⟩ K := by
  intro ac w hh
  obtain ⟨a', c', junk', w', hrun, ho', hcase⟩ := run_append (c2 := c2) (ty := ty) hh.mem hT hE ht ho hsrc hb hl
  unfold lstWp
  rw [if_pos (by simp [Region.wanted])]
  unfold opWp
  have hex : (execOp ac.eval ⟨some d, .call { callee := .builtin .append, args := #[s, x], argTypes := #[T, T] }, ty, pos, after, none⟩).run P w = .ok (.value (.slice a' (xs ++ ys).length c')) w' := by
    simp only [execOp, resolve, invoke, builtin, Sem.run_bind, Sem.run_pure, Result.andThen_ok, List.map_toArray, List.map_cons, List.map_nil, hh.eval hs, hh.eval hx, hrun]
  rw [hex]
  rcases hcase with ⟨rfl, rfl, rfl⟩ | ⟨b, rfl, rfl, hu, hbk⟩ | ⟨rfl, hu, hsz, hbk⟩
  · exact h c' junk' ho' _ _ (Hold.put (hh.noBlock t _) hn _)
  · exact h c' junk' ho' _ _ (Hold.put (hh.set (t := t) (b := b) ht hu hbk) hn _)
  · exact h2 _ c' junk' ho' _ _ (Hold.put (hh.ownNew t2 hu hsz hbk) hn _)
end
end Go.Sl
set_option maxRecDepth 100000
set_option linter.unusedVariables false
namespace Go.Proofs.Ytbppmiimeccclaa
open Go Go.Sl
set_option maxHeartbeats 4000000
theorem rStep_eq {n u v : Int} {ti : List Bool} {m : Nat} {low own : Bool} (hl : (decide (0 < m) && ti[m - 1]?.getD false && decide (u ≠ 0)) = low) (ho : (ti[m]?.getD false && decide (v ≠ 0)) = own) :
    rStep n u v ti m = (ti.set m (own || low), (if low then timesI (3 * n) (2 * n + (m - 1)) u else []) ++ (if own && low then timesI (2 * n + m) (2 * n + m) v ++ [⟨3, 2 * n + m, 2 * n + m, 3 * n, 0⟩] else if own then timesI (2 * n + m) (2 * n + m) v else if low then timesI (2 * n + m) (3 * n) 1 else [])) := by
  subst hl ho; rfl
theorem c161 (G : Imm) (b : Nat) (ac : Option Addr) (cc : Nat) (code : List Sl.Instr) (j : List Value) (wa : Option Addr) (wc : Nat) (wh : List R2) (k : Int) (e : Nat) (ho : OwnA ac cc code j) (hw : Arr G wa wh)
    (hwl : wh.length ≤ 15) (hk : 0 ≤ k ∧ k < wh.length) (he : e < wh.length) (hok : okP (wh[k.toNat]?.getD default)) (hl : (code ++ raisedI wh.length (bezS (wh[k.toNat]?.getD default).a (wh[k.toNat]?.getD default).b) (bezT (wh[k.toNat]?.getD default).a (wh[k.toNat]?.getD default).b) k e).length ≤ 1048576) :
    Does Try.prog 161 [.pointer (some ⟨b, 0, none⟩), .int .i64 k, .int .i64 e] G [(0, some b, .cells #[.int .i64 wh.length, .slice ac code.length cc, .slice wa wh.length wc] 175), (1, ac.map (·.block), Row 72 code j)]
      (fun v G' Ho => G' = G ∧ ∃ (a' : Option Addr) (c' : Nat) (j' : List Value) (th : List Bool) (cd : List Sl.Instr) (tb : Nat), th = raisedT wh.length (bezS (wh[k.toNat]?.getD default).a (wh[k.toNat]?.getD default).b) (bezT (wh[k.toNat]?.getD default).a (wh[k.toNat]?.getD default).b) e ∧
        cd = code ++ raisedI wh.length (bezS (wh[k.toNat]?.getD default).a (wh[k.toNat]?.getD default).b) (bezT (wh[k.toNat]?.getD default).a (wh[k.toNat]?.getD default).b) k e ∧ v = .slice (some ⟨tb, 0, none⟩) th.length th.length ∧ OwnA a' c' cd j' ∧ OwnA (some ⟨tb, 0, none⟩) th.length th [] ∧
        Ho = [(0, some b, .cells #[.int .i64 wh.length, .slice a' cd.length c', .slice wa wh.length wc] 175), (1, a'.map (·.block), Row 72 cd j'), (2, some tb, Row 4 th [])]) := by
  have hl0 : code.length ≤ 1048576 := by rw [List.length_append] at hl; omega
  obtain ⟨hnk, hzk⟩ := hok
  obtain ⟨_, b2, _, _⟩ := bez_facts hnk hzk
  refine Does.enter Try.func161 rfl Try.ntmps161 rfl (fun w => ?_)
  refine Wc.seq ?_
  refine Wc.region rfl ?_
  refine Wl.q rfl (Qy.assign rfl) ?_
  refine Wl.done ?_
  refine Ar.next ?_
  refine Wc.seq ?_
  refine Wc.region rfl ?_
  refine Wl.q rfl (Qy.move rfl) ?_
  refine Wl.q rfl (Qy.nilCheck rfl) ?_
  refine Wl.q rfl (Qy.fieldAddr T.fa175_2 rfl) ?_
  refine Wl.q rfl (Qy.load 0 T.one47 rfl rfl rfl) ?_
  refine Wl.q rfl (Qy.move rfl) ?_
  refine Wl.q rfl (Qy.at (α := R2) T.sl47 rfl rfl (by assumption) (by omega)) ?_
  refine Wl.q rfl (Qy.loadsG T.agg75 rfl (Arr.elem (by assumption) (by omega)) rfl) ?_
  refine Wl.call0 rfl T.fn123 rfl (c123 _ _ _ (by assumption) (by assumption)) ?_
  refine Wl.q rfl (Qy.move rfl) ?_
  refine Wl.q rfl (Qy.extract rfl rfl) ?_
  refine Wl.q rfl (Qy.extract rfl rfl) ?_
  refine Wl.q rfl (Qy.extract rfl rfl) ?_
  refine Wl.q rfl (Qy.extract rfl rfl) ?_
  refine Wl.q rfl (Qy.assign rfl) ?_
  refine Wl.q rfl (Qy.assign rfl) ?_
  refine Wl.q rfl (Qy.assign rfl) ?_
  refine Wl.q rfl (Qy.assign rfl) ?_
  refine Wl.done ?_
  refine Ar.next ?_
  refine Wc.seq ?_
  refine Wc.region rfl ?_
  refine Wl.q rfl (Qy.move rfl) ?_
  refine Wl.q rfl (Qy.add rfl rfl (by omega)) ?_
  refine Wl.make (α := Bool) 2 rfl T.sl41 T.el4 rfl rfl (by omega) (by omega) (fun b1 => ?_)
  refine Wl.q rfl (Qy.assign rfl) ?_
  refine Wl.done ?_
  refine Ar.next ?_
  refine Wc.seq ?_
  refine Wc.region rfl ?_
  refine Wl.q rfl (Qy.move rfl) ?_
  generalize hu : bezS (wh[k.toNat]?.getD default).a (wh[k.toNat]?.getD default).b = u at *
  generalize hv : bezT (wh[k.toNat]?.getD default).a (wh[k.toNat]?.getD default).b = v at *
  have hR1 : List.replicate ((e : Int) + 1).toNat (default : Bool) = List.replicate (e + 1) false := by rw [show ((e : Int) + 1).toNat = e + 1 by omega]; rfl
  generalize hR0 : List.replicate ((e : Int) + 1).toNat (default : Bool) = R0 at *
  have hR0l : R0.length = e + 1 := by rw [hR1, List.length_replicate]
  have hoR : OwnA (some ⟨b1, 0, none⟩) R0.length R0 [] := OwnA.made (by simp only [maxLen]; omega)
  refine Wl.q rfl (Qy.indexAddrO (α := Bool) T.sl41 rfl rfl (by assumption) (by omega)) ?_
  refine Wl.setO (z := _) 2 T.size4 rfl rfl rfl (by assumption) (by omega) rfl (fun ho1 => ?_)
  refine Wl.done ?_
  refine Ar.next ?_
  refine Wc.seq ?_
  refine Wc.region rfl ?_
  refine Wl.q rfl (Qy.move rfl) ?_
  refine Wl.q rfl (Qy.move rfl) ?_
  refine Wl.call1 0 rfl T.fn162 rfl (c162 _ b _ _ _ _ (by omega) (by omega)) (tags_of ⟨rfl, trivial⟩) ?_
  refine Wl.q rfl (Qy.move rfl) ?_
  refine Wl.call 0 rfl T.fn126 rfl (c126 _ b _ ac cc code j wa _ wc _ _ _ ho hl0) (tags_of ⟨rfl, rfl, trivial⟩) (fun v1 G1 Ho1 hle1 hp => ?_)
  obtain ⟨rfl, rfl, a1, d1, j1, ho1, rfl⟩ := hp
  refine Wl.done ?_
  refine Ar.next ?_
  refine Wc.seq ?_
  refine Wc.seq ?_
  refine Wc.region rfl ?_
  refine Wl.q rfl (Qy.assign rfl) ?_
  refine Wl.done ?_
  refine Ar.next ?_
  refine Wc.block ?_
  have hTg : code ++ raisedI wh.length u v k e = (code ++ timesI (2 * (wh.length : Int) + 0) k 1) ++ (rOut wh.length u v e 1 (R0.set (Int.toNat 0) true)).2 := by
    unfold raisedI
    rw [Int.add_zero, hR1, List.append_assoc]; rfl
  have hTh : raisedT wh.length u v e = (rOut wh.length u v e 1 (R0.set (Int.toNat 0) true)).1 := by unfold raisedT; rw [hR1]; rfl
  generalize code ++ raisedI wh.length u v k e = Tg at *
  generalize raisedT wh.length u v e = Th at *
  refine Wc.re 11 rfl (show _ = Value.slice (some ⟨b1, 0, none⟩) (R0.set (Int.toNat 0) true).length (e + 1) by rw [List.length_set, hR0l]) ?_
  refine Wc.loop (ι := Nat × List Bool × List Sl.Instr × (Option Addr × Nat × List Value)) (fun (d, th, cd, (o, dd, q)) => ([(12, .int .i64 (d : Int)), (11, .slice (some ⟨b1, 0, none⟩) th.length (e + 1)), (9, Go.Value.int Go.IntKind.i64 v), (8, Go.Value.int Go.IntKind.i64 u), (6, Go.Value.slice Option.none 0 0), (0, Go.Value.pointer (Option.some (Go.Addr.mk b 0 Option.none))), (2, Go.Value.int Go.IntKind.i64 (↑e : Int))], [(0, some b, .cells #[.int .i64 wh.length, .slice o cd.length dd, .slice wa wh.length wc] 175), (1, o.map (·.block), Row 72 cd q), (2, some b1, Row 4 th [])])) (fun (d, th, cd, (o, dd, q)) => (1 ≤ d ∧ d ≤ e + 1) ∧ th.length = e + 1 ∧ (rOut wh.length u v (e + 1 - d) d th).1 = Th ∧ cd ++ (rOut wh.length u v (e + 1 - d) d th).2 = Tg ∧ OwnA (some ⟨b1, 0, none⟩) (e + 1) th [] ∧ OwnA o dd cd q) (fun (d, th, cd, (o, dd, q)) => e + 1 - d) ((1, _, code ++ timesI (2 * (wh.length : Int) + 0) k 1, (a1, d1, j1))) (⟨by omega, by rw [List.length_set, hR0l], hTh.symm, hTg.symm, by rw [← hR0l]; assumption, ho1⟩) ⟨rfl, rfl, rfl, rfl, rfl, rfl, rfl, trivial⟩ ⟨rfl, rfl, rfl, trivial⟩ (fun ⟨d, th, cd, (o, dd, q)⟩ => fun (hk : (1 ≤ d ∧ d ≤ e + 1) ∧ th.length = e + 1 ∧ (rOut wh.length u v (e + 1 - d) d th).1 = Th ∧ cd ++ (rOut wh.length u v (e + 1 - d) d th).2 = Tg ∧ OwnA (some ⟨b1, 0, none⟩) (e + 1) th [] ∧ OwnA o dd cd q) => ?_)
  obtain ⟨⟨hd1, hd2⟩, hth, hT1, hT2, hoT, hoC⟩ := hk
  have hcl : cd.length ≤ 1048576 := by rw [← hT2, List.length_append] at hl; omega
  rcases Nat.lt_or_ge d (e + 1) with hde | hde
  · have e1 : e + 1 - d = (e + 1 - (d + 1)) + 1 := by omega
    rw [e1] at hT1 hT2
    unfold rOut at hT1 hT2
    simp only at hT1 hT2
    refine Wc.seq ?_
    refine Wc.seq ?_
    refine Wc.region rfl ?_
    refine Wl.q rfl (Qy.move rfl) ?_
    refine Wl.q rfl (Qy.move rfl) ?_
    refine Wl.q rfl (Qy.leq rfl rfl) ?_
    refine Wl.done ?_
    refine Ar.next ?_
    refine Wc.condP rfl (by first | assumption | omega) ?_
    refine Wc.skip ?_
    refine Ar.next ?_
    refine Wc.seq ?_
    refine Wc.block ?_
    refine Wc.seq ?_
    refine Wc.region rfl ?_
    refine Wl.q rfl (Qy.move rfl) ?_
    refine Wl.q rfl (Qy.assign rfl) ?_
    refine Wl.done ?_
    refine Ar.next ?_
    refine Wc.block ?_
    generalize hA1 : (rIn wh.length u v (d + 1) th).1 = A1 at *
    generalize hB1 : (rIn wh.length u v (d + 1) th).2 = B1 at *
    have hcb : (cd ++ B1).length ≤ 1048576 := by rw [← hT2, ← List.append_assoc, List.length_append] at hl; omega
    refine Wc.re 13 rfl (show _ = Value.int .i64 (((d + 1 : Nat) : Int) - 1) by congr 1; omega) ?_
    refine Wc.loop (ι := Nat × List Bool × List Sl.Instr × (Option Addr × Nat × List Value)) (fun (m, ti, ci, (o, dd, q)) => ([(13, .int .i64 ((m : Int) - 1)), (2, .int .i64 (e : Int)), (12, .int .i64 (d : Int)), (11, .slice (some ⟨b1, 0, none⟩) ti.length (e + 1)), (9, Go.Value.int Go.IntKind.i64 v), (8, Go.Value.int Go.IntKind.i64 u), (6, Go.Value.slice Option.none 0 0), (0, Go.Value.pointer (Option.some (Go.Addr.mk b 0 Option.none)))], [(0, some b, .cells #[.int .i64 wh.length, .slice o ci.length dd, .slice wa wh.length wc] 175), (1, o.map (·.block), Row 72 ci q), (2, some b1, Row 4 ti [])])) (fun (m, ti, ci, (o, dd, q)) => m ≤ d + 1 ∧ ti.length = e + 1 ∧ (rIn wh.length u v m ti).1 = A1 ∧ ci ++ (rIn wh.length u v m ti).2 = cd ++ B1 ∧ OwnA (some ⟨b1, 0, none⟩) (e + 1) ti [] ∧ OwnA o dd ci q) (fun (m, ti, ci, (o, dd, q)) => m) ((d + 1, th, cd, (o, dd, q))) (⟨Nat.le_refl _, hth, hA1, by rw [hB1], hoT, hoC⟩) ⟨rfl, rfl, rfl, rfl, rfl, rfl, rfl, rfl, trivial⟩ ⟨rfl, rfl, rfl, trivial⟩ (fun ⟨m, ti, ci, (o, dd, q)⟩ => fun (hk : m ≤ d + 1 ∧ ti.length = e + 1 ∧ (rIn wh.length u v m ti).1 = A1 ∧ ci ++ (rIn wh.length u v m ti).2 = cd ++ B1 ∧ OwnA (some ⟨b1, 0, none⟩) (e + 1) ti [] ∧ OwnA o dd ci q) => ?_)
    obtain ⟨hm1, hti, hS1, hS2, hoTi, hoCi⟩ := hk
    have hcil : ci.length ≤ 1048576 := by rw [← hS2, List.length_append] at hcb; omega
    match m, hm1, hS1, hS2 with
    | 0, hm1, hS1, hS2 =>
      have hS1 : ti = A1 := hS1
      have hS2 : ci = cd ++ B1 := by rw [← hS2]; exact (List.append_nil _).symm
      refine Wc.seq ?_
      refine Wc.seq ?_
      refine Wc.region rfl ?_
      refine Wl.q rfl (Qy.move rfl) ?_
      refine Wl.q rfl (Qy.geq rfl rfl) ?_
      refine Wl.done ?_
      refine Ar.next ?_
      refine Wc.condN rfl (by first | assumption | omega) ?_
      refine Wc.exit ?_
      refine Ar.passExit ?_
      refine Ar.passExit ?_
      refine Ar.here ?_
      refine Ar.outNormal ?_
      refine Ar.next ?_
      refine Wc.region rfl ?_
      refine Wl.q rfl (Qy.move rfl) ?_
      refine Wl.q rfl (Qy.add rfl rfl (by omega)) ?_
      refine Wl.q rfl (Qy.assign rfl) ?_
      refine Wl.done ?_
      refine Ar.re 12 rfl (show _ = Value.int .i64 ((d + 1 : Nat) : Int) from rfl) ?_
      refine Ar.again ((d + 1, ti, ci, (o, dd, q))) ?_ ?_ rfl ⟨rfl, rfl, rfl, rfl, rfl, rfl, rfl, trivial⟩ ⟨rfl, rfl, rfl, trivial⟩
      · refine ⟨by omega, hti, ?_, ?_, hoTi, hoCi⟩
        · rw [hS1]; exact hT1
        · rw [hS1, hS2, List.append_assoc]; exact hT2
      · show e + 1 - (d + 1) < e + 1 - d
        omega
    | m + 1, hm1, hS1, hS2 =>
      refine Wc.re 13 rfl (show _ = Value.int .i64 (m : Int) by congr 1; omega) ?_
      unfold rIn at hS1 hS2
      simp only at hS1 hS2
      have hdf : ∀ z : Nat, ti[z]?.getD default = ti[z]?.getD false := fun z => rfl
      have hlowF : (¬ (0 < m ∧ ti[m - 1]?.getD false = true ∧ u ≠ 0)) → (decide (0 < m) && ti[m - 1]?.getD false && decide (u ≠ 0)) = false := fun h => by
        cases hx : ti[m - 1]?.getD false <;> by_cases h1 : 0 < m <;> by_cases h2 : u ≠ 0 <;> simp [h1, h2]
        exact h ⟨h1, hx, h2⟩
      have hownF : (¬ (ti[m]?.getD false = true ∧ v ≠ 0)) → (ti[m]?.getD false && decide (v ≠ 0)) = false := fun h => by
        cases hx : ti[m]?.getD false <;> by_cases h2 : v ≠ 0 <;> simp [h2]
        exact h ⟨hx, h2⟩
      have hownT : (ti[m]?.getD false = true ∧ v ≠ 0) → (ti[m]?.getD false && decide (v ≠ 0)) = true := fun h => by rw [h.1, decide_eq_true h.2]; rfl
      have hlowT : (0 < m ∧ ti[m - 1]?.getD false = true ∧ u ≠ 0) → (decide (0 < m) && ti[m - 1]?.getD false && decide (u ≠ 0)) = true := fun h => by rw [h.2.1, decide_eq_true h.1, decide_eq_true h.2.2]; rfl
      have hbd : (ci ++ (rStep wh.length u v ti m).2).length ≤ 1048576 := by
        have : (ci ++ ((rStep wh.length u v ti m).2 ++ (rIn wh.length u v m (rStep wh.length u v ti m).1).2)).length ≤ 1048576 := by rw [hS2]; exact hcb
        rw [List.length_append, List.length_append] at this
        rw [List.length_append]; omega
      have hoN : ∀ {x : Bool}, OwnA (some ⟨b1, 0, none⟩) (e + 1) (ti.set m x) [] := hoTi.elim (fun h => by cases h.1) (fun ⟨b, h1, h2, h3, h4⟩ => .inr ⟨b, h1, by rw [List.length_set]; exact h2, by rw [List.length_set]; exact h3, h4⟩)
      rcases Nat.eq_zero_or_pos m with hm0 | hm0
      · by_cases hO : ti[(m : Int).toNat]?.getD default = true ∧ v ≠ 0
        · have hrs := rStep_eq (n := wh.length) (hlowF (fun h => by omega)) (hownT hO)
          rw [hrs] at hbd
          refine Wc.seq ?_
          refine Wc.seq ?_
          refine Wc.region rfl ?_
          refine Wl.q rfl (Qy.move rfl) ?_
          refine Wl.q rfl (Qy.geq rfl rfl) ?_
          refine Wl.done ?_
          refine Ar.next ?_
          refine Wc.condP rfl (by first | assumption | omega) ?_
          refine Wc.skip ?_
          refine Ar.next ?_
          refine Wc.seq ?_
          refine Wc.block ?_
          refine Wc.seq ?_
          refine Wc.region rfl ?_
          refine Wl.q rfl (Qy.move rfl) ?_
          refine Wl.q rfl (Qy.gtr rfl rfl) ?_
          refine Wl.q rfl (Qy.move rfl) ?_
          refine Wl.no 51 rfl (by first | assumption | omega) ?_
          refine Wl.pass rfl rfl rfl ?_
          refine Wl.pass rfl rfl rfl ?_
          refine Wl.pass rfl rfl rfl ?_
          refine Wl.pass rfl rfl rfl ?_
          refine Wl.pass rfl rfl rfl ?_
          refine Wl.q rfl (Qy.pick rfl rfl) ?_
          refine Wl.q rfl (Qy.move rfl) ?_
          refine Wl.pass rfl rfl rfl ?_
          refine Wl.pass rfl rfl rfl ?_
          refine Wl.q rfl (Qy.pick rfl rfl) ?_
          refine Wl.q rfl (Qy.assign rfl) ?_
          refine Wl.done ?_
          refine Ar.next ?_
          refine Wc.seq ?_
          refine Wc.region rfl ?_
          refine Wl.q rfl (Qy.move rfl) ?_
          refine Wl.q rfl (Qy.move rfl) ?_
          refine Wl.q rfl (Qy.indexAddrO (α := Bool) T.sl41 rfl rfl (by assumption) (by omega)) ?_
          refine Wl.q rfl (Qy.loadO 2 0 T.one4 rfl rfl (by assumption) (by omega) rfl rfl) ?_
          refine Wl.q rfl (Qy.move rfl) ?_
          refine Wl.re 66 rfl (Go.Sl.boolDec _) ?_
          apply Wl.joinAnd 3 66 69 rfl
          intro hg1
          refine Wl.want rfl rfl ?_
          refine Wl.q rfl (Qy.move rfl) ?_
          refine Wl.want rfl rfl ?_
          refine Wl.q rfl (Qy.neq rfl rfl) ?_
          refine Wl.q rfl (Qy.pick rfl rfl) ?_
          exact Wl.back 3 0 rfl rfl rfl rfl rfl
          intro hg1
          refine Wl.pass rfl rfl rfl ?_
          refine Wl.pass rfl rfl rfl ?_
          refine Wl.q rfl (Qy.pick rfl rfl) ?_
          exact Wl.back 3 0 rfl rfl rfl rfl rfl
          refine Wl.q rfl (Qy.assign rfl) ?_
          refine Wl.done ?_
          refine Ar.next ?_
          refine Wc.seq ?_
          refine Wc.seq ?_
          refine Wc.region rfl ?_
          refine Wl.q rfl (Qy.move rfl) ?_
          refine Wl.done ?_
          refine Ar.next ?_
          refine Wc.condF rfl ?_
          refine Wc.skip ?_
          refine Ar.next ?_
          refine Wc.seq ?_
          refine Wc.block ?_
          refine Wc.seq ?_
          refine Wc.region rfl ?_
          refine Wl.q rfl (Qy.move rfl) ?_
          refine Wl.q rfl (Qy.move rfl) ?_
          refine Wl.yes 82 rfl (by first | assumption | omega) ?_
          refine Wl.want rfl rfl ?_
          refine Wl.q rfl (Qy.move rfl) ?_
          refine Wl.q rfl (Qy.pick rfl rfl) ?_
          refine Wl.q rfl (Qy.assign rfl) ?_
          refine Wl.done ?_
          refine Ar.next ?_
          refine Wc.condF rfl ?_
          refine Wc.seq ?_
          refine Wc.region rfl ?_
          refine Wl.q rfl (Qy.move rfl) ?_
          refine Wl.q rfl (Qy.assign rfl) ?_
          refine Wl.done ?_
          refine Ar.next ?_
          refine Wc.condP rfl (by first | assumption | omega) ?_
          refine Wc.region rfl ?_
          refine Wl.q rfl (Qy.move rfl) ?_
          refine Wl.q rfl (Qy.move rfl) ?_
          refine Wl.q rfl (Qy.move rfl) ?_
          refine Wl.call1 0 rfl T.fn162 rfl (c162 _ b _ _ _ _ (by omega) (by omega)) (tags_of ⟨rfl, trivial⟩) ?_
          refine Wl.q rfl (Qy.move rfl) ?_
          refine Wl.q rfl (Qy.move rfl) ?_
          refine Wl.call1 0 rfl T.fn162 rfl (c162 _ b _ _ _ _ (by omega) (by omega)) (tags_of ⟨rfl, trivial⟩) ?_
          refine Wl.q rfl (Qy.move rfl) ?_
          refine Wl.call 0 rfl T.fn126 rfl (c126 _ b _ o dd ci q wa _ wc _ _ _ hoCi hcil) (tags_of ⟨rfl, rfl, trivial⟩) (fun v2 G2 Ho2 hle2 hp => ?_)
          obtain ⟨rfl, rfl, a2, d2, j2, ho2, rfl⟩ := hp
          refine Wl.done ?_
          refine Ar.outNormal ?_
          refine Ar.next ?_
          refine Wc.region rfl ?_
          refine Wl.q rfl (Qy.move rfl) ?_
          refine Wl.q rfl (Qy.move rfl) ?_
          refine Wl.q rfl (Qy.move rfl) ?_
          refine Wl.q rfl (Qy.move rfl) ?_
          refine Wl.yes 127 rfl (by first | assumption | omega) ?_
          refine Wl.pass rfl rfl rfl ?_
          refine Wl.q rfl (Qy.pick rfl rfl) ?_
          refine Wl.q rfl (Qy.indexAddrO (α := Bool) T.sl41 rfl rfl (by assumption) (by omega)) ?_
          refine Wl.setO (z := _) 2 T.size4 rfl rfl rfl (by assumption) (by omega) rfl (fun ho3 => ?_)
          refine Wl.done ?_
          refine Ar.outNormal ?_
          refine Ar.next ?_
          refine Wc.region rfl ?_
          refine Wl.q rfl (Qy.move rfl) ?_
          refine Wl.q rfl (Qy.sub rfl rfl (by omega)) ?_
          refine Wl.q rfl (Qy.assign rfl) ?_
          refine Wl.done ?_
          refine Ar.reH 2 (Row 4 (ti.set m (true || false)) []) rfl (by first | rfl | (rw [Int.toNat_natCast]; first | rfl | (rw [decide_eq_false hL]; rfl) | (rw [decide_eq_true hL]; rfl) | (rw [decide_eq_false hO]; rfl) | (rw [decide_eq_true hO]; rfl))) ?_
          refine Ar.re 13 rfl (show _ = Value.int .i64 ((m : Int) - 1) from rfl) ?_
          refine Ar.re 11 rfl (show _ = Value.slice (some ⟨b1, 0, none⟩) (ti.set m (true || false)).length (e + 1) by rw [List.length_set]) ?_
          refine Ar.again ((m, ti.set m (true || false), ci ++ timesI (2 * (wh.length : Int) + (m : Int)) (2 * (wh.length : Int) + (m : Int)) v, (a2, d2, j2))) ?_ ?_ rfl ⟨rfl, rfl, rfl, rfl, rfl, rfl, rfl, rfl, trivial⟩ ⟨rfl, rfl, rfl, trivial⟩
          · refine ⟨by omega, by rw [List.length_set]; exact hti, ?_, ?_, hoN, ho2⟩
            · rw [← hS1, hrs]
            · rw [← hS2, hrs]
              simp
          · show m < m + 1
            omega
        · have hrs := rStep_eq (n := wh.length) (hlowF (fun h => by omega)) (hownF hO)
          refine Wc.seq ?_
          refine Wc.seq ?_
          refine Wc.region rfl ?_
          refine Wl.q rfl (Qy.move rfl) ?_
          refine Wl.q rfl (Qy.geq rfl rfl) ?_
          refine Wl.done ?_
          refine Ar.next ?_
          refine Wc.condP rfl (by first | assumption | omega) ?_
          refine Wc.skip ?_
          refine Ar.next ?_
          refine Wc.seq ?_
          refine Wc.block ?_
          refine Wc.seq ?_
          refine Wc.region rfl ?_
          refine Wl.q rfl (Qy.move rfl) ?_
          refine Wl.q rfl (Qy.gtr rfl rfl) ?_
          refine Wl.q rfl (Qy.move rfl) ?_
          refine Wl.no 51 rfl (by first | assumption | omega) ?_
          refine Wl.pass rfl rfl rfl ?_
          refine Wl.pass rfl rfl rfl ?_
          refine Wl.pass rfl rfl rfl ?_
          refine Wl.pass rfl rfl rfl ?_
          refine Wl.pass rfl rfl rfl ?_
          refine Wl.q rfl (Qy.pick rfl rfl) ?_
          refine Wl.q rfl (Qy.move rfl) ?_
          refine Wl.pass rfl rfl rfl ?_
          refine Wl.pass rfl rfl rfl ?_
          refine Wl.q rfl (Qy.pick rfl rfl) ?_
          refine Wl.q rfl (Qy.assign rfl) ?_
          refine Wl.done ?_
          refine Ar.next ?_
          refine Wc.seq ?_
          refine Wc.region rfl ?_
          refine Wl.q rfl (Qy.move rfl) ?_
          refine Wl.q rfl (Qy.move rfl) ?_
          refine Wl.q rfl (Qy.indexAddrO (α := Bool) T.sl41 rfl rfl (by assumption) (by omega)) ?_
          refine Wl.q rfl (Qy.loadO 2 0 T.one4 rfl rfl (by assumption) (by omega) rfl rfl) ?_
          refine Wl.q rfl (Qy.move rfl) ?_
          refine Wl.re 66 rfl (Go.Sl.boolDec _) ?_
          apply Wl.joinAnd 3 66 69 rfl
          intro hg1
          refine Wl.want rfl rfl ?_
          refine Wl.q rfl (Qy.move rfl) ?_
          refine Wl.want rfl rfl ?_
          refine Wl.q rfl (Qy.neq rfl rfl) ?_
          refine Wl.q rfl (Qy.pick rfl rfl) ?_
          exact Wl.back 3 0 rfl rfl rfl rfl rfl
          intro hg1
          refine Wl.pass rfl rfl rfl ?_
          refine Wl.pass rfl rfl rfl ?_
          refine Wl.q rfl (Qy.pick rfl rfl) ?_
          exact Wl.back 3 0 rfl rfl rfl rfl rfl
          refine Wl.q rfl (Qy.assign rfl) ?_
          refine Wl.done ?_
          refine Ar.next ?_
          refine Wc.seq ?_
          refine Wc.seq ?_
          refine Wc.region rfl ?_
          refine Wl.q rfl (Qy.move rfl) ?_
          refine Wl.done ?_
          refine Ar.next ?_
          refine Wc.condF rfl ?_
          refine Wc.skip ?_
          refine Ar.next ?_
          refine Wc.seq ?_
          refine Wc.block ?_
          refine Wc.seq ?_
          refine Wc.region rfl ?_
          refine Wl.q rfl (Qy.move rfl) ?_
          refine Wl.q rfl (Qy.move rfl) ?_
          refine Wl.no 82 rfl (by first | assumption | omega) ?_
          refine Wl.pass rfl rfl rfl ?_
          refine Wl.q rfl (Qy.pick rfl rfl) ?_
          refine Wl.q rfl (Qy.assign rfl) ?_
          refine Wl.done ?_
          refine Ar.next ?_
          refine Wc.condF rfl ?_
          refine Wc.seq ?_
          refine Wc.region rfl ?_
          refine Wl.q rfl (Qy.move rfl) ?_
          refine Wl.q rfl (Qy.assign rfl) ?_
          refine Wl.done ?_
          refine Ar.next ?_
          refine Wc.condN rfl (by first | assumption | omega) ?_
          refine Wc.seq ?_
          refine Wc.region rfl ?_
          refine Wl.q rfl (Qy.move rfl) ?_
          refine Wl.q rfl (Qy.assign rfl) ?_
          refine Wl.done ?_
          refine Ar.next ?_
          refine Wc.condF rfl ?_
          refine Wc.skip ?_
          refine Ar.outNormal ?_
          refine Ar.next ?_
          refine Wc.region rfl ?_
          refine Wl.q rfl (Qy.move rfl) ?_
          refine Wl.q rfl (Qy.move rfl) ?_
          refine Wl.q rfl (Qy.move rfl) ?_
          refine Wl.q rfl (Qy.move rfl) ?_
          refine Wl.no 127 rfl (by first | assumption | omega) ?_
          refine Wl.want rfl rfl ?_
          refine Wl.q rfl (Qy.move rfl) ?_
          refine Wl.q rfl (Qy.pick rfl rfl) ?_
          refine Wl.q rfl (Qy.indexAddrO (α := Bool) T.sl41 rfl rfl (by assumption) (by omega)) ?_
          refine Wl.setO (z := _) 2 T.size4 rfl rfl rfl (by assumption) (by omega) rfl (fun ho2 => ?_)
          refine Wl.done ?_
          refine Ar.outNormal ?_
          refine Ar.next ?_
          refine Wc.region rfl ?_
          refine Wl.q rfl (Qy.move rfl) ?_
          refine Wl.q rfl (Qy.sub rfl rfl (by omega)) ?_
          refine Wl.q rfl (Qy.assign rfl) ?_
          refine Wl.done ?_
          refine Ar.reH 2 (Row 4 (ti.set m (false || false)) []) rfl (by first | rfl | (rw [Int.toNat_natCast]; first | rfl | (rw [decide_eq_false hL]; rfl) | (rw [decide_eq_true hL]; rfl) | (rw [decide_eq_false hO]; rfl) | (rw [decide_eq_true hO]; rfl))) ?_
          refine Ar.re 13 rfl (show _ = Value.int .i64 ((m : Int) - 1) from rfl) ?_
          refine Ar.re 11 rfl (show _ = Value.slice (some ⟨b1, 0, none⟩) (ti.set m (false || false)).length (e + 1) by rw [List.length_set]) ?_
          refine Ar.again ((m, ti.set m (false || false), ci, (o, dd, q))) ?_ ?_ rfl ⟨rfl, rfl, rfl, rfl, rfl, rfl, rfl, rfl, trivial⟩ ⟨rfl, rfl, rfl, trivial⟩
          · refine ⟨by omega, by rw [List.length_set]; exact hti, ?_, ?_, hoN, hoCi⟩
            · rw [← hS1, hrs]
            · rw [← hS2, hrs]
              simp
          · show m < m + 1
            omega
      · have hm1e : ((m : Int) - 1).toNat = m - 1 := by omega
        by_cases hL : ti[((m : Int) - 1).toNat]?.getD default = true ∧ u ≠ 0
        · have hlow := hlowT ⟨hm0, by rw [← hm1e]; exact hL.1, hL.2⟩
          by_cases hO : ti[(m : Int).toNat]?.getD default = true ∧ v ≠ 0
          · have hOL : (ti[(m : Int).toNat]?.getD default = true ∧ v ≠ 0) ∧ ti[((m : Int) - 1).toNat]?.getD default = true ∧ u ≠ 0 := ⟨hO, hL⟩
            have hrs := rStep_eq (n := wh.length) hlow (hownT hO)
            rw [hrs] at hbd
            have hb1 : ((ci ++ timesI (3 * (wh.length : Int)) (2 * (wh.length : Int) + ((m : Int) - 1)) u) ++ timesI (2 * (wh.length : Int) + (m : Int)) (2 * (wh.length : Int) + (m : Int)) v).length ≤ 1048576 := by
              simp only [Bool.and_self, if_true, List.length_append, List.length_singleton] at hbd
              simp only [List.length_append]
              omega
            have hb0 : (ci ++ timesI (3 * (wh.length : Int)) (2 * (wh.length : Int) + ((m : Int) - 1)) u).length ≤ 1048576 := by rw [List.length_append] at hb1; omega
            refine Wc.seq ?_
            refine Wc.seq ?_
            refine Wc.region rfl ?_
            refine Wl.q rfl (Qy.move rfl) ?_
            refine Wl.q rfl (Qy.geq rfl rfl) ?_
            refine Wl.done ?_
            refine Ar.next ?_
            refine Wc.condP rfl (by first | assumption | omega) ?_
            refine Wc.skip ?_
            refine Ar.next ?_
            refine Wc.seq ?_
            refine Wc.block ?_
            refine Wc.seq ?_
            refine Wc.region rfl ?_
            refine Wl.q rfl (Qy.move rfl) ?_
            refine Wl.q rfl (Qy.gtr rfl rfl) ?_
            refine Wl.q rfl (Qy.move rfl) ?_
            refine Wl.yes 51 rfl (by first | assumption | omega) ?_
            refine Wl.want rfl rfl ?_
            refine Wl.q rfl (Qy.move rfl) ?_
            refine Wl.want rfl rfl ?_
            refine Wl.q rfl (Qy.move rfl) ?_
            refine Wl.want rfl rfl ?_
            refine Wl.q rfl (Qy.sub rfl rfl (by omega)) ?_
            refine Wl.want rfl rfl ?_
            refine Wl.q rfl (Qy.indexAddrO (α := Bool) T.sl41 rfl rfl (by assumption) (by omega)) ?_
            refine Wl.want rfl rfl ?_
            refine Wl.q rfl (Qy.loadO 2 0 T.one4 rfl rfl (by assumption) (by omega) rfl rfl) ?_
            refine Wl.q rfl (Qy.pick rfl rfl) ?_
            refine Wl.q rfl (Qy.move rfl) ?_
            refine Wl.re 58 rfl (Go.Sl.boolDec _) ?_
            apply Wl.joinAnd 3 58 61 rfl
            intro hg1
            refine Wl.want rfl rfl ?_
            refine Wl.q rfl (Qy.move rfl) ?_
            refine Wl.want rfl rfl ?_
            refine Wl.q rfl (Qy.neq rfl rfl) ?_
            refine Wl.q rfl (Qy.pick rfl rfl) ?_
            exact Wl.back 3 0 rfl rfl rfl rfl rfl
            intro hg1
            refine Wl.pass rfl rfl rfl ?_
            refine Wl.pass rfl rfl rfl ?_
            refine Wl.q rfl (Qy.pick rfl rfl) ?_
            exact Wl.back 3 0 rfl rfl rfl rfl rfl
            refine Wl.q rfl (Qy.assign rfl) ?_
            refine Wl.done ?_
            refine Ar.next ?_
            refine Wc.seq ?_
            refine Wc.region rfl ?_
            refine Wl.q rfl (Qy.move rfl) ?_
            refine Wl.q rfl (Qy.move rfl) ?_
            refine Wl.q rfl (Qy.indexAddrO (α := Bool) T.sl41 rfl rfl (by assumption) (by omega)) ?_
            refine Wl.q rfl (Qy.loadO 2 0 T.one4 rfl rfl (by assumption) (by omega) rfl rfl) ?_
            refine Wl.q rfl (Qy.move rfl) ?_
            refine Wl.re 66 rfl (Go.Sl.boolDec _) ?_
            apply Wl.joinAnd 3 66 69 rfl
            intro hg1
            refine Wl.want rfl rfl ?_
            refine Wl.q rfl (Qy.move rfl) ?_
            refine Wl.want rfl rfl ?_
            refine Wl.q rfl (Qy.neq rfl rfl) ?_
            refine Wl.q rfl (Qy.pick rfl rfl) ?_
            exact Wl.back 3 0 rfl rfl rfl rfl rfl
            intro hg1
            refine Wl.pass rfl rfl rfl ?_
            refine Wl.pass rfl rfl rfl ?_
            refine Wl.q rfl (Qy.pick rfl rfl) ?_
            exact Wl.back 3 0 rfl rfl rfl rfl rfl
            refine Wl.q rfl (Qy.assign rfl) ?_
            refine Wl.done ?_
            refine Ar.next ?_
            refine Wc.seq ?_
            refine Wc.seq ?_
            refine Wc.region rfl ?_
            refine Wl.q rfl (Qy.move rfl) ?_
            refine Wl.done ?_
            refine Ar.next ?_
            refine Wc.condP rfl (by first | assumption | omega) ?_
            refine Wc.region rfl ?_
            refine Wl.q rfl (Qy.move rfl) ?_
            refine Wl.q rfl (Qy.move rfl) ?_
            refine Wl.call1 0 rfl T.fn160 rfl (c160 _ b _ _ _ (by omega)) (tags_of ⟨rfl, trivial⟩) ?_
            refine Wl.q rfl (Qy.move rfl) ?_
            refine Wl.q rfl (Qy.move rfl) ?_
            refine Wl.q rfl (Qy.sub rfl rfl (by omega)) ?_
            refine Wl.call1 0 rfl T.fn162 rfl (c162 _ b _ _ _ _ (by omega) (by omega)) (tags_of ⟨rfl, trivial⟩) ?_
            refine Wl.q rfl (Qy.move rfl) ?_
            refine Wl.call 0 rfl T.fn126 rfl (c126 _ b _ o dd ci q wa _ wc _ _ _ hoCi hcil) (tags_of ⟨rfl, rfl, trivial⟩) (fun v2 G2 Ho2 hle2 hp => ?_)
            obtain ⟨rfl, rfl, a2, d2, j2, ho2, rfl⟩ := hp
            refine Wl.done ?_
            refine Ar.next ?_
            refine Wc.seq ?_
            refine Wc.block ?_
            refine Wc.seq ?_
            refine Wc.region rfl ?_
            refine Wl.q rfl (Qy.move rfl) ?_
            refine Wl.q rfl (Qy.move rfl) ?_
            refine Wl.yes 82 rfl (by first | assumption | omega) ?_
            refine Wl.want rfl rfl ?_
            refine Wl.q rfl (Qy.move rfl) ?_
            refine Wl.q rfl (Qy.pick rfl rfl) ?_
            refine Wl.q rfl (Qy.assign rfl) ?_
            refine Wl.done ?_
            refine Ar.next ?_
            refine Wc.condP rfl (by first | assumption | omega) ?_
            refine Wc.seq ?_
            refine Wc.region rfl ?_
            refine Wl.q rfl (Qy.move rfl) ?_
            refine Wl.q rfl (Qy.move rfl) ?_
            refine Wl.q rfl (Qy.move rfl) ?_
            refine Wl.call1 0 rfl T.fn162 rfl (c162 _ b _ _ _ _ (by omega) (by omega)) (tags_of ⟨rfl, trivial⟩) ?_
            refine Wl.q rfl (Qy.move rfl) ?_
            refine Wl.q rfl (Qy.move rfl) ?_
            refine Wl.call1 0 rfl T.fn162 rfl (c162 _ b _ _ _ _ (by omega) (by omega)) (tags_of ⟨rfl, trivial⟩) ?_
            refine Wl.q rfl (Qy.move rfl) ?_
            refine Wl.call 0 rfl T.fn126 rfl (c126 _ b _ a2 d2 (ci ++ timesI (3 * (wh.length : Int)) (2 * (wh.length : Int) + ((m : Int) - 1)) u) j2 wa _ wc _ _ _ ho2 hb0) (tags_of ⟨rfl, rfl, trivial⟩) (fun v3 G3 Ho3 hle3 hp => ?_)
            obtain ⟨rfl, rfl, a3, d3, j3, ho3, rfl⟩ := hp
            refine Wl.done ?_
            refine Ar.next ?_
            refine Wc.region rfl ?_
            refine Wl.q rfl (Qy.move rfl) ?_
            refine Wl.q rfl (Qy.move rfl) ?_
            refine Wl.q rfl (Qy.move rfl) ?_
            refine Wl.call1 0 rfl T.fn162 rfl (c162 _ b _ _ _ _ (by omega) (by omega)) (tags_of ⟨rfl, trivial⟩) ?_
            refine Wl.q rfl (Qy.move rfl) ?_
            refine Wl.q rfl (Qy.move rfl) ?_
            refine Wl.call1 0 rfl T.fn162 rfl (c162 _ b _ _ _ _ (by omega) (by omega)) (tags_of ⟨rfl, trivial⟩) ?_
            refine Wl.q rfl (Qy.move rfl) ?_
            refine Wl.call1 0 rfl T.fn160 rfl (c160 _ b _ _ _ (by omega)) (tags_of ⟨rfl, trivial⟩) ?_
            refine Wl.call 0 rfl T.fn158 rfl (c158 _ b _ a3 d3 ((ci ++ timesI (3 * (wh.length : Int)) (2 * (wh.length : Int) + ((m : Int) - 1)) u) ++ timesI (2 * (wh.length : Int) + (m : Int)) (2 * (wh.length : Int) + (m : Int)) v) j3 wa _ wc _ _ _ _ _ ho3 hb1) (tags_of ⟨rfl, rfl, trivial⟩) (fun v4 G4 Ho4 hle4 hp => ?_)
            obtain ⟨rfl, rfl, a4, d4, j4, ho4, rfl⟩ := hp
            refine Wl.done ?_
            refine Ar.outNormal ?_
            refine Ar.next ?_
            refine Wc.region rfl ?_
            refine Wl.q rfl (Qy.move rfl) ?_
            refine Wl.q rfl (Qy.move rfl) ?_
            refine Wl.q rfl (Qy.move rfl) ?_
            refine Wl.q rfl (Qy.move rfl) ?_
            refine Wl.yes 127 rfl (by first | assumption | omega) ?_
            refine Wl.pass rfl rfl rfl ?_
            refine Wl.q rfl (Qy.pick rfl rfl) ?_
            refine Wl.q rfl (Qy.indexAddrO (α := Bool) T.sl41 rfl rfl (by assumption) (by omega)) ?_
            refine Wl.setO (z := _) 2 T.size4 rfl rfl rfl (by assumption) (by omega) rfl (fun ho5 => ?_)
            refine Wl.done ?_
            refine Ar.outNormal ?_
            refine Ar.next ?_
            refine Wc.region rfl ?_
            refine Wl.q rfl (Qy.move rfl) ?_
            refine Wl.q rfl (Qy.sub rfl rfl (by omega)) ?_
            refine Wl.q rfl (Qy.assign rfl) ?_
            refine Wl.done ?_
            refine Ar.reH 2 (Row 4 (ti.set m (true || true)) []) rfl (by first | rfl | (rw [Int.toNat_natCast]; first | rfl | (rw [decide_eq_false hL]; rfl) | (rw [decide_eq_true hL]; rfl) | (rw [decide_eq_false hO]; rfl) | (rw [decide_eq_true hO]; rfl))) ?_
            refine Ar.re 13 rfl (show _ = Value.int .i64 ((m : Int) - 1) from rfl) ?_
            refine Ar.re 11 rfl (show _ = Value.slice (some ⟨b1, 0, none⟩) (ti.set m (true || true)).length (e + 1) by rw [List.length_set]) ?_
            refine Ar.again ((m, ti.set m (true || true), ((ci ++ timesI (3 * (wh.length : Int)) (2 * (wh.length : Int) + ((m : Int) - 1)) u) ++ timesI (2 * (wh.length : Int) + (m : Int)) (2 * (wh.length : Int) + (m : Int)) v) ++ [(⟨3, 2 * (wh.length : Int) + (m : Int), 2 * (wh.length : Int) + (m : Int), 3 * (wh.length : Int), 0⟩ : Sl.Instr)], (a4, d4, j4))) ?_ ?_ rfl ⟨rfl, rfl, rfl, rfl, rfl, rfl, rfl, rfl, trivial⟩ ⟨rfl, rfl, rfl, trivial⟩
            · refine ⟨by omega, by rw [List.length_set]; exact hti, ?_, ?_, hoN, ho4⟩
              · rw [← hS1, hrs]
              · rw [← hS2, hrs]
                simp
            · show m < m + 1
              omega
          · have hOL : ¬ ((ti[(m : Int).toNat]?.getD default = true ∧ v ≠ 0) ∧ ti[((m : Int) - 1).toNat]?.getD default = true ∧ u ≠ 0) := fun h => hO h.1
            have hrs := rStep_eq (n := wh.length) hlow (hownF hO)
            rw [hrs] at hbd
            have hb0 : (ci ++ timesI (3 * (wh.length : Int)) (2 * (wh.length : Int) + ((m : Int) - 1)) u).length ≤ 1048576 := by
              simp only [if_true, List.length_append] at hbd
              simp only [List.length_append]
              omega
            refine Wc.seq ?_
            refine Wc.seq ?_
            refine Wc.region rfl ?_
            refine Wl.q rfl (Qy.move rfl) ?_
            refine Wl.q rfl (Qy.geq rfl rfl) ?_
            refine Wl.done ?_
            refine Ar.next ?_
            refine Wc.condP rfl (by first | assumption | omega) ?_
            refine Wc.skip ?_
            refine Ar.next ?_
            refine Wc.seq ?_
            refine Wc.block ?_
            refine Wc.seq ?_
            refine Wc.region rfl ?_
            refine Wl.q rfl (Qy.move rfl) ?_
            refine Wl.q rfl (Qy.gtr rfl rfl) ?_
            refine Wl.q rfl (Qy.move rfl) ?_
            refine Wl.yes 51 rfl (by first | assumption | omega) ?_
            refine Wl.want rfl rfl ?_
            refine Wl.q rfl (Qy.move rfl) ?_
            refine Wl.want rfl rfl ?_
            refine Wl.q rfl (Qy.move rfl) ?_
            refine Wl.want rfl rfl ?_
            refine Wl.q rfl (Qy.sub rfl rfl (by omega)) ?_
            refine Wl.want rfl rfl ?_
            refine Wl.q rfl (Qy.indexAddrO (α := Bool) T.sl41 rfl rfl (by assumption) (by omega)) ?_
            refine Wl.want rfl rfl ?_
            refine Wl.q rfl (Qy.loadO 2 0 T.one4 rfl rfl (by assumption) (by omega) rfl rfl) ?_
            refine Wl.q rfl (Qy.pick rfl rfl) ?_
            refine Wl.q rfl (Qy.move rfl) ?_
            refine Wl.re 58 rfl (Go.Sl.boolDec _) ?_
            apply Wl.joinAnd 3 58 61 rfl
            intro hg1
            refine Wl.want rfl rfl ?_
            refine Wl.q rfl (Qy.move rfl) ?_
            refine Wl.want rfl rfl ?_
            refine Wl.q rfl (Qy.neq rfl rfl) ?_
            refine Wl.q rfl (Qy.pick rfl rfl) ?_
            exact Wl.back 3 0 rfl rfl rfl rfl rfl
            intro hg1
            refine Wl.pass rfl rfl rfl ?_
            refine Wl.pass rfl rfl rfl ?_
            refine Wl.q rfl (Qy.pick rfl rfl) ?_
            exact Wl.back 3 0 rfl rfl rfl rfl rfl
            refine Wl.q rfl (Qy.assign rfl) ?_
            refine Wl.done ?_
            refine Ar.next ?_
            refine Wc.seq ?_
            refine Wc.region rfl ?_
            refine Wl.q rfl (Qy.move rfl) ?_
            refine Wl.q rfl (Qy.move rfl) ?_
            refine Wl.q rfl (Qy.indexAddrO (α := Bool) T.sl41 rfl rfl (by assumption) (by omega)) ?_
            refine Wl.q rfl (Qy.loadO 2 0 T.one4 rfl rfl (by assumption) (by omega) rfl rfl) ?_
            refine Wl.q rfl (Qy.move rfl) ?_
            refine Wl.re 66 rfl (Go.Sl.boolDec _) ?_
            apply Wl.joinAnd 3 66 69 rfl
            intro hg1
            refine Wl.want rfl rfl ?_
            refine Wl.q rfl (Qy.move rfl) ?_
            refine Wl.want rfl rfl ?_
            refine Wl.q rfl (Qy.neq rfl rfl) ?_
            refine Wl.q rfl (Qy.pick rfl rfl) ?_
            exact Wl.back 3 0 rfl rfl rfl rfl rfl
            intro hg1
            refine Wl.pass rfl rfl rfl ?_
            refine Wl.pass rfl rfl rfl ?_
            refine Wl.q rfl (Qy.pick rfl rfl) ?_
            exact Wl.back 3 0 rfl rfl rfl rfl rfl
            refine Wl.q rfl (Qy.assign rfl) ?_
            refine Wl.done ?_
            refine Ar.next ?_
            refine Wc.seq ?_
            refine Wc.seq ?_
            refine Wc.region rfl ?_
            refine Wl.q rfl (Qy.move rfl) ?_
            refine Wl.done ?_
            refine Ar.next ?_
            refine Wc.condP rfl (by first | assumption | omega) ?_
            refine Wc.region rfl ?_
            refine Wl.q rfl (Qy.move rfl) ?_
            refine Wl.q rfl (Qy.move rfl) ?_
            refine Wl.call1 0 rfl T.fn160 rfl (c160 _ b _ _ _ (by omega)) (tags_of ⟨rfl, trivial⟩) ?_
            refine Wl.q rfl (Qy.move rfl) ?_
            refine Wl.q rfl (Qy.move rfl) ?_
            refine Wl.q rfl (Qy.sub rfl rfl (by omega)) ?_
            refine Wl.call1 0 rfl T.fn162 rfl (c162 _ b _ _ _ _ (by omega) (by omega)) (tags_of ⟨rfl, trivial⟩) ?_
            refine Wl.q rfl (Qy.move rfl) ?_
            refine Wl.call 0 rfl T.fn126 rfl (c126 _ b _ o dd ci q wa _ wc _ _ _ hoCi hcil) (tags_of ⟨rfl, rfl, trivial⟩) (fun v2 G2 Ho2 hle2 hp => ?_)
            obtain ⟨rfl, rfl, a2, d2, j2, ho2, rfl⟩ := hp
            refine Wl.done ?_
            refine Ar.next ?_
            refine Wc.seq ?_
            refine Wc.block ?_
            refine Wc.seq ?_
            refine Wc.region rfl ?_
            refine Wl.q rfl (Qy.move rfl) ?_
            refine Wl.q rfl (Qy.move rfl) ?_
            refine Wl.no 82 rfl (by first | assumption | omega) ?_
            refine Wl.pass rfl rfl rfl ?_
            refine Wl.q rfl (Qy.pick rfl rfl) ?_
            refine Wl.q rfl (Qy.assign rfl) ?_
            refine Wl.done ?_
            refine Ar.next ?_
            refine Wc.condF rfl ?_
            refine Wc.seq ?_
            refine Wc.region rfl ?_
            refine Wl.q rfl (Qy.move rfl) ?_
            refine Wl.q rfl (Qy.assign rfl) ?_
            refine Wl.done ?_
            refine Ar.next ?_
            refine Wc.condN rfl (by first | assumption | omega) ?_
            refine Wc.seq ?_
            refine Wc.region rfl ?_
            refine Wl.q rfl (Qy.move rfl) ?_
            refine Wl.q rfl (Qy.assign rfl) ?_
            refine Wl.done ?_
            refine Ar.next ?_
            refine Wc.condP rfl (by first | assumption | omega) ?_
            refine Wc.region rfl ?_
            refine Wl.q rfl (Qy.move rfl) ?_
            refine Wl.q rfl (Qy.move rfl) ?_
            refine Wl.q rfl (Qy.move rfl) ?_
            refine Wl.call1 0 rfl T.fn162 rfl (c162 _ b _ _ _ _ (by omega) (by omega)) (tags_of ⟨rfl, trivial⟩) ?_
            refine Wl.q rfl (Qy.move rfl) ?_
            refine Wl.call1 0 rfl T.fn160 rfl (c160 _ b _ _ _ (by omega)) (tags_of ⟨rfl, trivial⟩) ?_
            refine Wl.call 0 rfl T.fn126 rfl (c126 _ b _ a2 d2 (ci ++ timesI (3 * (wh.length : Int)) (2 * (wh.length : Int) + ((m : Int) - 1)) u) j2 wa _ wc _ _ _ ho2 hb0) (tags_of ⟨rfl, rfl, trivial⟩) (fun v3 G3 Ho3 hle3 hp => ?_)
            obtain ⟨rfl, rfl, a3, d3, j3, ho3, rfl⟩ := hp
            refine Wl.done ?_
            refine Ar.outNormal ?_
            refine Ar.next ?_
            refine Wc.region rfl ?_
            refine Wl.q rfl (Qy.move rfl) ?_
            refine Wl.q rfl (Qy.move rfl) ?_
            refine Wl.q rfl (Qy.move rfl) ?_
            refine Wl.q rfl (Qy.move rfl) ?_
            refine Wl.no 127 rfl (by first | assumption | omega) ?_
            refine Wl.want rfl rfl ?_
            refine Wl.q rfl (Qy.move rfl) ?_
            refine Wl.q rfl (Qy.pick rfl rfl) ?_
            refine Wl.q rfl (Qy.indexAddrO (α := Bool) T.sl41 rfl rfl (by assumption) (by omega)) ?_
            refine Wl.setO (z := _) 2 T.size4 rfl rfl rfl (by assumption) (by omega) rfl (fun ho4 => ?_)
            refine Wl.done ?_
            refine Ar.outNormal ?_
            refine Ar.next ?_
            refine Wc.region rfl ?_
            refine Wl.q rfl (Qy.move rfl) ?_
            refine Wl.q rfl (Qy.sub rfl rfl (by omega)) ?_
            refine Wl.q rfl (Qy.assign rfl) ?_
            refine Wl.done ?_
            refine Ar.reH 2 (Row 4 (ti.set m (false || true)) []) rfl (by first | rfl | (rw [Int.toNat_natCast]; first | rfl | (rw [decide_eq_false hL]; rfl) | (rw [decide_eq_true hL]; rfl) | (rw [decide_eq_false hO]; rfl) | (rw [decide_eq_true hO]; rfl))) ?_
            refine Ar.re 13 rfl (show _ = Value.int .i64 ((m : Int) - 1) from rfl) ?_
            refine Ar.re 11 rfl (show _ = Value.slice (some ⟨b1, 0, none⟩) (ti.set m (false || true)).length (e + 1) by rw [List.length_set]) ?_
            refine Ar.again ((m, ti.set m (false || true), (ci ++ timesI (3 * (wh.length : Int)) (2 * (wh.length : Int) + ((m : Int) - 1)) u) ++ timesI (2 * (wh.length : Int) + (m : Int)) (3 * (wh.length : Int)) 1, (a3, d3, j3))) ?_ ?_ rfl ⟨rfl, rfl, rfl, rfl, rfl, rfl, rfl, rfl, trivial⟩ ⟨rfl, rfl, rfl, trivial⟩
            · refine ⟨by omega, by rw [List.length_set]; exact hti, ?_, ?_, hoN, ho3⟩
              · rw [← hS1, hrs]
              · rw [← hS2, hrs]
                simp
            · show m < m + 1
              omega
        · have hOL : ¬ ((ti[(m : Int).toNat]?.getD default = true ∧ v ≠ 0) ∧ ti[((m : Int) - 1).toNat]?.getD default = true ∧ u ≠ 0) := fun h => hL h.2
          have hlow := hlowF (fun h => hL ⟨by rw [hm1e]; exact h.2.1, h.2.2⟩)
          by_cases hO : ti[(m : Int).toNat]?.getD default = true ∧ v ≠ 0
          · have hrs := rStep_eq (n := wh.length) hlow (hownT hO)
            rw [hrs] at hbd
            refine Wc.seq ?_
            refine Wc.seq ?_
            refine Wc.region rfl ?_
            refine Wl.q rfl (Qy.move rfl) ?_
            refine Wl.q rfl (Qy.geq rfl rfl) ?_
            refine Wl.done ?_
            refine Ar.next ?_
            refine Wc.condP rfl (by first | assumption | omega) ?_
            refine Wc.skip ?_
            refine Ar.next ?_
            refine Wc.seq ?_
            refine Wc.block ?_
            refine Wc.seq ?_
            refine Wc.region rfl ?_
            refine Wl.q rfl (Qy.move rfl) ?_
            refine Wl.q rfl (Qy.gtr rfl rfl) ?_
            refine Wl.q rfl (Qy.move rfl) ?_
            refine Wl.yes 51 rfl (by first | assumption | omega) ?_
            refine Wl.want rfl rfl ?_
            refine Wl.q rfl (Qy.move rfl) ?_
            refine Wl.want rfl rfl ?_
            refine Wl.q rfl (Qy.move rfl) ?_
            refine Wl.want rfl rfl ?_
            refine Wl.q rfl (Qy.sub rfl rfl (by omega)) ?_
            refine Wl.want rfl rfl ?_
            refine Wl.q rfl (Qy.indexAddrO (α := Bool) T.sl41 rfl rfl (by assumption) (by omega)) ?_
            refine Wl.want rfl rfl ?_
            refine Wl.q rfl (Qy.loadO 2 0 T.one4 rfl rfl (by assumption) (by omega) rfl rfl) ?_
            refine Wl.q rfl (Qy.pick rfl rfl) ?_
            refine Wl.q rfl (Qy.move rfl) ?_
            refine Wl.re 58 rfl (Go.Sl.boolDec _) ?_
            apply Wl.joinAnd 3 58 61 rfl
            intro hg1
            refine Wl.want rfl rfl ?_
            refine Wl.q rfl (Qy.move rfl) ?_
            refine Wl.want rfl rfl ?_
            refine Wl.q rfl (Qy.neq rfl rfl) ?_
            refine Wl.q rfl (Qy.pick rfl rfl) ?_
            exact Wl.back 3 0 rfl rfl rfl rfl rfl
            intro hg1
            refine Wl.pass rfl rfl rfl ?_
            refine Wl.pass rfl rfl rfl ?_
            refine Wl.q rfl (Qy.pick rfl rfl) ?_
            exact Wl.back 3 0 rfl rfl rfl rfl rfl
            refine Wl.q rfl (Qy.assign rfl) ?_
            refine Wl.done ?_
            refine Ar.next ?_
            refine Wc.seq ?_
            refine Wc.region rfl ?_
            refine Wl.q rfl (Qy.move rfl) ?_
            refine Wl.q rfl (Qy.move rfl) ?_
            refine Wl.q rfl (Qy.indexAddrO (α := Bool) T.sl41 rfl rfl (by assumption) (by omega)) ?_
            refine Wl.q rfl (Qy.loadO 2 0 T.one4 rfl rfl (by assumption) (by omega) rfl rfl) ?_
            refine Wl.q rfl (Qy.move rfl) ?_
            refine Wl.re 66 rfl (Go.Sl.boolDec _) ?_
            apply Wl.joinAnd 3 66 69 rfl
            intro hg1
            refine Wl.want rfl rfl ?_
            refine Wl.q rfl (Qy.move rfl) ?_
            refine Wl.want rfl rfl ?_
            refine Wl.q rfl (Qy.neq rfl rfl) ?_
            refine Wl.q rfl (Qy.pick rfl rfl) ?_
            exact Wl.back 3 0 rfl rfl rfl rfl rfl
            intro hg1
            refine Wl.pass rfl rfl rfl ?_
            refine Wl.pass rfl rfl rfl ?_
            refine Wl.q rfl (Qy.pick rfl rfl) ?_
            exact Wl.back 3 0 rfl rfl rfl rfl rfl
            refine Wl.q rfl (Qy.assign rfl) ?_
            refine Wl.done ?_
            refine Ar.next ?_
            refine Wc.seq ?_
            refine Wc.seq ?_
            refine Wc.region rfl ?_
            refine Wl.q rfl (Qy.move rfl) ?_
            refine Wl.done ?_
            refine Ar.next ?_
            refine Wc.condN rfl (by first | assumption | omega) ?_
            refine Wc.skip ?_
            refine Ar.next ?_
            refine Wc.seq ?_
            refine Wc.block ?_
            refine Wc.seq ?_
            refine Wc.region rfl ?_
            refine Wl.q rfl (Qy.move rfl) ?_
            refine Wl.q rfl (Qy.move rfl) ?_
            refine Wl.yes 82 rfl (by first | assumption | omega) ?_
            refine Wl.want rfl rfl ?_
            refine Wl.q rfl (Qy.move rfl) ?_
            refine Wl.q rfl (Qy.pick rfl rfl) ?_
            refine Wl.q rfl (Qy.assign rfl) ?_
            refine Wl.done ?_
            refine Ar.next ?_
            refine Wc.condN rfl (by first | assumption | omega) ?_
            refine Wc.seq ?_
            refine Wc.region rfl ?_
            refine Wl.q rfl (Qy.move rfl) ?_
            refine Wl.q rfl (Qy.assign rfl) ?_
            refine Wl.done ?_
            refine Ar.next ?_
            refine Wc.condP rfl (by first | assumption | omega) ?_
            refine Wc.region rfl ?_
            refine Wl.q rfl (Qy.move rfl) ?_
            refine Wl.q rfl (Qy.move rfl) ?_
            refine Wl.q rfl (Qy.move rfl) ?_
            refine Wl.call1 0 rfl T.fn162 rfl (c162 _ b _ _ _ _ (by omega) (by omega)) (tags_of ⟨rfl, trivial⟩) ?_
            refine Wl.q rfl (Qy.move rfl) ?_
            refine Wl.q rfl (Qy.move rfl) ?_
            refine Wl.call1 0 rfl T.fn162 rfl (c162 _ b _ _ _ _ (by omega) (by omega)) (tags_of ⟨rfl, trivial⟩) ?_
            refine Wl.q rfl (Qy.move rfl) ?_
            refine Wl.call 0 rfl T.fn126 rfl (c126 _ b _ o dd ci q wa _ wc _ _ _ hoCi hcil) (tags_of ⟨rfl, rfl, trivial⟩) (fun v2 G2 Ho2 hle2 hp => ?_)
            obtain ⟨rfl, rfl, a2, d2, j2, ho2, rfl⟩ := hp
            refine Wl.done ?_
            refine Ar.outNormal ?_
            refine Ar.next ?_
            refine Wc.region rfl ?_
            refine Wl.q rfl (Qy.move rfl) ?_
            refine Wl.q rfl (Qy.move rfl) ?_
            refine Wl.q rfl (Qy.move rfl) ?_
            refine Wl.q rfl (Qy.move rfl) ?_
            refine Wl.yes 127 rfl (by first | assumption | omega) ?_
            refine Wl.pass rfl rfl rfl ?_
            refine Wl.q rfl (Qy.pick rfl rfl) ?_
            refine Wl.q rfl (Qy.indexAddrO (α := Bool) T.sl41 rfl rfl (by assumption) (by omega)) ?_
            refine Wl.setO (z := _) 2 T.size4 rfl rfl rfl (by assumption) (by omega) rfl (fun ho3 => ?_)
            refine Wl.done ?_
            refine Ar.outNormal ?_
            refine Ar.next ?_
            refine Wc.region rfl ?_
            refine Wl.q rfl (Qy.move rfl) ?_
            refine Wl.q rfl (Qy.sub rfl rfl (by omega)) ?_
            refine Wl.q rfl (Qy.assign rfl) ?_
            refine Wl.done ?_
            refine Ar.reH 2 (Row 4 (ti.set m (true || false)) []) rfl (by first | rfl | (rw [Int.toNat_natCast]; first | rfl | (rw [decide_eq_false hL]; rfl) | (rw [decide_eq_true hL]; rfl) | (rw [decide_eq_false hO]; rfl) | (rw [decide_eq_true hO]; rfl))) ?_
            refine Ar.re 13 rfl (show _ = Value.int .i64 ((m : Int) - 1) from rfl) ?_
            refine Ar.re 11 rfl (show _ = Value.slice (some ⟨b1, 0, none⟩) (ti.set m (true || false)).length (e + 1) by rw [List.length_set]) ?_
            refine Ar.again ((m, ti.set m (true || false), ci ++ timesI (2 * (wh.length : Int) + (m : Int)) (2 * (wh.length : Int) + (m : Int)) v, (a2, d2, j2))) ?_ ?_ rfl ⟨rfl, rfl, rfl, rfl, rfl, rfl, rfl, rfl, trivial⟩ ⟨rfl, rfl, rfl, trivial⟩
            · refine ⟨by omega, by rw [List.length_set]; exact hti, ?_, ?_, hoN, ho2⟩
              · rw [← hS1, hrs]
              · rw [← hS2, hrs]
                simp
            · show m < m + 1
              omega
          · have hrs := rStep_eq (n := wh.length) hlow (hownF hO)
            refine Wc.seq ?_
            refine Wc.seq ?_
            refine Wc.region rfl ?_
            refine Wl.q rfl (Qy.move rfl) ?_
            refine Wl.q rfl (Qy.geq rfl rfl) ?_
            refine Wl.done ?_
            refine Ar.next ?_
            refine Wc.condP rfl (by first | assumption | omega) ?_
            refine Wc.skip ?_
            refine Ar.next ?_
            refine Wc.seq ?_
            refine Wc.block ?_
            refine Wc.seq ?_
            refine Wc.region rfl ?_
            refine Wl.q rfl (Qy.move rfl) ?_
            refine Wl.q rfl (Qy.gtr rfl rfl) ?_
            refine Wl.q rfl (Qy.move rfl) ?_
            refine Wl.yes 51 rfl (by first | assumption | omega) ?_
            refine Wl.want rfl rfl ?_
            refine Wl.q rfl (Qy.move rfl) ?_
            refine Wl.want rfl rfl ?_
            refine Wl.q rfl (Qy.move rfl) ?_
            refine Wl.want rfl rfl ?_
            refine Wl.q rfl (Qy.sub rfl rfl (by omega)) ?_
            refine Wl.want rfl rfl ?_
            refine Wl.q rfl (Qy.indexAddrO (α := Bool) T.sl41 rfl rfl (by assumption) (by omega)) ?_
            refine Wl.want rfl rfl ?_
            refine Wl.q rfl (Qy.loadO 2 0 T.one4 rfl rfl (by assumption) (by omega) rfl rfl) ?_
            refine Wl.q rfl (Qy.pick rfl rfl) ?_
            refine Wl.q rfl (Qy.move rfl) ?_
            refine Wl.re 58 rfl (Go.Sl.boolDec _) ?_
            apply Wl.joinAnd 3 58 61 rfl
            intro hg1
            refine Wl.want rfl rfl ?_
            refine Wl.q rfl (Qy.move rfl) ?_
            refine Wl.want rfl rfl ?_
            refine Wl.q rfl (Qy.neq rfl rfl) ?_
            refine Wl.q rfl (Qy.pick rfl rfl) ?_
            exact Wl.back 3 0 rfl rfl rfl rfl rfl
            intro hg1
            refine Wl.pass rfl rfl rfl ?_
            refine Wl.pass rfl rfl rfl ?_
            refine Wl.q rfl (Qy.pick rfl rfl) ?_
            exact Wl.back 3 0 rfl rfl rfl rfl rfl
            refine Wl.q rfl (Qy.assign rfl) ?_
            refine Wl.done ?_
            refine Ar.next ?_
            refine Wc.seq ?_
            refine Wc.region rfl ?_
            refine Wl.q rfl (Qy.move rfl) ?_
            refine Wl.q rfl (Qy.move rfl) ?_
            refine Wl.q rfl (Qy.indexAddrO (α := Bool) T.sl41 rfl rfl (by assumption) (by omega)) ?_
            refine Wl.q rfl (Qy.loadO 2 0 T.one4 rfl rfl (by assumption) (by omega) rfl rfl) ?_
            refine Wl.q rfl (Qy.move rfl) ?_
            refine Wl.re 66 rfl (Go.Sl.boolDec _) ?_
            apply Wl.joinAnd 3 66 69 rfl
            intro hg1
            refine Wl.want rfl rfl ?_
            refine Wl.q rfl (Qy.move rfl) ?_
            refine Wl.want rfl rfl ?_
            refine Wl.q rfl (Qy.neq rfl rfl) ?_
            refine Wl.q rfl (Qy.pick rfl rfl) ?_
            exact Wl.back 3 0 rfl rfl rfl rfl rfl
            intro hg1
            refine Wl.pass rfl rfl rfl ?_
            refine Wl.pass rfl rfl rfl ?_
            refine Wl.q rfl (Qy.pick rfl rfl) ?_
            exact Wl.back 3 0 rfl rfl rfl rfl rfl
            refine Wl.q rfl (Qy.assign rfl) ?_
            refine Wl.done ?_
            refine Ar.next ?_
            refine Wc.seq ?_
            refine Wc.seq ?_
            refine Wc.region rfl ?_
            refine Wl.q rfl (Qy.move rfl) ?_
            refine Wl.done ?_
            refine Ar.next ?_
            refine Wc.condN rfl (by first | assumption | omega) ?_
            refine Wc.skip ?_
            refine Ar.next ?_
            refine Wc.seq ?_
            refine Wc.block ?_
            refine Wc.seq ?_
            refine Wc.region rfl ?_
            refine Wl.q rfl (Qy.move rfl) ?_
            refine Wl.q rfl (Qy.move rfl) ?_
            refine Wl.no 82 rfl (by first | assumption | omega) ?_
            refine Wl.pass rfl rfl rfl ?_
            refine Wl.q rfl (Qy.pick rfl rfl) ?_
            refine Wl.q rfl (Qy.assign rfl) ?_
            refine Wl.done ?_
            refine Ar.next ?_
            refine Wc.condF rfl ?_
            refine Wc.seq ?_
            refine Wc.region rfl ?_
            refine Wl.q rfl (Qy.move rfl) ?_
            refine Wl.q rfl (Qy.assign rfl) ?_
            refine Wl.done ?_
            refine Ar.next ?_
            refine Wc.condN rfl (by first | assumption | omega) ?_
            refine Wc.seq ?_
            refine Wc.region rfl ?_
            refine Wl.q rfl (Qy.move rfl) ?_
            refine Wl.q rfl (Qy.assign rfl) ?_
            refine Wl.done ?_
            refine Ar.next ?_
            refine Wc.condN rfl (by first | assumption | omega) ?_
            refine Wc.skip ?_
            refine Ar.outNormal ?_
            refine Ar.next ?_
            refine Wc.region rfl ?_
            refine Wl.q rfl (Qy.move rfl) ?_
            refine Wl.q rfl (Qy.move rfl) ?_
            refine Wl.q rfl (Qy.move rfl) ?_
            refine Wl.q rfl (Qy.move rfl) ?_
            refine Wl.no 127 rfl (by first | assumption | omega) ?_
            refine Wl.want rfl rfl ?_
            refine Wl.q rfl (Qy.move rfl) ?_
            refine Wl.q rfl (Qy.pick rfl rfl) ?_
            refine Wl.q rfl (Qy.indexAddrO (α := Bool) T.sl41 rfl rfl (by assumption) (by omega)) ?_
            refine Wl.setO (z := _) 2 T.size4 rfl rfl rfl (by assumption) (by omega) rfl (fun ho2 => ?_)
            refine Wl.done ?_
            refine Ar.outNormal ?_
            refine Ar.next ?_
            refine Wc.region rfl ?_
            refine Wl.q rfl (Qy.move rfl) ?_
            refine Wl.q rfl (Qy.sub rfl rfl (by omega)) ?_
            refine Wl.q rfl (Qy.assign rfl) ?_
            refine Wl.done ?_
            refine Ar.reH 2 (Row 4 (ti.set m (false || false)) []) rfl (by first | rfl | (rw [Int.toNat_natCast]; first | rfl | (rw [decide_eq_false hL]; rfl) | (rw [decide_eq_true hL]; rfl) | (rw [decide_eq_false hO]; rfl) | (rw [decide_eq_true hO]; rfl))) ?_
            refine Ar.re 13 rfl (show _ = Value.int .i64 ((m : Int) - 1) from rfl) ?_
            refine Ar.re 11 rfl (show _ = Value.slice (some ⟨b1, 0, none⟩) (ti.set m (false || false)).length (e + 1) by rw [List.length_set]) ?_
            refine Ar.again ((m, ti.set m (false || false), ci, (o, dd, q))) ?_ ?_ rfl ⟨rfl, rfl, rfl, rfl, rfl, rfl, rfl, rfl, trivial⟩ ⟨rfl, rfl, rfl, trivial⟩
            · refine ⟨by omega, by rw [List.length_set]; exact hti, ?_, ?_, hoN, hoCi⟩
              · rw [← hS1, hrs]
              · rw [← hS2, hrs]
                simp
            · show m < m + 1
              omega
  · have hde : d = e + 1 := by omega
    subst hde
    rw [Nat.sub_self] at hT1 hT2
    have hT1 : th = Th := hT1
    have hT2 : cd = Tg := by rw [← hT2]; exact (List.append_nil _).symm
    subst hT1 hT2
    refine Wc.seq ?_
    refine Wc.seq ?_
    refine Wc.region rfl ?_
    refine Wl.q rfl (Qy.move rfl) ?_
    refine Wl.q rfl (Qy.move rfl) ?_
    refine Wl.q rfl (Qy.leq rfl rfl) ?_
    refine Wl.done ?_
    refine Ar.next ?_
    refine Wc.condN rfl (by first | assumption | omega) ?_
    refine Wc.exit ?_
    refine Ar.passExit ?_
    refine Ar.passExit ?_
    refine Ar.here ?_
    refine Ar.next ?_
    refine Wc.seq ?_
    refine Wc.region rfl ?_
    refine Wl.q rfl (Qy.move rfl) ?_
    refine Wl.q rfl (Qy.assign rfl) ?_
    refine Wl.done ?_
    refine Ar.next ?_
    refine Wc.ret ?_
    refine Ar.out1 (by first | exact .inl rfl | exact .inr rfl) (Ho := [(0, some b, .cells #[.int .i64 wh.length, .slice o cd.length dd, .slice wa wh.length wc] 175), (1, o.map (·.block), Row 72 cd q), (2, some b1, Row 4 th [])]) rfl (.tmp rfl) ⟨rfl, rfl, rfl, trivial⟩ ?_
    exact ⟨rfl, o, dd, q, th, cd, b1, rfl, rfl, by rw [hth], hoC, by rw [hth]; exact hoT, rfl⟩
end Go.Proofs.Ytbppmiimeccclaa
set_option maxRecDepth 100000
set_option linter.unusedVariables false
namespace Go.Proofs.Ytbppmiimeccclaa
open Go Go.Sl
set_option maxHeartbeats 4000000
/-- what comes from the place m - 1 on -/
def bkM (n : Int) (p : R2) (e m : Nat) : List Sl.Instr := if m = e + 1 then backA n p e else bkIn n p m
theorem addAll_drop (n : Int) (th : List Bool) {t : Nat} (h : t < th.length) : addAll n (th.drop t) t = (if th[((t : Nat) : Int).toNat]?.getD default = true then [(⟨3, n + t, n + t, 2 * n + t, 0⟩ : Sl.Instr)] else []) ++ addAll n (th.drop (t + 1)) (t + 1) := by
  rw [List.drop_eq_getElem_cons h, Int.toNat_natCast, List.getElem?_eq_getElem h]; rfl
theorem c128 (G : Imm) (b : Nat) (ac : Option Addr) (cc : Nat) (code : List Sl.Instr) (j : List Value) (wa : Option Addr) (wc : Nat) (wh : List R2) (k : Int) (e : Nat) (ho : OwnA ac cc code j) (hw : Arr G wa wh)
    (hwl : wh.length ≤ 15) (hk : 0 ≤ k ∧ k < wh.length) (he1 : 1 ≤ e) (he : e < wh.length) (hok : okP (wh[k.toNat]?.getD default)) (hl : (code ++ backI wh.length wh k e).length ≤ 1048576) :
    Does Try.prog 128 [.pointer (some ⟨b, 0, none⟩), .int .i64 k, .int .i64 e] G [(0, some b, .cells #[.int .i64 wh.length, .slice ac code.length cc, .slice wa wh.length wc] 175), (1, ac.map (·.block), Row 72 code j)]
      (fun v G' Ho => v = .tuple #[] ∧ G' = G ∧ ∃ (a' : Option Addr) (c' : Nat) (j' : List Value), OwnA a' c' (code ++ backI wh.length wh k e) j' ∧ Ho = [(0, some b, .cells #[.int .i64 wh.length, .slice a' (code ++ backI wh.length wh k e).length c', .slice wa wh.length wc] 175), (1, a'.map (·.block), Row 72 (code ++ backI wh.length wh k e) j')]) := by
  have hl0 : code.length ≤ 1048576 := by rw [List.length_append] at hl; omega
  obtain ⟨hnk, hzk⟩ := hok
  have hnk2 := hnk
  unfold near at hnk2
  refine Does.enter Try.func128 rfl Try.ntmps128 rfl (fun w => ?_)
  refine Wc.seq ?_
  refine Wc.region rfl ?_
  refine Wl.q rfl (Qy.move rfl) ?_
  refine Wl.q rfl (Qy.nilCheck rfl) ?_
  refine Wl.q rfl (Qy.fieldAddr T.fa175_2 rfl) ?_
  refine Wl.q rfl (Qy.load 0 T.one47 rfl rfl rfl) ?_
  refine Wl.q rfl (Qy.move rfl) ?_
  refine Wl.q rfl (Qy.at (α := R2) T.sl47 rfl rfl (by assumption) (by omega)) ?_
  refine Wl.q rfl (Qy.loadsG T.agg75 rfl (Arr.elem (by assumption) (by omega)) rfl) ?_
  refine Wl.alloc 2 rfl T.zero75 (fun b1 => ?_)
  refine Wl.storeAll 2 T.size75 rfl rfl rfl rfl rfl rfl ?_
  refine Wl.done ?_
  refine Ar.next ?_
  refine Wc.seq ?_
  refine Wc.seq ?_
  refine Wc.region rfl ?_
  refine Wl.q rfl (Qy.move rfl) ?_
  refine Wl.q rfl (Qy.assign rfl) ?_
  refine Wl.done ?_
  refine Ar.next ?_
  refine Wc.block ?_
  generalize hp : wh[k.toNat]?.getD default = p at *
  have hbI : backI wh.length wh k e = backA wh.length p e ++ (raisedI wh.length (bezS p.a p.b) (bezT p.a p.b) k e ++ addAll wh.length (raisedT wh.length (bezS p.a p.b) (bezT p.a p.b) e) 0) := by unfold backI ptW; rw [hp]
  rw [hbI] at hl
  have hlA : (code ++ backA wh.length p e).length ≤ 1048576 := by rw [← List.append_assoc, List.length_append] at hl; omega
  refine Wc.re 7 rfl (show _ = Value.int .i64 (((e + 1 : Nat) : Int) - 1) by congr 1; omega) ?_
  refine Wc.loop (ι := Nat × List Sl.Instr × (Option Addr × Nat × List Value)) (fun (m, cd, (o, d, q)) => ([(7, .int .i64 ((m : Int) - 1)), (1, .int .i64 k), (6, Go.Value.pointer (Option.some (Go.Addr.mk b1 0 Option.none))), (0, Go.Value.pointer (Option.some (Go.Addr.mk b 0 Option.none))), (2, Go.Value.int Go.IntKind.i64 (↑e : Int))], [(0, some b, .cells #[.int .i64 wh.length, .slice o cd.length d, .slice wa wh.length wc] 175), (1, o.map (·.block), Row 72 cd q), (2, Option.some b1, Go.Obj.cells (List.toArray (Go.Sl.Cells.enc p)) 75)])) (fun (m, cd, (o, d, q)) => m ≤ e + 1 ∧ cd ++ bkM wh.length p e m = code ++ backA wh.length p e ∧ OwnA o d cd q) (fun (m, cd, (o, d, q)) => m) ((e + 1, code, (ac, cc, j))) (⟨Nat.le_refl _, by unfold bkM; rw [if_pos rfl], ho⟩) ⟨rfl, rfl, rfl, rfl, rfl, trivial⟩ ⟨rfl, rfl, rfl, trivial⟩ (fun ⟨m, cd, (o, d, q)⟩ => fun (hk : m ≤ e + 1 ∧ cd ++ bkM wh.length p e m = code ++ backA wh.length p e ∧ OwnA o d cd q) => ?_)
  obtain ⟨hm1, hm2, hm3⟩ := hk
  have hcl : cd.length ≤ 1048576 := by rw [← hm2, List.length_append] at hlA; omega
  rcases Nat.eq_zero_or_pos m with hm0 | hm0
  · have hm2 : cd = code ++ backA wh.length p e := by
      rw [← hm2]; unfold bkM; rw [if_neg (by omega), hm0]; exact (List.append_nil _).symm
    have hl1 : (cd ++ raisedI wh.length (bezS (wh[k.toNat]?.getD default).a (wh[k.toNat]?.getD default).b) (bezT (wh[k.toNat]?.getD default).a (wh[k.toNat]?.getD default).b) k e).length ≤ 1048576 := by
      rw [hp, hm2, List.length_append, List.length_append]
      rw [List.length_append, List.length_append, List.length_append] at hl
      omega
    refine Wc.seq ?_
    refine Wc.seq ?_
    refine Wc.region rfl ?_
    refine Wl.q rfl (Qy.move rfl) ?_
    refine Wl.q rfl (Qy.geq rfl rfl) ?_
    refine Wl.done ?_
    refine Ar.next ?_
    refine Wc.condN rfl (by first | assumption | omega) ?_
    refine Wc.exit ?_
    refine Ar.passExit ?_
    refine Ar.passExit ?_
    refine Ar.here ?_
    refine Ar.next ?_
    refine Wc.seq ?_
    refine Wc.region rfl ?_
    refine Wl.q rfl (Qy.move rfl) ?_
    refine Wl.q rfl (Qy.move rfl) ?_
    refine Wl.q rfl (Qy.move rfl) ?_
    refine Wl.call 0 rfl T.fn161 rfl (c161 _ b o d cd q wa wc wh k e hm3 (by assumption) hwl hk he (by rw [hp]; exact ⟨hnk, hzk⟩) hl1) (tags_of ⟨rfl, rfl, trivial⟩) (fun v1 G1 Ho1 hle1 hp => ?_)
    obtain ⟨rfl, ra1, rd1, rj1, th1, rc1, tb1, hth1, hrc1, rfl, hro1, hto1, rfl⟩ := hp
    refine Wl.q rfl (Qy.len T.sl41 rfl) ?_
    refine Wl.q rfl (Qy.move rfl) ?_
    refine Wl.done ?_
    refine Ar.next ?_
    refine Wc.block ?_
    rw [hp] at hth1 hrc1
    rw [hm2] at hrc1
    have hthl : th1.length = e + 1 := by rw [hth1, raisedT_len]
    rw [← List.append_assoc, ← List.append_assoc, ← hrc1, ← hth1] at hl
    refine Wc.loop (ι := Nat × List Sl.Instr × (Option Addr × Nat × List Value)) (fun (t, ce, (o, d, q)) => ([(76, .int .i64 (t : Int)), (75, Go.Value.int Go.IntKind.i64 (↑(List.length th1) : Int)), (74, Go.Value.slice (Option.some (Go.Addr.mk tb1 0 Option.none)) (List.length th1) (List.length th1)), (0, Go.Value.pointer (Option.some (Go.Addr.mk b 0 Option.none)))], [(0, some b, .cells #[.int .i64 wh.length, .slice o ce.length d, .slice wa wh.length wc] 175), (1, o.map (·.block), Row 72 ce q), (2, Option.some tb1, Go.Sl.Row (α := Bool) 4 (th1) ([]))])) (fun (t, ce, (o, d, q)) => t ≤ th1.length ∧ ce ++ addAll wh.length (th1.drop t) t = rc1 ++ addAll wh.length th1 0 ∧ OwnA o d ce q) (fun (t, ce, (o, d, q)) => th1.length - t) ((0, rc1, (ra1, rd1, rj1))) (⟨Nat.zero_le _, rfl, hro1⟩) ⟨rfl, rfl, rfl, rfl, trivial⟩ ⟨rfl, rfl, rfl, trivial⟩ (fun ⟨t, ce, (o, d, q)⟩ => fun (hk : t ≤ th1.length ∧ ce ++ addAll wh.length (th1.drop t) t = rc1 ++ addAll wh.length th1 0 ∧ OwnA o d ce q) => ?_)
    obtain ⟨ht1, ht2, ht3⟩ := hk
    have hel : ce.length ≤ 1048576 := by rw [← ht2, List.length_append] at hl; omega
    rcases Nat.lt_or_ge t th1.length with hte | hte
    · rw [addAll_drop _ _ hte] at ht2
      refine Wc.seq ?_
      refine Wc.region rfl ?_
      refine Wl.q rfl (Qy.lss rfl rfl) ?_
      refine Wl.done ?_
      refine Ar.next ?_
      refine Wc.seq ?_
      refine Wc.condP rfl (by first | assumption | omega) ?_
      refine Wc.skip ?_
      refine Ar.next ?_
      refine Wc.seq ?_
      refine Wc.block ?_
      refine Wc.seq ?_
      refine Wc.region rfl ?_
      refine Wl.q rfl (Qy.move rfl) ?_
      refine Wl.q rfl (Qy.indexAddrO (α := Bool) T.sl41 rfl rfl (by assumption) (by omega)) ?_
      refine Wl.q rfl (Qy.loadO 2 0 T.one4 rfl rfl (by assumption) (by omega) rfl rfl) ?_
      refine Wl.q rfl (Qy.assign rfl) ?_
      refine Wl.q rfl (Qy.assign rfl) ?_
      refine Wl.done ?_
      refine Ar.next ?_
      refine Wc.seq ?_
      refine Wc.region rfl ?_
      refine Wl.q rfl (Qy.move rfl) ?_
      refine Wl.done ?_
      refine Ar.next ?_
      refine Wc.ite rfl (fun hc1 => ?_) (fun hc1 => ?_)
      refine Wc.region rfl ?_
      refine Wl.q rfl (Qy.move rfl) ?_
      refine Wl.q rfl (Qy.move rfl) ?_
      refine Wl.q rfl (Qy.move rfl) ?_
      refine Wl.call1 0 rfl T.fn127 rfl (c127 _ b _ _ _ _ (by omega) (by omega)) (tags_of ⟨rfl, trivial⟩) ?_
      refine Wl.q rfl (Qy.move rfl) ?_
      refine Wl.q rfl (Qy.move rfl) ?_
      refine Wl.call1 0 rfl T.fn127 rfl (c127 _ b _ _ _ _ (by omega) (by omega)) (tags_of ⟨rfl, trivial⟩) ?_
      refine Wl.q rfl (Qy.move rfl) ?_
      refine Wl.q rfl (Qy.move rfl) ?_
      refine Wl.call1 0 rfl T.fn162 rfl (c162 _ b _ _ _ _ (by omega) (by omega)) (tags_of ⟨rfl, trivial⟩) ?_
      refine Wl.call 0 rfl T.fn158 rfl (c158 _ b _ o d ce q wa _ wc _ _ _ _ _ ht3 hel) (tags_of ⟨rfl, rfl, trivial⟩) (fun v2 G2 Ho2 hle2 hp => ?_)
      obtain ⟨rfl, rfl, a2, d2, j2, ho2, rfl⟩ := hp
      refine Wl.done ?_
      refine Ar.outNormal ?_
      refine Ar.next ?_
      refine Wc.region rfl ?_
      refine Wl.q rfl (Qy.add rfl rfl (by omega)) ?_
      refine Wl.q rfl (Qy.move rfl) ?_
      refine Wl.done ?_
      rotate_left
      refine Wc.skip ?_
      refine Ar.outNormal ?_
      refine Ar.next ?_
      refine Wc.region rfl ?_
      refine Wl.q rfl (Qy.add rfl rfl (by omega)) ?_
      refine Wl.q rfl (Qy.move rfl) ?_
      refine Wl.done ?_
      rotate_left
      · rw [if_pos hc1] at ht2
        refine Ar.re 76 rfl (show _ = Value.int .i64 ((t + 1 : Nat) : Int) from rfl) ?_
        refine Ar.again ((t + 1, _, (a2, d2, j2))) ?_ ?_ rfl ⟨rfl, rfl, rfl, rfl, trivial⟩ ⟨rfl, rfl, rfl, trivial⟩
        · refine ⟨hte, ?_, ho2⟩
          rw [← ht2]; simp only [List.append_assoc]
        · show th1.length - (t + 1) < th1.length - t
          omega
      · rw [if_neg (by rw [hc1]; decide), List.nil_append] at ht2
        refine Ar.re 76 rfl (show _ = Value.int .i64 ((t + 1 : Nat) : Int) from rfl) ?_
        refine Ar.again ((t + 1, ce, (o, d, q))) ?_ ?_ rfl ⟨rfl, rfl, rfl, rfl, trivial⟩ ⟨rfl, rfl, rfl, trivial⟩
        · exact ⟨hte, ht2, ht3⟩
        · show th1.length - (t + 1) < th1.length - t
          omega
    · have hte : t = th1.length := by omega
      have ht2 : ce = rc1 ++ addAll wh.length th1 0 := by rw [← ht2, hte, List.drop_length]; exact (List.append_nil _).symm
      refine Wc.seq ?_
      refine Wc.region rfl ?_
      refine Wl.q rfl (Qy.lss rfl rfl) ?_
      refine Wl.done ?_
      refine Ar.next ?_
      refine Wc.seq ?_
      refine Wc.condN rfl (by first | assumption | omega) ?_
      refine Wc.exit ?_
      refine Ar.passExit ?_
      refine Ar.passExit ?_
      refine Ar.here ?_
      have hce : ce = code ++ backI wh.length wh k e := by rw [ht2, hrc1, hbI, hth1]; simp only [List.append_assoc]
      rw [hce] at ht3
      refine Ar.out0 (by first | exact .inl rfl | exact .inr rfl) (Ho := [(0, some b, .cells #[.int .i64 wh.length, .slice o (code ++ backI wh.length wh k e).length d, .slice wa wh.length wc] 175), (1, o.map (·.block), Row 72 (code ++ backI wh.length wh k e) q)]) rfl ⟨by rw [← hce]; rfl, by rw [← hce]; rfl, trivial⟩ ?_
      exact ⟨rfl, rfl, o, d, q, ht3, rfl⟩
  · rcases Nat.lt_or_ge e m with hme | hme
    · have hme : m = e + 1 := by omega
      have hm2 : cd ++ (timesI (wh.length + e) (wh.length + ((e : Int) - 1)) (-p.b) ++ bkIn wh.length p e) = code ++ backA wh.length p e := by
        rw [← hm2]; unfold bkM; rw [if_pos hme]; rfl
      refine Wc.re 7 rfl (show _ = Value.int .i64 (e : Int) by congr 1; omega) ?_
      refine Wc.seq ?_
      refine Wc.seq ?_
      refine Wc.region rfl ?_
      refine Wl.q rfl (Qy.move rfl) ?_
      refine Wl.q rfl (Qy.geq rfl rfl) ?_
      refine Wl.done ?_
      refine Ar.next ?_
      refine Wc.condP rfl (by first | assumption | omega) ?_
      refine Wc.skip ?_
      refine Ar.next ?_
      refine Wc.seq ?_
      refine Wc.block ?_
      refine Wc.seq ?_
      refine Wc.seq ?_
      refine Wc.region rfl ?_
      refine Wl.q rfl (Qy.move rfl) ?_
      refine Wl.q rfl (Qy.move rfl) ?_
      refine Wl.q rfl (Qy.eql rfl rfl) ?_
      refine Wl.done ?_
      refine Ar.next ?_
      refine Wc.condP rfl (by first | assumption | omega) ?_
      refine Wc.seq ?_
      refine Wc.draw [2, 1, 0] [(1, 11), (0, 11)] T.mixed rfl ?_
      refine Gm.q 0 [] (by kernel_rfl) rfl rfl (Qy.move rfl) ?_
      refine Gm.q 1 [] (by kernel_rfl) rfl rfl (Qy.move rfl) ?_
      refine Gm.q 2 [] (by kernel_rfl) rfl rfl (Qy.move rfl) ?_
      refine Gm.q 4 [] (by kernel_rfl) rfl rfl (Qy.move rfl) ?_
      refine Gm.q 5 [] (by kernel_rfl) rfl rfl (Qy.move rfl) ?_
      refine Gm.q 6 [] (by kernel_rfl) rfl rfl (Qy.sub rfl rfl (by omega)) ?_
      refine Gm.q 8 [] (by kernel_rfl) rfl rfl (Qy.fieldAddr T.fa75_1 rfl) ?_
      refine Gm.q 9 [2] (by kernel_rfl) rfl rfl (Qy.load 2 T.one3 rfl rfl rfl) ?_
      refine Gm.q 10 [] (by kernel_rfl) rfl rfl (Qy.neg rfl (by omega)) ?_
      refine Gm.one 3 ⟨rfl, rfl, rfl, trivial⟩ (by first | exact Imm.le_refl _ | repeat (first | assumption | refine Imm.le_trans ?_ (by assumption))) (by kernel_rfl) rfl ?_
      refine Wl.call1 0 rfl T.fn127 rfl (c127 _ b _ _ _ _ (by omega) (by omega)) (tags_of ⟨rfl, trivial⟩) ?_
      refine Wl.on0 ?_
      refine Gm.one 7 ⟨rfl, rfl, rfl, trivial⟩ (by first | exact Imm.le_refl _ | repeat (first | assumption | refine Imm.le_trans ?_ (by assumption))) (by kernel_rfl) rfl ?_
      refine Wl.call1 0 rfl T.fn127 rfl (c127 _ b _ _ _ _ (by omega) (by omega)) (tags_of ⟨rfl, trivial⟩) ?_
      refine Wl.on0 ?_
      refine Gm.one 11 ⟨rfl, rfl, rfl, trivial⟩ (by first | exact Imm.le_refl _ | repeat (first | assumption | refine Imm.le_trans ?_ (by assumption))) (by kernel_rfl) rfl ?_
      refine Wl.call 0 rfl T.fn126 rfl (c126 _ b _ o d cd q wa _ wc _ _ _ hm3 hcl) (tags_of ⟨rfl, rfl, trivial⟩) (fun v1 G1 Ho1 hle1 hp => ?_)
      obtain ⟨rfl, rfl, a1, d1, j1, ho1, rfl⟩ := hp
      refine Wl.on0 ?_
      refine Gm.doneA (by kernel_rfl) ⟨rfl, trivial⟩ (by first | exact Imm.le_refl _ | repeat (first | assumption | refine Imm.le_trans ?_ (by assumption))) ?_
      refine Ar.next ?_
      refine Wc.exit ?_
      refine Ar.passExit ?_
      refine Ar.here ?_
      refine Ar.next ?_
      refine Wc.region rfl ?_
      refine Wl.q rfl (Qy.move rfl) ?_
      refine Wl.q rfl (Qy.sub rfl rfl (by omega)) ?_
      refine Wl.q rfl (Qy.assign rfl) ?_
      refine Wl.done ?_
      refine Ar.re 7 rfl (show _ = Value.int .i64 ((e : Int) - 1) from rfl) ?_
      refine Ar.again ((e, _, (a1, d1, j1))) ?_ ?_ rfl ⟨rfl, rfl, rfl, rfl, rfl, trivial⟩ ⟨rfl, rfl, rfl, trivial⟩
      · refine ⟨by omega, ?_, ho1⟩
        rw [← hm2]; unfold bkM; rw [if_neg (by omega), List.append_assoc]
      · show e < m
        omega
    · obtain ⟨i, rfl⟩ : ∃ i, m = i + 1 := ⟨m - 1, by omega⟩
      refine Wc.re 7 rfl (show _ = Value.int .i64 (i : Int) by congr 1; omega) ?_
      have hm2 : cd ++ bkIn wh.length p (i + 1) = code ++ backA wh.length p e := by rw [← hm2]; unfold bkM; rw [if_neg (by omega)]
      unfold bkIn at hm2
      rcases Nat.eq_zero_or_pos i with hi0 | hi0
      · rw [if_neg (by omega), if_neg (by omega)] at hm2
        refine Wc.seq ?_
        refine Wc.seq ?_
        refine Wc.region rfl ?_
        refine Wl.q rfl (Qy.move rfl) ?_
        refine Wl.q rfl (Qy.geq rfl rfl) ?_
        refine Wl.done ?_
        refine Ar.next ?_
        refine Wc.condP rfl (by first | assumption | omega) ?_
        refine Wc.skip ?_
        refine Ar.next ?_
        refine Wc.seq ?_
        refine Wc.block ?_
        refine Wc.seq ?_
        refine Wc.seq ?_
        refine Wc.region rfl ?_
        refine Wl.q rfl (Qy.move rfl) ?_
        refine Wl.q rfl (Qy.move rfl) ?_
        refine Wl.q rfl (Qy.eql rfl rfl) ?_
        refine Wl.done ?_
        refine Ar.next ?_
        refine Wc.condN rfl (by first | assumption | omega) ?_
        refine Wc.skip ?_
        refine Ar.next ?_
        refine Wc.seq ?_
        refine Wc.seq ?_
        refine Wc.region rfl ?_
        refine Wl.q rfl (Qy.move rfl) ?_
        refine Wl.q rfl (Qy.gtr rfl rfl) ?_
        refine Wl.done ?_
        refine Ar.next ?_
        refine Wc.condN rfl (by first | assumption | omega) ?_
        refine Wc.skip ?_
        refine Ar.next ?_
        refine Wc.seq ?_
        refine Wc.draw [2, 1, 0] [(1, 9), (0, 9)] T.mixed rfl ?_
        refine Gm.q 0 [] (by kernel_rfl) rfl rfl (Qy.move rfl) ?_
        refine Gm.q 1 [] (by kernel_rfl) rfl rfl (Qy.move rfl) ?_
        refine Gm.q 2 [] (by kernel_rfl) rfl rfl (Qy.move rfl) ?_
        refine Gm.q 4 [] (by kernel_rfl) rfl rfl (Qy.move rfl) ?_
        refine Gm.q 5 [] (by kernel_rfl) rfl rfl (Qy.move rfl) ?_
        refine Gm.q 7 [] (by kernel_rfl) rfl rfl (Qy.fieldAddr T.fa75_0 rfl) ?_
        refine Gm.q 8 [2] (by kernel_rfl) rfl rfl (Qy.load 2 T.one3 rfl rfl rfl) ?_
        refine Gm.one 3 ⟨rfl, rfl, rfl, trivial⟩ (by first | exact Imm.le_refl _ | repeat (first | assumption | refine Imm.le_trans ?_ (by assumption))) (by kernel_rfl) rfl ?_
        refine Wl.call1 0 rfl T.fn127 rfl (c127 _ b _ _ _ _ (by omega) (by omega)) (tags_of ⟨rfl, trivial⟩) ?_
        refine Wl.on0 ?_
        refine Gm.one 6 ⟨rfl, rfl, rfl, trivial⟩ (by first | exact Imm.le_refl _ | repeat (first | assumption | refine Imm.le_trans ?_ (by assumption))) (by kernel_rfl) rfl ?_
        refine Wl.call1 0 rfl T.fn127 rfl (c127 _ b _ _ _ _ (by omega) (by omega)) (tags_of ⟨rfl, trivial⟩) ?_
        refine Wl.on0 ?_
        refine Gm.one 9 ⟨rfl, rfl, rfl, trivial⟩ (by first | exact Imm.le_refl _ | repeat (first | assumption | refine Imm.le_trans ?_ (by assumption))) (by kernel_rfl) rfl ?_
        refine Wl.call 0 rfl T.fn126 rfl (c126 _ b _ o d cd q wa _ wc _ _ _ hm3 hcl) (tags_of ⟨rfl, rfl, trivial⟩) (fun v1 G1 Ho1 hle1 hp => ?_)
        obtain ⟨rfl, rfl, a1, d1, j1, ho1, rfl⟩ := hp
        refine Wl.on0 ?_
        refine Gm.doneA (by kernel_rfl) ⟨rfl, trivial⟩ (by first | exact Imm.le_refl _ | repeat (first | assumption | refine Imm.le_trans ?_ (by assumption))) ?_
        refine Ar.next ?_
        refine Wc.seq ?_
        refine Wc.region rfl ?_
        refine Wl.q rfl (Qy.move rfl) ?_
        refine Wl.q rfl (Qy.gtr rfl rfl) ?_
        refine Wl.done ?_
        refine Ar.next ?_
        refine Wc.condN rfl (by first | assumption | omega) ?_
        refine Wc.skip ?_
        refine Ar.outNormal ?_
        refine Ar.next ?_
        refine Wc.region rfl ?_
        refine Wl.q rfl (Qy.move rfl) ?_
        refine Wl.q rfl (Qy.sub rfl rfl (by omega)) ?_
        refine Wl.q rfl (Qy.assign rfl) ?_
        refine Wl.done ?_
        refine Ar.re 7 rfl (show _ = Value.int .i64 ((i : Int) - 1) from rfl) ?_
        refine Ar.again ((i, _, (a1, d1, j1))) ?_ ?_ rfl ⟨rfl, rfl, rfl, rfl, rfl, trivial⟩ ⟨rfl, rfl, rfl, trivial⟩
        · refine ⟨by omega, ?_, ho1⟩
          rw [← hm2]; unfold bkM; rw [if_neg (by omega)]; simp only [List.append_assoc, List.nil_append]
        · show i < i + 1
          omega
      · rw [if_pos hi0, if_pos hi0] at hm2
        have hb1 : ((cd ++ timesI (3 * (wh.length : Int)) ((wh.length : Int) + ((i : Int) - 1)) p.b) ++ timesI ((wh.length : Int) + (i : Int)) ((wh.length : Int) + (i : Int)) p.a).length ≤ 1048576 := by
          rw [← hm2] at hlA
          simp only [List.length_append] at hlA
          simp only [List.length_append]
          omega
        have hb0 : (cd ++ timesI (3 * (wh.length : Int)) ((wh.length : Int) + ((i : Int) - 1)) p.b).length ≤ 1048576 := by rw [List.length_append] at hb1; omega
        refine Wc.seq ?_
        refine Wc.seq ?_
        refine Wc.region rfl ?_
        refine Wl.q rfl (Qy.move rfl) ?_
        refine Wl.q rfl (Qy.geq rfl rfl) ?_
        refine Wl.done ?_
        refine Ar.next ?_
        refine Wc.condP rfl (by first | assumption | omega) ?_
        refine Wc.skip ?_
        refine Ar.next ?_
        refine Wc.seq ?_
        refine Wc.block ?_
        refine Wc.seq ?_
        refine Wc.seq ?_
        refine Wc.region rfl ?_
        refine Wl.q rfl (Qy.move rfl) ?_
        refine Wl.q rfl (Qy.move rfl) ?_
        refine Wl.q rfl (Qy.eql rfl rfl) ?_
        refine Wl.done ?_
        refine Ar.next ?_
        refine Wc.condN rfl (by first | assumption | omega) ?_
        refine Wc.skip ?_
        refine Ar.next ?_
        refine Wc.seq ?_
        refine Wc.seq ?_
        refine Wc.region rfl ?_
        refine Wl.q rfl (Qy.move rfl) ?_
        refine Wl.q rfl (Qy.gtr rfl rfl) ?_
        refine Wl.done ?_
        refine Ar.next ?_
        refine Wc.condP rfl (by first | assumption | omega) ?_
        refine Wc.draw [2, 1, 0] [(1, 9), (0, 9)] T.mixed rfl ?_
        refine Gm.q 0 [] (by kernel_rfl) rfl rfl (Qy.move rfl) ?_
        refine Gm.q 1 [] (by kernel_rfl) rfl rfl (Qy.move rfl) ?_
        refine Gm.q 3 [] (by kernel_rfl) rfl rfl (Qy.move rfl) ?_
        refine Gm.q 4 [] (by kernel_rfl) rfl rfl (Qy.move rfl) ?_
        refine Gm.q 5 [] (by kernel_rfl) rfl rfl (Qy.sub rfl rfl (by omega)) ?_
        refine Gm.q 7 [] (by kernel_rfl) rfl rfl (Qy.fieldAddr T.fa75_1 rfl) ?_
        refine Gm.q 8 [2] (by kernel_rfl) rfl rfl (Qy.load 2 T.one3 rfl rfl rfl) ?_
        refine Gm.one 2 ⟨rfl, rfl, rfl, trivial⟩ (by first | exact Imm.le_refl _ | repeat (first | assumption | refine Imm.le_trans ?_ (by assumption))) (by kernel_rfl) rfl ?_
        refine Wl.call1 0 rfl T.fn160 rfl (c160 _ b _ _ _ (by omega)) (tags_of ⟨rfl, trivial⟩) ?_
        refine Wl.on0 ?_
        refine Gm.one 6 ⟨rfl, rfl, rfl, trivial⟩ (by first | exact Imm.le_refl _ | repeat (first | assumption | refine Imm.le_trans ?_ (by assumption))) (by kernel_rfl) rfl ?_
        refine Wl.call1 0 rfl T.fn127 rfl (c127 _ b _ _ _ _ (by omega) (by omega)) (tags_of ⟨rfl, trivial⟩) ?_
        refine Wl.on0 ?_
        refine Gm.one 9 ⟨rfl, rfl, rfl, trivial⟩ (by first | exact Imm.le_refl _ | repeat (first | assumption | refine Imm.le_trans ?_ (by assumption))) (by kernel_rfl) rfl ?_
        refine Wl.call 0 rfl T.fn126 rfl (c126 _ b _ o d cd q wa _ wc _ _ _ hm3 hcl) (tags_of ⟨rfl, rfl, trivial⟩) (fun v1 G1 Ho1 hle1 hp => ?_)
        obtain ⟨rfl, rfl, a1, d1, j1, ho1, rfl⟩ := hp
        refine Wl.on0 ?_
        refine Gm.doneA (by kernel_rfl) ⟨rfl, trivial⟩ (by first | exact Imm.le_refl _ | repeat (first | assumption | refine Imm.le_trans ?_ (by assumption))) ?_
        refine Ar.next ?_
        refine Wc.seq ?_
        refine Wc.draw [2, 1, 0] [(1, 9), (0, 9)] T.mixed rfl ?_
        refine Gm.q 0 [] (by kernel_rfl) rfl rfl (Qy.move rfl) ?_
        refine Gm.q 1 [] (by kernel_rfl) rfl rfl (Qy.move rfl) ?_
        refine Gm.q 2 [] (by kernel_rfl) rfl rfl (Qy.move rfl) ?_
        refine Gm.q 4 [] (by kernel_rfl) rfl rfl (Qy.move rfl) ?_
        refine Gm.q 5 [] (by kernel_rfl) rfl rfl (Qy.move rfl) ?_
        refine Gm.q 7 [] (by kernel_rfl) rfl rfl (Qy.fieldAddr T.fa75_0 rfl) ?_
        refine Gm.q 8 [2] (by kernel_rfl) rfl rfl (Qy.load 2 T.one3 rfl rfl rfl) ?_
        refine Gm.one 3 ⟨rfl, rfl, rfl, trivial⟩ (by first | exact Imm.le_refl _ | repeat (first | assumption | refine Imm.le_trans ?_ (by assumption))) (by kernel_rfl) rfl ?_
        refine Wl.call1 0 rfl T.fn127 rfl (c127 _ b _ _ _ _ (by omega) (by omega)) (tags_of ⟨rfl, trivial⟩) ?_
        refine Wl.on0 ?_
        refine Gm.one 6 ⟨rfl, rfl, rfl, trivial⟩ (by first | exact Imm.le_refl _ | repeat (first | assumption | refine Imm.le_trans ?_ (by assumption))) (by kernel_rfl) rfl ?_
        refine Wl.call1 0 rfl T.fn127 rfl (c127 _ b _ _ _ _ (by omega) (by omega)) (tags_of ⟨rfl, trivial⟩) ?_
        refine Wl.on0 ?_
        refine Gm.one 9 ⟨rfl, rfl, rfl, trivial⟩ (by first | exact Imm.le_refl _ | repeat (first | assumption | refine Imm.le_trans ?_ (by assumption))) (by kernel_rfl) rfl ?_
        refine Wl.call 0 rfl T.fn126 rfl (c126 _ b _ a1 d1 (cd ++ timesI (3 * (wh.length : Int)) ((wh.length : Int) + ((i : Int) - 1)) p.b) j1 wa _ wc _ _ _ ho1 hb0) (tags_of ⟨rfl, rfl, trivial⟩) (fun v2 G2 Ho2 hle2 hp => ?_)
        obtain ⟨rfl, rfl, a2, d2, j2, ho2, rfl⟩ := hp
        refine Wl.on0 ?_
        refine Gm.doneA (by kernel_rfl) ⟨rfl, trivial⟩ (by first | exact Imm.le_refl _ | repeat (first | assumption | refine Imm.le_trans ?_ (by assumption))) ?_
        refine Ar.next ?_
        refine Wc.seq ?_
        refine Wc.region rfl ?_
        refine Wl.q rfl (Qy.move rfl) ?_
        refine Wl.q rfl (Qy.gtr rfl rfl) ?_
        refine Wl.done ?_
        refine Ar.next ?_
        refine Wc.condP rfl (by first | assumption | omega) ?_
        refine Wc.region rfl ?_
        refine Wl.q rfl (Qy.move rfl) ?_
        refine Wl.q rfl (Qy.move rfl) ?_
        refine Wl.q rfl (Qy.move rfl) ?_
        refine Wl.call1 0 rfl T.fn127 rfl (c127 _ b _ _ _ _ (by omega) (by omega)) (tags_of ⟨rfl, trivial⟩) ?_
        refine Wl.q rfl (Qy.move rfl) ?_
        refine Wl.q rfl (Qy.move rfl) ?_
        refine Wl.call1 0 rfl T.fn127 rfl (c127 _ b _ _ _ _ (by omega) (by omega)) (tags_of ⟨rfl, trivial⟩) ?_
        refine Wl.q rfl (Qy.move rfl) ?_
        refine Wl.call1 0 rfl T.fn160 rfl (c160 _ b _ _ _ (by omega)) (tags_of ⟨rfl, trivial⟩) ?_
        refine Wl.call 0 rfl T.fn158 rfl (c158 _ b _ a2 d2 ((cd ++ timesI (3 * (wh.length : Int)) ((wh.length : Int) + ((i : Int) - 1)) p.b) ++ timesI ((wh.length : Int) + (i : Int)) ((wh.length : Int) + (i : Int)) p.a) j2 wa _ wc _ _ _ _ _ ho2 hb1) (tags_of ⟨rfl, rfl, trivial⟩) (fun v3 G3 Ho3 hle3 hp => ?_)
        obtain ⟨rfl, rfl, a3, d3, j3, ho3, rfl⟩ := hp
        refine Wl.done ?_
        refine Ar.outNormal ?_
        refine Ar.next ?_
        refine Wc.region rfl ?_
        refine Wl.q rfl (Qy.move rfl) ?_
        refine Wl.q rfl (Qy.sub rfl rfl (by omega)) ?_
        refine Wl.q rfl (Qy.assign rfl) ?_
        refine Wl.done ?_
        refine Ar.re 7 rfl (show _ = Value.int .i64 ((i : Int) - 1) from rfl) ?_
        refine Ar.again ((i, _, (a3, d3, j3))) ?_ ?_ rfl ⟨rfl, rfl, rfl, rfl, rfl, trivial⟩ ⟨rfl, rfl, rfl, trivial⟩
        · refine ⟨by omega, ?_, ho3⟩
          rw [← hm2]; unfold bkM; rw [if_neg (by omega)]; simp only [List.append_assoc]
        · show i < i + 1
          omega
end Go.Proofs.Ytbppmiimeccclaa
