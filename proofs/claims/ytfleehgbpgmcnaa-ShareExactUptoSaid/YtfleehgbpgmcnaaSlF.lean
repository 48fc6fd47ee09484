/- Tests: what is known, ways that part and meet again. -/
import Derived.Test.YtfleehgbpgmcnaaSlE
set_option linter.unusedVariables false
namespace Go.Sl
open Go
section
variable {P : Program} {ops : Array Oper} {l : List Oper} {B : Bs} {e : Env} {D : List Deferred} {H H0 : Hp} {G : Imm} {K : Act → World → Prop} {r : Option Nat} {c : Code} {Q : Exit → Act → World → Prop}
  {f : Nat} {listed : Array Bool} {wr : List (Nat × Nat)} {G0 : Imm} {d : Nat}

/-- a slot's value, said otherwise -/
theorem Hold.re {a : Act} {w : World} (hh : Hold B ⟨e, D, H, G⟩ a w) {t : Nat} {v v' : Value} (he : e.get t = some v) (hv : v = v') : Hold B ⟨(t, v') :: e, D, H, G⟩ a w := by
  subst hv
  refine ⟨hh.size, hh.defers, fun i u hu => ?_, hh.mem, hh.upd, hh.mine, hh.le, hh.new⟩
  rw [Env.get_cons] at hu
  split at hu
  · rename_i h; subst h; cases hu; exact hh.env _ _ he
  · exact hh.env i u hu
theorem Wl.re (t : Nat) {v v' : Value} (he : e.get t = some v) (hv : v = v') (h : Wl P ops l B ⟨(t, v') :: e, D, H, G⟩ K) : Wl P ops l B ⟨e, D, H, G⟩ K := fun a w hh => h a w (hh.re he hv)
theorem Wc.re (t : Nat) {v v' : Value} (he : e.get t = some v) (hv : v = v') (h : Wc r P c B ⟨(t, v') :: e, D, H, G⟩ Q) : Wc r P c B ⟨e, D, H, G⟩ Q := fun a w hh => h a w (hh.re he hv)
theorem Gm.re (t : Nat) {v v' : Value} (he : e.get t = some v) (hv : v = v') (h : Gm P ops f listed wr H0 G0 B ⟨(t, v') :: e, D, H, G⟩ K) : Gm P ops f listed wr H0 G0 B ⟨e, D, H, G⟩ K := fun a w hh => h a w (hh.re he hv)
theorem Ar.re {x : Exit} (t : Nat) {v v' : Value} (he : e.get t = some v) (hv : v = v') (h : Ar Q x B ⟨(t, v') :: e, D, H, G⟩) : Ar Q x B ⟨e, D, H, G⟩ := fun a w hh => h a w (hh.re he hv)
section dec
variable {p : Prop} [Decidable p]
theorem Wl.yes (t : Nat) (he : e.get t = some (.bool (decide p))) (hp : p) (h : Wl P ops l B ⟨(t, .bool true) :: e, D, H, G⟩ K) : Wl P ops l B ⟨e, D, H, G⟩ K := Wl.re t he (by simp [hp]) h
theorem Wl.no (t : Nat) (he : e.get t = some (.bool (decide p))) (hp : ¬ p) (h : Wl P ops l B ⟨(t, .bool false) :: e, D, H, G⟩ K) : Wl P ops l B ⟨e, D, H, G⟩ K := Wl.re t he (by simp [hp]) h
theorem Gm.yes (t : Nat) (he : e.get t = some (.bool (decide p))) (hp : p) (h : Gm P ops f listed wr H0 G0 B ⟨(t, .bool true) :: e, D, H, G⟩ K) : Gm P ops f listed wr H0 G0 B ⟨e, D, H, G⟩ K := Gm.re t he (by simp [hp]) h
theorem Gm.no (t : Nat) (he : e.get t = some (.bool (decide p))) (hp : ¬ p) (h : Gm P ops f listed wr H0 G0 B ⟨(t, .bool false) :: e, D, H, G⟩ K) : Gm P ops f listed wr H0 G0 B ⟨e, D, H, G⟩ K := Gm.re t he (by simp [hp]) h
theorem Wl.cases (t : Nat) (he : e.get t = some (.bool (decide p))) (ht : p → Wl P ops l B ⟨(t, .bool true) :: e, D, H, G⟩ K) (hf : ¬ p → Wl P ops l B ⟨(t, .bool false) :: e, D, H, G⟩ K) : Wl P ops l B ⟨e, D, H, G⟩ K := by
  by_cases hp : p
  · exact Wl.yes t he hp (ht hp)
  · exact Wl.no t he hp (hf hp)
theorem Gm.cases (t : Nat) (he : e.get t = some (.bool (decide p))) (ht : p → Gm P ops f listed wr H0 G0 B ⟨(t, .bool true) :: e, D, H, G⟩ K) (hf : ¬ p → Gm P ops f listed wr H0 G0 B ⟨(t, .bool false) :: e, D, H, G⟩ K) :
    Gm P ops f listed wr H0 G0 B ⟨e, D, H, G⟩ K := by
  by_cases hp : p
  · exact Gm.yes t he hp (ht hp)
  · exact Gm.no t he hp (hf hp)
theorem Wc.condP {c : Operand} {x y : Code} {S : St} (hc : S.e.ev c = some (.bool (decide p))) (hp : p) (ht : Wc r P x B S Q) : Wc r P (.cond c x y) B S Q := Wc.cond hc (fun _ => ht) (fun h => (h hp).elim)
theorem Wc.condN {c : Operand} {x y : Code} {S : St} (hc : S.e.ev c = some (.bool (decide p))) (hp : ¬ p) (hf : Wc r P y B S Q) : Wc r P (.cond c x y) B S Q := Wc.cond hc (fun h => (hp h).elim) (fun _ => hf)
end dec
theorem Wl.casesB (t : Nat) {b : Bool} (he : e.get t = some (.bool b)) (ht : b = true → Wl P ops l B ⟨(t, .bool true) :: e, D, H, G⟩ K) (hf : b = false → Wl P ops l B ⟨(t, .bool false) :: e, D, H, G⟩ K) : Wl P ops l B ⟨e, D, H, G⟩ K := by
  cases b
  · exact Wl.re t he rfl (hf rfl)
  · exact Wl.re t he rfl (ht rfl)
theorem Gm.casesB (t : Nat) {b : Bool} (he : e.get t = some (.bool b)) (ht : b = true → Gm P ops f listed wr H0 G0 B ⟨(t, .bool true) :: e, D, H, G⟩ K) (hf : b = false → Gm P ops f listed wr H0 G0 B ⟨(t, .bool false) :: e, D, H, G⟩ K) :
    Gm P ops f listed wr H0 G0 B ⟨e, D, H, G⟩ K := by
  cases b
  · exact Gm.re t he rfl (hf rfl)
  · exact Gm.re t he rfl (ht rfl)

/-! the ways meet again -/
def Env.hasKey : Env → Nat → Bool
  | [], _ => false
  | (i, _) :: e, j => bif Nat.beq i j then true else Env.hasKey e j
def Env.fresh (e : Env) : Env → Bool
  | [] => true
  | (i, _) :: l => (bif e.hasKey i then false else true) && Env.fresh e l
def Hp.hasKey : Hp → Nat → Bool
  | [], _ => false
  | (i, _) :: e, j => bif Nat.beq i j then true else Hp.hasKey e j
def Hp.fresh (e : Hp) : Hp → Bool
  | [] => true
  | (i, _) :: l => (bif e.hasKey i then false else true) && Hp.fresh e l
theorem Env.hasKey_get : ∀ {e : Env} {i : Nat} {v : Value}, e.get i = some v → e.hasKey i = true
  | [], i, v, h => by simp [Env.get] at h
  | (j, u) :: e, i, v, h => by
    show (bif Nat.beq j i then true else Env.hasKey e i) = true
    rw [Env.get_cons] at h
    split at h
    · rename_i hj; subst hj; simp
    · rw [Env.hasKey_get h]; cases Nat.beq j i <;> rfl
theorem Hp.hasKey_get : ∀ {e : Hp} {i : Nat} {v : Option Nat × Obj}, e.get i = some v → e.hasKey i = true
  | [], i, v, h => by simp [Hp.get] at h
  | (j, u) :: e, i, v, h => by
    show (bif Nat.beq j i then true else Hp.hasKey e i) = true
    rw [Hp.get_cons] at h
    split at h
    · rename_i hj; subst hj; simp
    · rw [Hp.hasKey_get h]; cases Nat.beq j i <;> rfl
theorem Env.get_fresh {e : Env} {i : Nat} {v : Value} (h : e.get i = some v) : ∀ {l : Env}, e.fresh l = true → Env.get (l ++ e) i = some v
  | [], _ => h
  | (j, u) :: l, hf => by
    have hf' : ((bif e.hasKey j then false else true) && Env.fresh e l) = true := hf
    simp only [Bool.and_eq_true] at hf'
    show Env.get ((j, u) :: (l ++ e)) i = some v
    rw [Env.get_cons]
    split
    · rename_i hj; subst hj; rw [Env.hasKey_get h] at hf'; simp at hf'
    · exact Env.get_fresh h hf'.2
theorem Hp.get_fresh {e : Hp} {i : Nat} {v : Option Nat × Obj} (h : e.get i = some v) : ∀ {l : Hp}, e.fresh l = true → Hp.get (l ++ e) i = some v
  | [], _ => h
  | (j, u) :: l, hf => by
    have hf' : ((bif e.hasKey j then false else true) && Hp.fresh e l) = true := hf
    simp only [Bool.and_eq_true] at hf'
    show Hp.get ((j, u) :: (l ++ e)) i = some v
    rw [Hp.get_cons]
    split
    · rename_i hj; subst hj; rw [Hp.hasKey_get h] at hf'; simp at hf'
    · exact Hp.get_fresh h hf'.2
/-- back to what was known before n slots and m tags more -/
theorem Hold.back {a : Act} {w : World} {e0 : Env} {H0 : Hp} (n m : Nat) (hh : Hold B ⟨e, D, H, G⟩ a w) (he : e.drop n = e0) (hf : e0.fresh (e.take n) = true) (hH : H.drop m = H0) (hg : H0.fresh (H.take m) = true) {v : Value} (hv : e.get d = some v) :
    Hold B ⟨(d, v) :: e0, D, H0, G⟩ a w := by
  refine (hh.re hv rfl).weaken (fun i u hu => ?_) (fun t x hx => ?_)
  · rw [Env.get_cons] at hu ⊢
    split <;> rename_i h
    · rw [if_pos h] at hu; exact hu
    · rw [if_neg h] at hu
      have := Env.get_fresh hu hf
      rw [← he, List.take_append_drop] at this
      exact this
  · have := Hp.get_fresh hx hg
    rw [← hH, List.take_append_drop] at this
    exact this
theorem Wl.back {e0 : Env} {H0 : Hp} (n m : Nat) (he : e.drop n = e0) (hf : e0.fresh (e.take n) = true) (hH : H.drop m = H0) (hg : H0.fresh (H.take m) = true) {v : Value} (hv : e.get d = some v) :
    Wl P ops [] B ⟨e, D, H, G⟩ (Hold B ⟨(d, v) :: e0, D, H0, G⟩) := fun a w hh => hh.back n m he hf hH hg hv
theorem Hold.swap {a : Act} {w : World} {t : Nat} {u u' v : Value} (hh : Hold B ⟨(d, v) :: (t, u') :: e, D, H, G⟩ a w) (he : e.get t = some u) (hu : u = u') : Hold B ⟨(d, v) :: e, D, H, G⟩ a w := by
  subst hu
  refine hh.weaken (fun i x hx => ?_) (fun _ _ h => h)
  rw [Env.get_cons] at hx ⊢
  split <;> rename_i h
  · rw [if_pos h] at hx; exact hx
  · rw [if_neg h] at hx
    rw [Env.get_cons]
    split
    · rename_i h2; subst h2; rw [← hx, he]
    · exact hx
theorem Wl.cut (k : Nat) {K1 : Act → World → Prop} {S S1 : St} (h1 : Wl P ops (l.take k) B S K1) (h2 : ∀ a w, K1 a w → Hold B S1 a w) (h3 : Wl P ops (l.drop k) B S1 K) : Wl P ops l B S K := by
  intro a w hh
  have := lstWp_append (P := P) (ops := ops) (K := K) (l.take k) (l.drop k) a w
  rw [List.take_append_drop] at this
  refine this ?_
  have h0 := h1 a w hh
  exact lstWp_mono (fun a w hk => h3 a w (h2 a w hk)) _ _ _ h0
/-- 'a && b' -/
theorem Wl.joinAnd {p q : Prop} [ip : Decidable p] {iq : Decidable q} (k t d : Nat) (he : e.get t = some (.bool (decide p)))
    (h1 : p → Wl P ops (l.take k) B ⟨(t, .bool true) :: e, D, H, G⟩ (Hold B ⟨(d, .bool (decide q)) :: (t, .bool true) :: e, D, H, G⟩))
    (h2 : ¬ p → Wl P ops (l.take k) B ⟨(t, .bool false) :: e, D, H, G⟩ (Hold B ⟨(d, .bool false) :: (t, .bool false) :: e, D, H, G⟩))
    (h3 : Wl P ops (l.drop k) B ⟨(d, .bool (decide (p ∧ q))) :: e, D, H, G⟩ K) : Wl P ops l B ⟨e, D, H, G⟩ K := by
  by_cases hp : p
  · refine Wl.yes t he hp (Wl.cut k (h1 hp) (fun a w hh => ?_) h3)
    have := hh.swap he (by simp [hp])
    simpa [hp] using this
  · refine Wl.no t he hp (Wl.cut k (h2 hp) (fun a w hh => ?_) h3)
    have := hh.swap he (by simp [hp])
    simpa [hp] using this
/-- 'a || b' -/
theorem Wl.joinOr {p q : Prop} [ip : Decidable p] {iq : Decidable q} (k t d : Nat) (he : e.get t = some (.bool (decide p)))
    (h1 : ¬ p → Wl P ops (l.take k) B ⟨(t, .bool false) :: e, D, H, G⟩ (Hold B ⟨(d, .bool (decide q)) :: (t, .bool false) :: e, D, H, G⟩))
    (h2 : p → Wl P ops (l.take k) B ⟨(t, .bool true) :: e, D, H, G⟩ (Hold B ⟨(d, .bool true) :: (t, .bool true) :: e, D, H, G⟩))
    (h3 : Wl P ops (l.drop k) B ⟨(d, .bool (decide (p ∨ q))) :: e, D, H, G⟩ K) : Wl P ops l B ⟨e, D, H, G⟩ K := by
  by_cases hp : p
  · refine Wl.yes t he hp (Wl.cut k (h2 hp) (fun a w hh => ?_) h3)
    have := hh.swap he (by simp [hp])
    simpa [hp] using this
  · refine Wl.no t he hp (Wl.cut k (h1 hp) (fun a w hh => ?_) h3)
    have := hh.swap he (by simp [hp])
    simpa [hp] using this
end
end Go.Sl
