import Derived.Test.YtfleehgbpgmcnaaNm
set_option linter.unusedVariables false
namespace Go.Proofs.Ytfleehgbpgmcnaa
open Go Go.Sl
theorem below_map {m k : Nat} {xs : List Int} {f : Int → Int} (h : ∀ x : Int, (x.natAbs : Int) < pw m → ((f x).natAbs : Int) < pw k) (hx : Below m xs) : Below k (xs.map f) := fun z hz => by
  obtain ⟨x, h1, rfl⟩ := List.mem_map.1 hz
  exact h x (hx x h1)
theorem below_zip {m k : Nat} {xs ys : List Int} {f : Int → Int → Int} (h : ∀ x y : Int, (x.natAbs : Int) < pw m → (y.natAbs : Int) < pw m → ((f x y).natAbs : Int) < pw k) (hx : Below m xs) (hy : Below m ys) : Below k (List.zipWith f xs ys) := fun z hz => by
  rw [List.mem_iff_getElem] at hz
  obtain ⟨n, hn, rfl⟩ := hz
  rw [List.getElem_zipWith]
  exact h _ _ (hx _ (List.getElem_mem _)) (hy _ (List.getElem_mem _))
theorem pw_five (m : Nat) : 65536 * pw m ≤ pw (5 + m) := by
  rw [← pw_succ]; exact pw_le (by omega)
theorem doI_even {i : Sl.Instr} {rs : List (List Int)} {m N : Nat} {x : List Int} (he : Even m N rs) (ha : 0 ≤ i.a ∧ i.a < rs.length) (hb : i.op = 3 ∨ i.op = 4 → 0 ≤ i.b ∧ i.b < rs.length)
    (hz : i.op = 5 ∨ i.op = 7 → ((cst i).natAbs : Int) < pw 5) (h : doI i rs = some x) : x.length = N ∧ Below (5 + m) x := by
  obtain ⟨haL, haB⟩ := he.at ha
  have h5 := pw_five m
  have hp := pw_pos m
  unfold doI at h
  simp only at h
  split at h
  · cases h
    exact ⟨by rw [List.length_map]; exact haL, below_map (fun x hx => by omega) haB⟩
  · split at h
    · rename_i h3
      obtain ⟨hbL, hbB⟩ := he.at (hb (.inl h3))
      cases h
      exact ⟨by rw [List.length_zipWith, haL, hbL, Nat.min_self], below_zip (fun x y hx hy => by omega) haB hbB⟩
    · split at h
      · rename_i h4
        obtain ⟨hbL, hbB⟩ := he.at (hb (.inr h4))
        cases h
        exact ⟨by rw [List.length_zipWith, haL, hbL, Nat.min_self], below_zip (fun x y hx hy => by omega) haB hbB⟩
      · split at h
        · rename_i h57
          cases h
          exact ⟨by rw [List.length_map]; exact haL, below_map (fun x hx => mul_lt_pw (hz h57) hx) haB⟩
        · split at h
          · split at h
            · cases h
              refine ⟨by rw [List.length_map]; exact haL, below_map (fun x hx => ?_) haB⟩
              have h1 : (x / cst i).natAbs ≤ x.natAbs := Int.natAbs_ediv_le_natAbs _ _
              omega
            · cases h
          · cases h
            exact ⟨haL, haB.mono (by omega)⟩
/-- the registers at first -/
def regs0 (p : PV) (gs : List (List Int)) : List (List Int) := (List.range p.regs.toNat).map fun k => if k < gs.length then gs[k]?.getD [] else List.replicate (gs[0]?.getD []).length 0
/-- the registers after k instructions -/
def runTo (p : PV) (gs : List (List Int)) : Nat → Option (List (List Int))
  | 0 => some (regs0 p gs)
  | k + 1 => (runTo p gs k).bind fun rs => (doI (p.code[((k : Nat) : Int).toNat]?.getD default) rs).map fun x => rs.set (p.code[((k : Nat) : Int).toNat]?.getD default).to.toNat x
/-- the answers' rows -/
def outsOf (p : PV) (rs : List (List Int)) : List (List Int) := p.outs.map fun r => rs[r.toNat]?.getD []
def followP (p : PV) (gs : List (List Int)) : Option (List (List Int)) := (runTo p gs p.code.length).map (outsOf p)
theorem runTo_succ {p : PV} {gs : List (List Int)} {k : Nat} {rs x : List (List Int)} {y : List Int} (h : runTo p gs k = some rs) (hd : doI (p.code[((k : Nat) : Int).toNat]?.getD default) rs = some y) :
    runTo p gs (k + 1) = some (rs.set (p.code[((k : Nat) : Int).toNat]?.getD default).to.toNat y) := by
  unfold runTo; rw [h]; simp only [Option.bind_some, hd, Option.map_some]
theorem runTo_none {p : PV} {gs : List (List Int)} {k : Nat} (h : runTo p gs k = none) (j : Nat) : runTo p gs (k + j) = none := by
  induction j with
  | zero => exact h
  | succ j ih => rw [← Nat.add_assoc]; unfold runTo; rw [ih]; rfl
theorem runTo_stop {p : PV} {gs : List (List Int)} {k : Nat} {rs : List (List Int)} (h : runTo p gs k = some rs) (hd : doI (p.code[((k : Nat) : Int).toNat]?.getD default) rs = none) (hk : k < p.code.length) : followP p gs = none := by
  have h1 : runTo p gs (k + 1) = none := by unfold runTo; rw [h]; simp only [Option.bind_some, hd, Option.map_none]
  have h2 := runTo_none h1 (p.code.length - (k + 1))
  rw [show k + 1 + (p.code.length - (k + 1)) = p.code.length by omega] at h2
  unfold followP; rw [h2]; rfl
theorem even_regs0 {p : PV} {gs : List (List Int)} {m N : Nat} (hg : Even m N gs) (h0 : 0 < gs.length) : Even m N (regs0 p gs) := fun zs hz => by
  unfold regs0 at hz
  obtain ⟨k, hk, rfl⟩ := List.mem_map.1 hz
  have hN := (hg.at (k := 0) (by omega)).1
  split
  · exact hg.at (k := (k : Int)) (by omega)
  · refine ⟨by rw [List.length_replicate]; exact hN, fun z hz => ?_⟩
    rw [List.eq_of_mem_replicate hz]; exact pw_pos m
theorem even_set {m N : Nat} {rs : List (List Int)} {x : List Int} (h : Even m N rs) (hx : x.length = N ∧ Below m x) (k : Nat) : Even m N (rs.set k x) := fun zs hz => by
  rcases List.mem_or_eq_of_mem_set hz with h1 | h1
  · exact h zs h1
  · rw [h1]; exact hx
theorem Even.mono {m k N : Nat} {rs : List (List Int)} (h : Even m N rs) (hk : m ≤ k) : Even k N rs := fun zs hz => ⟨(h zs hz).1, (h zs hz).2.mono hk⟩
end Go.Proofs.Ytfleehgbpgmcnaa
