/- ShareExact, the plain law, last part: the whole pass. -/
import Derived.Test.YtfleehgbpgmcnaaNs
set_option linter.unusedVariables false
namespace Go.Proofs.Ytfleehgbpgmcnaa
open Go Go.Sl
theorem step_sound {t : Tab} {regs n : Int} {i : Sl.Instr} {out : List Sl.Instr} (hs : Sound t regs) (hm : mayOk i regs = true) : Sound (passStep (t, out) n i).1 regs := by
  obtain ⟨m1, m2, m3, m4, m5, m6, m7, m8⟩ := may_facts hm
  obtain ⟨s1, s2⟩ := reckon_sound hs n i m3
  unfold passStep
  simp only
  split
  · exact s1
  · refine ⟨set_len s1.len, fun x hx => ?_, s1.known⟩
    rcases List.mem_or_eq_of_mem_set hx with h | h
    · exact s1.held x h
    · rw [h]; exact s2
theorem step_dead {t : Tab} {n : Int} {i : Sl.Instr} {out : List Sl.Instr} {r0 : List (List Int)} (h : runL out r0 = none) : runL (passStep (t, out) n i).2 r0 = none := by
  unfold passStep
  simp only
  split
  · exact h
  · rw [runL_snoc, h]; rfl
theorem start_val {p : PV} {gs : List (List Int)} (h : 1 ≤ p.ins ∧ p.ins ≤ p.regs) (hg : (gs.length : Int) = p.ins) :
    Val ⟨start p, [], [], p.ins + 1⟩ (regs0 p gs) (fun v => if v < p.ins then gs[v.toNat]?.getD [] else List.replicate (gs[0]?.getD []).length 0) p.regs := by
  refine ⟨by rw [regs0_len]; omega, fun r hr => ?_, fun k v hk => (nomatch (show (none : Option Int) = some v from hk)), fun k v hk => (nomatch (show (none : Option Int) = some v from hk)), by show (0 : Int) ≤ p.ins + 1; omega⟩
  have e : (start p)[r.toNat]?.getD default = if p.ins < r then p.ins else r := by
    unfold start
    rw [List.getElem?_map, List.getElem?_range (by omega)]
    show (if p.ins < ((r.toNat : Nat) : Int) then p.ins else ((r.toNat : Nat) : Int)) = _
    rw [Int.toNat_of_nonneg hr.1]
  show _ = (fun v : Int => if v < p.ins then gs[v.toNat]?.getD [] else List.replicate (gs[0]?.getD []).length 0) ((start p)[r.toNat]?.getD default)
  rw [regs0_at (by omega), e]
  by_cases h1 : r < p.ins
  · rw [if_pos (by omega)]
    show _ = if (if p.ins < r then p.ins else r) < p.ins then _ else _
    rw [if_neg (show ¬ p.ins < r by omega), if_pos h1]
  · rw [if_neg (by omega)]
    show _ = if (if p.ins < r then p.ins else r) < p.ins then _ else _
    rw [if_neg (by split <;> omega)]
theorem pass_run {p : PV} {gs : List (List Int)} (hR : rightP p = true) (hg : (gs.length : Int) = p.ins) : ∀ k, k ≤ p.code.length →
    Sound (passTo p k).1 p.regs ∧ ((∃ rs E, runTo p gs k = some rs ∧ runL (passTo p k).2 (regs0 p gs) = some rs ∧ Val (passTo p k).1 rs E p.regs) ∨ (runTo p gs k = none ∧ runL (passTo p k).2 (regs0 p gs) = none))
  | 0, _ => by
    obtain ⟨f1, f2, f3, f4, f5, f6, f7, f8⟩ := right_facts hR
    exact ⟨start_sound ⟨f1, f2⟩, .inl ⟨_, _, rfl, rfl, start_val ⟨f1, f2⟩ hg⟩⟩
  | k + 1, h => by
    obtain ⟨f1, f2, f3, f4, f5, f6, f7, f8⟩ := right_facts hR
    obtain ⟨hs, ih⟩ := pass_run hR hg k (by omega)
    have hm : mayOk (p.code[((k : Nat) : Int).toNat]?.getD default) p.regs = true := by
      refine f8 _ ?_
      rw [Int.toNat_natCast, List.getElem?_eq_getElem (by omega)]; exact List.getElem_mem _
    refine ⟨step_sound hs hm, ?_⟩
    rcases ih with ⟨rs, E, h1, h2, h3⟩ | ⟨h1, h2⟩
    · cases hd : doI (p.code[((k : Nat) : Int).toNat]?.getD default) rs with
      | some x =>
        obtain ⟨g1, E1, g2⟩ := step_val (n := k) hs h3 hm h2 hd
        exact .inl ⟨_, E1, runTo_succ (x := []) h1 hd, g1, g2⟩
      | none =>
        refine .inr ⟨?_, step_none (n := k) hs h3 hm h2 hd⟩
        unfold runTo; rw [h1]; simp only [Option.bind_some, hd, Option.map_none]
    · exact .inr ⟨runTo_none h1 1, step_dead h2⟩
theorem pass_follow {p : PV} {gs : List (List Int)} (hR : rightP p = true) (hg : (gs.length : Int) = p.ins) : followP (passP p) gs = followP p gs := by
  obtain ⟨f1, f2, f3, f4, f5, f6, f7, f8⟩ := right_facts hR
  obtain ⟨hs, ih⟩ := pass_run hR hg p.code.length (Nat.le_refl _)
  have e : runTo (passP p) gs (passP p).code.length = runL (passTo p p.code.length).2 (regs0 p gs) := by
    rw [runTo_runL _ _ _ (Nat.le_refl _), List.take_length]; rfl
  unfold followP
  rw [e]
  rcases ih with ⟨rs, E, h1, h2, h3⟩ | ⟨h1, h2⟩
  · rw [h1, h2]
    show some _ = some _
    congr 1
    show (passOuts p (passTo p p.code.length).1.held).map _ = p.outs.map _
    unfold passOuts
    rw [List.map_map]
    refine List.map_congr_left fun r hr => ?_
    have hl := hs.len
    obtain ⟨a1, a2, a3⟩ := holder_get (l := (passTo p p.code.length).1.held) (r := r) (by have := f7 r hr; omega)
    show rs[(holder _ _).toNat]?.getD [] = _
    rw [h3.reg _ ⟨a1, by omega⟩, a3, h3.reg _ (f7 r hr)]
  · rw [h1, h2]; rfl
end Go.Proofs.Ytfleehgbpgmcnaa
