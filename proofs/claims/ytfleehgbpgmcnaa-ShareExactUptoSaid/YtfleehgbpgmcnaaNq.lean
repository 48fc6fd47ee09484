/- ShareExact, the plain law: what the pass makes of a right program answers the same over every grid. -/
import Derived.Test.YtfleehgbpgmcnaaNp
import Derived.Test.YtfleehgbpgmcnaaAh
set_option linter.unusedVariables false
namespace Go.Proofs.Ytfleehgbpgmcnaa
open Go Go.Sl
/-- one operation on rows -/
def doV (op c : Int) (a b : List Int) : Option (List Int) := doI ⟨op, 0, 0, 1, c⟩ [a, b]
theorem doI_doV (i : Sl.Instr) (rs : List (List Int)) : doI i rs = doV i.op i.c (rs[i.a.toNat]?.getD []) (rs[i.b.toNat]?.getD []) := rfl
theorem zip_comm (a b : List Int) : List.zipWith (fun x y => x + 1 * y) a b = List.zipWith (fun x y => x + 1 * y) b a := by
  rw [List.zipWith_comm]
  congr 1
  funext x y
  omega
theorem doV_comm (c : Int) (a b : List Int) : doV 3 c a b = doV 3 c b a := by
  show some (List.zipWith (fun x y => x + 1 * y) a b) = some (List.zipWith (fun x y => x + 1 * y) b a)
  rw [zip_comm]
theorem doV_one {op : Int} (h : ¬ (op = 3 ∨ op = 4)) (c : Int) (a b b' : List Int) : doV op c a b = doV op c a b' := by
  have h3 : ¬ op = 3 := fun e => h (.inl e)
  have h4 : ¬ op = 4 := fun e => h (.inr e)
  unfold doV doI
  simp only [h3, h4, if_false]
  rfl
/-- a key, over the values' rows -/
def evalK (E : Int → List Int) (k : K4) : Option (List Int) := doV k.op k.c (E k.a) (E k.b)
theorem evalK_key {E : Int → List Int} {held : List Int} {rs : List (List Int)} {regs : Int} {i : Sl.Instr} (hm : mayOk i regs = true) (hv : ∀ r : Int, 0 ≤ r ∧ r < regs → rs[r.toNat]?.getD [] = E (held[r.toNat]?.getD default)) :
    evalK E (keyOf held i) = doI i rs := by
  obtain ⟨m1, m2, m3, m4, m5, m6, m7, m8⟩ := may_facts hm
  rw [doI_doV, hv _ m3]
  unfold keyOf
  by_cases h34 : i.op = 3 ∨ i.op = 4
  · rw [hv _ (m4 h34)]
    simp only [if_pos h34]
    split
    · rename_i hsw
      unfold evalK
      simp only
      rw [hsw.1]
      exact doV_comm _ _ _
    · rfl
  · simp only [if_neg h34]
    exact doV_one h34 _ _ _ _
/-- code run over registers -/
def runL : List Sl.Instr → List (List Int) → Option (List (List Int))
  | [], rs => some rs
  | i :: l, rs => (doI i rs).bind fun x => runL l (rs.set i.to.toNat x)
theorem runL_append (l m : List Sl.Instr) (rs : List (List Int)) : runL (l ++ m) rs = (runL l rs).bind (runL m) := by
  induction l generalizing rs with
  | nil => rfl
  | cons i l ih =>
    show (doI i rs).bind (fun x => runL (l ++ m) (rs.set i.to.toNat x)) = _
    show _ = ((doI i rs).bind fun x => runL l (rs.set i.to.toNat x)).bind (runL m)
    cases doI i rs with
    | none => rfl
    | some x => exact ih _
theorem runL_snoc {l : List Sl.Instr} {i : Sl.Instr} {rs : List (List Int)} : runL (l ++ [i]) rs = (runL l rs).bind fun r => (doI i r).map fun x => r.set i.to.toNat x := by
  rw [runL_append]
  congr 1
  funext r
  show (doI i r).bind (fun x => runL [] (r.set i.to.toNat x)) = _
  cases doI i r <;> rfl
theorem runTo_runL (p : PV) (gs : List (List Int)) : ∀ k, k ≤ p.code.length → runTo p gs k = runL (p.code.take k) (regs0 p gs)
  | 0, _ => by rw [List.take_zero]; rfl
  | k + 1, h => by
    have hk : k < p.code.length := by omega
    have e : p.code.take (k + 1) = p.code.take k ++ [p.code[((k : Nat) : Int).toNat]?.getD default] := by
      rw [List.take_succ_eq_append_getElem hk, Int.toNat_natCast, List.getElem?_eq_getElem hk]; rfl
    rw [e, runL_snoc, ← runTo_runL p gs k (by omega)]
    rfl
end Go.Proofs.Ytfleehgbpgmcnaa
