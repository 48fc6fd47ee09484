/- Arrays' elements behind a pointer, functions that are no nil; a loop taken round by round. -/
import Derived.Test.YtfleehgbpgmcnaaSlM
set_option linter.unusedVariables false
namespace Go.Sl
open Go
section
variable {P : Program} {e : Env} {H : Hp} {G : Imm} {ty : TypeId}
def isFuncT (P : Program) (t : TypeId) : Bool := match P.underlying t with | some (.func _ _ _) => true | _ => false
theorem run_equalIn_funcNil {t : TypeId} {f : Fn} {fs cs : Array Value} (ht : isFuncT P t = true) (d : Nat) (w : World) : (Op.equalIn (d + 1) t (.func f fs cs) .nilFunc).run P w = .ok false w := by
  unfold isFuncT at ht
  split at ht
  · rename_i a1 a2 a3 hu
    simp [Op.equalIn, run_underlying hu]
  · cases ht
theorem Qy.eqlFuncNil {t t' : TypeId} {x y : Operand} {f : Fn} {fs cs : Array Value} (ht : isFuncT P t = true) (hx : e.ev x = some (.func f fs cs)) (hy : e.ev y = some .nilFunc) : Qy P (.binOp .eql t x y t') ty e H G (.bool false) := fun a w _ _ _ _ hh => by
  have := run_equalIn_funcNil (P := P) (f := f) (fs := fs) (cs := cs) ht 9999 w
  simp [execOp, hh.eval hx, hh.eval hy, binOp, eqGuard, Op.equal, Op.maxDepth, this]
theorem Qy.neqFuncNil {t t' : TypeId} {x y : Operand} {f : Fn} {fs cs : Array Value} (ht : isFuncT P t = true) (hx : e.ev x = some (.func f fs cs)) (hy : e.ev y = some .nilFunc) : Qy P (.binOp .neq t x y t') ty e H G (.bool true) := fun a w _ _ _ _ hh => by
  have := run_equalIn_funcNil (P := P) (f := f) (fs := fs) (cs := cs) ht 9999 w
  simp [execOp, hh.eval hx, hh.eval hy, binOp, eqGuard, Op.equal, Op.maxDepth, this]
/-- an array's element behind a pointer: a known place -/
theorem Qy.indexAddrA {T : TypeId} {x i : Operand} {b o n sz : Nat} {zs : List Value} {k : IntKind} {m : Int} (j : Nat) (hT : ArrayOf P T n sz zs) (hx : e.ev x = some (.pointer (some ⟨b, o, none⟩))) (hi : e.ev i = some (.int k m))
    (hb : decide (0 ≤ m ∧ m < n) = true) (hj : Nat.beq (m.toNat * sz) j = true) : Qy P (.indexAddr T x i) ty e H G (.pointer (some ⟨b, o + j, none⟩)) := fun a w _ _ _ _ hh => by
  obtain ⟨z, E, hu, _, _, hs⟩ := hT
  have hb' := of_decide_eq_true hb
  have hj' := Nat.eq_of_beq_eq_true hj
  simp [execOp, Instr.indexAt, Instr.sureAddr, hh.eval hx, hh.eval hi, asIntOf, run_underlying hu, hb', run_sizeOf w hs, add_lit, hj']
end

/-! a loop, round by round -/
def AtLoop (r : Option Nat) (P : Program) (c : Code) (Q : Exit → Act → World → Prop) (a : Act) (w : World) : Prop :=
  ∀ (b : Frame) (k : List Item) (cs : List Frame), b.roundOf = (FF r).round → (FF r).fn b.fn → (FF r).room (cs.length + 1 + 0) →
    ∃ e a' w', Q e a' w' ∧ ArrivesIn (Machine.fenced P (FF r)) P (lone (b.atR a (.code c :: .inLoop c :: k)) cs w) b k cs e a' w'
def La (r : Option Nat) (P : Program) (c : Code) (B : Bs) (S : St) (Q : Exit → Act → World → Prop) : Prop := ∀ a w, Hold B S a w → AtLoop r P c Q a w
section
variable {r : Option Nat} {P : Program} {B : Bs} {S : St} {Q : Exit → Act → World → Prop} {c : Code}
theorem Wc.loopU (h : La r P c B S Q) : Wc r P (.loop c) B S Q := by
  intro a w hh b k cs hro hb' hr
  obtain ⟨e, a', w', hq, harr⟩ := h a w hh b k cs hro hb' hr
  exact ⟨e, a', w', hq, .of_steps (.one (fenced_calm hb' hr rfl) stepR_loop) harr⟩
theorem La.round (h : Wc r P c B S (Exit.then (AtLoop r P c Q) Q)) : La r P c B S Q := by
  intro a w hh b k cs hro hb' hr
  obtain ⟨x, a₁, w₁, hq, harr⟩ := h a w hh b (.inLoop c :: k) cs hro hb' hr
  cases x with
  | normal =>
    obtain ⟨e₂, a₂, w₂, hq₂, harr₂⟩ := hq b k cs hro hb' hr
    exact ⟨e₂, a₂, w₂, hq₂, .of_steps (StepsIn.trans harr (.one (fenced_calm hb' hr rfl) stepR_inLoop)) harr₂⟩
  | exit id => exact ⟨_, a₁, w₁, hq, .pass (x := .inLoop c) rfl (fun _ _ => .inl (by simp)) harr⟩
  | goto l => exact ⟨_, a₁, w₁, hq, .pass (x := .inLoop c) rfl (fun _ _ => .inl (by simp)) harr⟩
  | ret => exact ⟨_, a₁, w₁, hq, .pass (x := .inLoop c) rfl (fun _ _ => .inl (by simp)) harr⟩
  | panic ch => exact ⟨_, a₁, w₁, hq, .pass (x := .inLoop c) rfl (fun _ _ => .inl (by simp)) harr⟩
  | outgrown => exact ⟨_, a₁, w₁, hq, .pass (x := .inLoop c) rfl (fun _ _ => .inl (by simp)) harr⟩
theorem Ar.turn (h : La r P c B S Q) : Ar (Exit.then (AtLoop r P c Q) Q) .normal B S := h
end
end Go.Sl
