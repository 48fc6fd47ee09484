/- Arrays' elements behind a pointer, functions that are no nil; a loop taken round by round. -/
import Derived.Test.YtfleehgbpgmcnaaSlM
set_option linter.unusedVariables false
namespace Go.Sl
open Go
section
variable {P : Program} {e : Env} {H : Hp} {G : Imm} {ty : TypeId}
def isFuncT (P : Program) (t : TypeId) : Bool := match P.underlying t with | some (.func _ _ _) => true | _ => false
theorem run_equalIn_funcNil {t : TypeId} {f : Fn} {fs cs : Array Value} (ht : isFuncT P t = true) (d : Nat) (w : World) : (Op.equalIn (d + 1) t (.func f fs cs) .nilFunc).run P w = .ok false w := by
  unfold isFuncT at ht
  split at ht
  · rename_i a1 a2 a3 hu
    simp [Op.equalIn, run_underlying hu]
  · cases ht
theorem Qy.eqlFuncNil {t t' : TypeId} {x y : Operand} {f : Fn} {fs cs : Array Value} (ht : isFuncT P t = true) (hx : e.ev x = some (.func f fs cs)) (hy : e.ev y = some .nilFunc) : Qy P (.binOp .eql t x y t') ty e H G (.bool false) := fun a w _ _ _ _ hh => by
  have := run_equalIn_funcNil (P := P) (f := f) (fs := fs) (cs := cs) ht 9999 w
  simp [execOp, hh.eval hx, hh.eval hy, binOp, eqGuard, Op.equal, Op.maxDepth, this]
theorem Qy.neqFuncNil {t t' : TypeId} {x y : Operand} {f : Fn} {fs cs : Array Value} (ht : isFuncT P t = true) (hx : e.ev x = some (.func f fs cs)) (hy : e.ev y = some .nilFunc) : Qy P (.binOp .neq t x y t') ty e H G (.bool true) := fun a w _ _ _ _ hh => by
  have := run_equalIn_funcNil (P := P) (f := f) (fs := fs) (cs := cs) ht 9999 w
  simp [execOp, hh.eval hx, hh.eval hy, binOp, eqGuard, Op.equal, Op.maxDepth, this]
theorem run_equalIn_sliceNil {t E : TypeId} {a : Option Addr} {n c : Nat} (ht : P.underlying t = some (.slice E)) (d : Nat) (w : World) : (Op.equalIn (d + 1) t (.slice a n c) (.slice none 0 0)).run P w = .ok a.isNone w := by
  cases a <;> simp [Op.equalIn, run_underlying ht]
theorem Qy.eqlSliceNil {t t' : TypeId} {x y : Operand} {a : Option Addr} {n c E sz : Nat} (ht : isSlice P t E sz) (hx : e.ev x = some (.slice a n c)) (hy : e.ev y = some (.slice none 0 0)) : Qy P (.binOp .eql t x y t') ty e H G (.bool (decide (a = none))) := fun w0 w _ _ _ _ hh => by
  have := run_equalIn_sliceNil (P := P) (a := a) (n := n) (c := c) ht.1 9999 w
  simp [execOp, hh.eval hx, hh.eval hy, binOp, eqGuard, Op.equal, Op.maxDepth, this]
  cases a <;> rfl
theorem Qy.neqSliceNil {t t' : TypeId} {x y : Operand} {a : Option Addr} {n c E sz : Nat} (ht : isSlice P t E sz) (hx : e.ev x = some (.slice a n c)) (hy : e.ev y = some (.slice none 0 0)) : Qy P (.binOp .neq t x y t') ty e H G (.bool (decide (a ≠ none))) := fun w0 w _ _ _ _ hh => by
  have := run_equalIn_sliceNil (P := P) (a := a) (n := n) (c := c) ht.1 9999 w
  simp [execOp, hh.eval hx, hh.eval hy, binOp, eqGuard, Op.equal, Op.maxDepth, this]
  cases a <;> rfl
/-- an array's element behind a pointer: a known place -/
theorem Qy.indexAddrA {T : TypeId} {x i : Operand} {b o n sz : Nat} {zs : List Value} {k : IntKind} {m : Int} (j : Nat) (hT : ArrayOf P T n sz zs) (hx : e.ev x = some (.pointer (some ⟨b, o, none⟩))) (hi : e.ev i = some (.int k m))
    (hb : decide (0 ≤ m ∧ m < n) = true) (hj : Nat.beq (m.toNat * sz) j = true) : Qy P (.indexAddr T x i) ty e H G (.pointer (some ⟨b, o + j, none⟩)) := fun a w _ _ _ _ hh => by
  obtain ⟨z, E, hu, _, _, hs⟩ := hT
  have hb' := of_decide_eq_true hb
  have hj' := Nat.eq_of_beq_eq_true hj
  simp [execOp, Instr.indexAt, Instr.sureAddr, hh.eval hx, hh.eval hi, asIntOf, run_underlying hu, hb', run_sizeOf w hs, add_lit, hj']
end

/-! what stays may be forgotten; more may stay -/
section
variable {P : Program} {B : Bs} {e : Env} {D : List Deferred} {H : Hp} {G : Imm}
theorem Hold.base {a : Act} {w : World} (hh : Hold B ⟨e, D, H, G⟩ a w) : Hold B ⟨e, D, H, B.G0⟩ a w := by
  refine ⟨hh.size, hh.defers, hh.env, ⟨hh.mem.own, hh.mem.one, fun b o h => hh.mem.imm b o (hh.le b o h), fun t b o h => ?_⟩, hh.upd, hh.mine, Imm.le_refl _, fun b h h0 => (h h0).elim⟩
  have h1 : G b = none := hh.mem.off t b o h
  show B.G0 b = none
  cases hg : B.G0 b with
  | none => rfl
  | some x => have h2 : G b = some x := hh.le b x hg; rw [h1] at h2; cases h2
theorem Ar.base {Q : Exit → Act → World → Prop} {x : Exit} (h : Ar Q x B ⟨e, D, H, B.G0⟩) : Ar Q x B ⟨e, D, H, G⟩ := fun a w hh => h a w hh.base
theorem Wc.base {r : Option Nat} {c : Code} {Q : Exit → Act → World → Prop} (h : Wc r P c B ⟨e, D, H, B.G0⟩ Q) : Wc r P c B ⟨e, D, H, G⟩ Q := fun a w hh => h a w hh.base
theorem HoldH.less {Hi : Hp} {G G' : Imm} {w : World} (hw : HoldH Hi G' w) (hl : G.le G') : HoldH Hi G w := by
  refine ⟨hw.own, hw.one, fun b o h => hw.imm b o (hl b o h), fun t b o h => ?_⟩
  have h1 := hw.off t b o h
  cases hg : G b with
  | none => rfl
  | some x => have := hl b x hg; rw [h1] at this; cases this
theorem DoesPost.up {G G' : Imm} {Hi : Hp} {w w' : World} {q : Value → Hp → Prop} (hw : HoldH Hi G' w) {x : Ending} (h : DoesPost G Hi w (fun v G1 Ho => G1 = G ∧ q v Ho) x w') :
    DoesPost G' Hi w (fun v G1 Ho => G1 = G' ∧ q v Ho) x w' := by
  obtain ⟨v, G1, Ho, h1, h2, h3, h4, h5, h6, h7, h8⟩ := h
  have hnot : ∀ b o, G' b = some o → ¬ Hi.has b := fun b o hb ⟨t, o', ht⟩ => by have := hw.off t b o' ht; rw [hb] at this; cases this
  refine ⟨v, G', Ho, h1, ⟨h2.own, h2.one, fun b o hb => ?_, fun t b o ht => ?_⟩, Imm.le_refl _, h4, fun b h0 h0' => (h0 h0').elim, h6, rfl, h8⟩
  · rw [h4.same b (hw.ltG hb) (hnot b o hb)]; exact hw.imm b o hb
  · cases hg : G' b with
    | none => rfl
    | some y =>
      rcases h6 t b o ht with h | h
      · have : b < w.heap.size := hw.ltG hg; omega
      · exact (hnot b y hg h).elim
theorem YieldDoes.up {l : Nat} {vs : List Value} {G G' : Imm} {Hi : Hp} {q : Value → Hp → Prop} (hl : G.le G') (h : YieldDoes P l vs G Hi (fun v G1 Ho => G1 = G ∧ q v Ho)) : YieldDoes P l vs G' Hi (fun v G1 Ho => G1 = G' ∧ q v Ho) := by
  intro w hw
  obtain ⟨f, tmps, assign, body, h1, h2⟩ := h w (hw.less hl)
  exact ⟨f, tmps, assign, body, h1, h2.mono fun x w' hp => hp.up hw⟩
theorem Does.up {f : FuncId} {args : List Value} {G G' : Imm} {Hi : Hp} {q : Value → Hp → Prop} (hl : G.le G') (h : Does P f args G Hi (fun v G1 Ho => G1 = G ∧ q v Ho)) : Does P f args G' Hi (fun v G1 Ho => G1 = G' ∧ q v Ho) := by
  intro w hw
  exact (h w (hw.less hl)).mono fun x w' hp => hp.up hw
end

/-! a loop, round by round -/
def AtLoop (r : Option Nat) (P : Program) (c : Code) (Q : Exit → Act → World → Prop) (a : Act) (w : World) : Prop :=
  ∀ (b : Frame) (k : List Item) (cs : List Frame), b.roundOf = (FF r).round → (FF r).fn b.fn → (FF r).room (cs.length + 1 + 0) →
    ∃ e a' w', Q e a' w' ∧ ArrivesIn (Machine.fenced P (FF r)) P (lone (b.atR a (.code c :: .inLoop c :: k)) cs w) b k cs e a' w'
def La (r : Option Nat) (P : Program) (c : Code) (B : Bs) (S : St) (Q : Exit → Act → World → Prop) : Prop := ∀ a w, Hold B S a w → AtLoop r P c Q a w
section
variable {r : Option Nat} {P : Program} {B : Bs} {S : St} {Q : Exit → Act → World → Prop} {c : Code}
theorem Wc.loopU (h : La r P c B S Q) : Wc r P (.loop c) B S Q := by
  intro a w hh b k cs hro hb' hr
  obtain ⟨e, a', w', hq, harr⟩ := h a w hh b k cs hro hb' hr
  exact ⟨e, a', w', hq, .of_steps (.one (fenced_calm hb' hr rfl) stepR_loop) harr⟩
theorem La.round (h : Wc r P c B S (Exit.then (AtLoop r P c Q) Q)) : La r P c B S Q := by
  intro a w hh b k cs hro hb' hr
  obtain ⟨x, a₁, w₁, hq, harr⟩ := h a w hh b (.inLoop c :: k) cs hro hb' hr
  cases x with
  | normal =>
    obtain ⟨e₂, a₂, w₂, hq₂, harr₂⟩ := hq b k cs hro hb' hr
    exact ⟨e₂, a₂, w₂, hq₂, .of_steps (StepsIn.trans harr (.one (fenced_calm hb' hr rfl) stepR_inLoop)) harr₂⟩
  | exit id => exact ⟨_, a₁, w₁, hq, .pass (x := .inLoop c) rfl (fun _ _ => .inl (by simp)) harr⟩
  | goto l => exact ⟨_, a₁, w₁, hq, .pass (x := .inLoop c) rfl (fun _ _ => .inl (by simp)) harr⟩
  | ret => exact ⟨_, a₁, w₁, hq, .pass (x := .inLoop c) rfl (fun _ _ => .inl (by simp)) harr⟩
  | panic ch => exact ⟨_, a₁, w₁, hq, .pass (x := .inLoop c) rfl (fun _ _ => .inl (by simp)) harr⟩
  | outgrown => exact ⟨_, a₁, w₁, hq, .pass (x := .inLoop c) rfl (fun _ _ => .inl (by simp)) harr⟩
theorem Ar.turn (h : La r P c B S Q) : Ar (Exit.then (AtLoop r P c Q) Q) .normal B S := h
end
end Go.Sl
