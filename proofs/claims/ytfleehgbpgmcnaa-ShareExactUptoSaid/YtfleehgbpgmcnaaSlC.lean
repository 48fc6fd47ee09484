/- Calls, a function's frame. -/
import Derived.Test.YtfleehgbpgmcnaaSlB
set_option linter.unusedVariables false
namespace Go.Sl
open Go

theorem Env.get_append (A B : Env) (i : Nat) : Env.get (A ++ B) i = (Env.get A i).or (Env.get B i) := by
  induction A with
  | nil => rfl
  | cons x A ih =>
    obtain ⟨j, v⟩ := x
    show Env.get ((j, v) :: (A ++ B)) i = _
    rw [Env.get_cons, Env.get_cons, ih]
    split <;> rfl
theorem Hp.get_append (A B : Hp) (i : Nat) : Hp.get (A ++ B) i = (Hp.get A i).or (Hp.get B i) := by
  induction A with
  | nil => rfl
  | cons x A ih =>
    obtain ⟨j, v⟩ := x
    show Hp.get ((j, v) :: (A ++ B)) i = _
    rw [Hp.get_cons, Hp.get_cons, ih]
    split <;> rfl
/-- under other tags -/
def Hp.shift (k : Nat) : Hp → Hp
  | [] => []
  | (t, x) :: h => (k + t, x) :: Hp.shift k h
/-- forgotten -/
def Hp.kill (k : Nat) : Hp → Hp
  | [] => []
  | (t, _) :: h => (k + t, none, default) :: Hp.kill k h
theorem Hp.get_shift (k : Nat) (h : Hp) (i : Nat) : (h.shift k).get i = if k ≤ i then h.get (i - k) else none := by
  induction h with
  | nil => simp [Hp.shift, Hp.get]
  | cons x h ih =>
    obtain ⟨t, x⟩ := x
    show Hp.get ((k + t, x) :: Hp.shift k h) i = _
    rw [Hp.get_cons, ih, Hp.get_cons]
    by_cases hi : k ≤ i
    · rw [if_pos hi, if_pos hi]
      by_cases ht : k + t = i
      · rw [if_pos ht, if_pos (by omega)]
      · rw [if_neg ht, if_neg (by omega)]
    · rw [if_neg hi, if_neg hi, if_neg (by omega)]
theorem Hp.get_kill_some {k : Nat} {h : Hp} {i : Nat} {x : Option Nat × Obj} (hx : (h.kill k).get i = some x) : x.1 = none := by
  induction h with
  | nil => simp [Hp.kill, Hp.get] at hx
  | cons y h ih =>
    obtain ⟨t, y⟩ := y
    have hx' : Hp.get ((k + t, none, default) :: Hp.kill k h) i = some x := hx
    rw [Hp.get_cons] at hx'
    split at hx'
    · simp only [Option.some.injEq] at hx'; rw [← hx']
    · exact ih hx'
theorem Hp.get_kill_none {k : Nat} {h : Hp} {i : Nat} (hx : (h.kill k).get i = none) : ∀ t x, h.get t = some x → i ≠ k + t := by
  induction h with
  | nil => intro t x h; simp [Hp.get] at h
  | cons y h ih =>
    obtain ⟨t, y⟩ := y
    intro t' x hg he
    have hx' : Hp.get ((k + t, none, default) :: Hp.kill k h) i = none := hx
    rw [Hp.get_cons] at hx' hg
    split at hx'
    · cases hx'
    · rename_i hne
      split at hg
      · rename_i h2; omega
      · exact ih hx' t' x hg he

/-- WHAT A FUNCTION DOES: handed 'args', the blocks of Hi, and what stays as it is. -/
def DoesPost (G : Imm) (Hi : Hp) (w : World) (post : Value → Imm → Hp → Prop) : Ending → World → Prop := fun x w' =>
  ∃ v G' Ho, x = .returned v ∧ HoldH Ho G' w' ∧ G.le G' ∧ Upd Hi.has w w' ∧ (∀ b, G' b ≠ none → G b = none → w.heap.size ≤ b ∨ Hi.has b) ∧
    (∀ t b o, Ho.get t = some (some b, o) → w.heap.size ≤ b ∨ Hi.has b) ∧ post v G' Ho
def Does (P : Program) (f : FuncId) (args : List Value) (G : Imm) (Hi : Hp) (post : Value → Imm → Hp → Prop) : Prop :=
  ∀ w, HoldH Hi G w → Calls P f args.toArray w (DoesPost G Hi w post)
theorem Does.mono {P : Program} {f : FuncId} {args : List Value} {G : Imm} {Hi : Hp} {post post' : Value → Imm → Hp → Prop} (h : Does P f args G Hi post)
    (hp : ∀ v G' Ho, G.le G' → post v G' Ho → post' v G' Ho) : Does P f args G Hi post' :=
  fun w hw => (h w hw).mono fun _ _ ⟨v, G', Ho, h1, h2, h3, h4, h5, h6, h7⟩ => ⟨v, G', Ho, h1, h2, h3, h4, h5, h6, hp v G' Ho h3 h7⟩

section
variable {P : Program} {B : Bs} {e : Env} {D : List Deferred} {H : Hp} {G : Imm}
/-- behind a call -/
theorem Hold.called {a : Act} {w w' : World} (hh : Hold B ⟨e, D, H, G⟩ a w) {Hi : Hp} (k : Nat) (hHi : ∀ t x, Hi.get t = some x → H.get (k + t) = some x)
    {G' : Imm} {Ho : Hp} (h2 : HoldH Ho G' w') (h3 : G.le G') (h4 : Upd Hi.has w w') (h5 : ∀ b, G' b ≠ none → G b = none → w.heap.size ≤ b ∨ Hi.has b)
    (h6 : ∀ t b o, Ho.get t = some (some b, o) → w.heap.size ≤ b ∨ Hi.has b) : Hold B ⟨e, D, Ho.shift k ++ (Hi.kill k ++ H), G'⟩ a w' := by
  have hin : ∀ b, Hi.has b → ∃ t o, H.get (k + t) = some (some b, o) ∧ Hi.get t = some (some b, o) := fun b ⟨t, o, h⟩ => ⟨t, o, hHi t _ h, h⟩
  have hmine : ∀ b, Hi.has b → B.W.heap.size ≤ b ∨ B.X b := fun b hb => by obtain ⟨t, o, h, _⟩ := hin b hb; exact hh.mine _ b o h
  -- what is left of H: its blocks are none of Hi's
  have hleft : ∀ i b o, (Hi.kill k ++ H).get i = some (some b, o) → H.get i = some (some b, o) ∧ ¬ Hi.has b := by
    intro i b o hx
    rw [Hp.get_append] at hx
    cases hk : (Hi.kill k).get i with
    | some x =>
      rw [hk] at hx
      have h1 := Hp.get_kill_some hk
      have hx' : x = (some b, o) := by simpa using hx
      rw [hx'] at h1
      cases h1
    | none =>
      rw [hk] at hx
      simp only [Option.none_or] at hx
      refine ⟨hx, fun hb => ?_⟩
      obtain ⟨t, o', h1, h1'⟩ := hin b hb
      have := hh.mem.one _ _ b _ _ hx h1
      exact Hp.get_kill_none hk t _ h1' this
  have hsplit : ∀ i b o, (Ho.shift k ++ (Hi.kill k ++ H)).get i = some (some b, o) → (k ≤ i ∧ Ho.get (i - k) = some (some b, o)) ∨ (H.get i = some (some b, o) ∧ ¬ Hi.has b) := by
    intro i b o hx
    rw [Hp.get_append, Hp.get_shift] at hx
    by_cases hi : k ≤ i
    · rw [if_pos hi] at hx
      cases hg : Ho.get (i - k) with
      | some x => rw [hg] at hx; exact .inl ⟨hi, by simpa using hx⟩
      | none => rw [hg] at hx; simp only [Option.none_or] at hx; exact .inr (hleft i b o hx)
    · rw [if_neg hi] at hx; simp only [Option.none_or] at hx; exact .inr (hleft i b o hx)
  have hfar : ∀ t b o i o', Ho.get t = some (some b, o) → H.get i = some (some b, o') → ¬ Hi.has b → False := fun t b o i o' h1 h2 h3 => by
    rcases h6 t b o h1 with h | h
    · have : b < w.heap.size := hh.mem.lt h2; omega
    · exact h3 h
  refine ⟨hh.size, hh.defers, hh.env, ⟨?_, ?_, h2.imm, ?_⟩, ?_, ?_, Imm.le_trans hh.le h3, ?_⟩
  · intro i b o hx
    rcases hsplit i b o hx with ⟨_, h⟩ | ⟨h, hn⟩
    · exact h2.own _ b o h
    · rw [h4.same b (hh.mem.lt h) hn]; exact hh.mem.own _ b o h
  · intro i j b o o' hx hy
    rcases hsplit i b o hx with ⟨hi, h⟩ | ⟨h, hn⟩ <;> rcases hsplit j b o' hy with ⟨hj, h'⟩ | ⟨h', hn'⟩
    · have := h2.one _ _ b _ _ h h'; omega
    · exact (hfar _ b _ _ _ h h' hn').elim
    · exact (hfar _ b _ _ _ h' h hn).elim
    · exact hh.mem.one _ _ b _ _ h h'
  · intro i b o hx
    rcases hsplit i b o hx with ⟨_, h⟩ | ⟨h, hn⟩
    · exact h2.off _ b o h
    · have hg : G b = none := hh.mem.off i b o h
      cases hb : G' b with
      | none => exact hb
      | some x =>
        rcases h5 b (by rw [hb]; simp) hg with h' | h'
        · have : b < w.heap.size := hh.mem.lt h; omega
        · exact (hn h').elim
  · refine ⟨h4.os.trans hh.upd.os, h4.tape.trans hh.upd.tape, h4.output.trans hh.upd.output, Nat.le_trans hh.upd.size h4.size, fun b hb hx => ?_⟩
    by_cases hi : Hi.has b
    · rcases hmine b hi with h' | h'
      · omega
      · exact (hx h').elim
    · exact (h4.same b (Nat.lt_of_lt_of_le hb hh.upd.size) hi).trans (hh.upd.same b hb hx)
  · intro i b o hx
    rcases hsplit i b o hx with ⟨_, h⟩ | ⟨h, _⟩
    · rcases h6 _ b o h with h' | h'
      · exact .inl (Nat.le_trans hh.upd.size h')
      · exact hmine b h'
    · exact hh.mine i b o h
  · intro b hb h0
    by_cases hg : G b = none
    · rcases h5 b hb hg with h' | h'
      · exact .inl (Nat.le_trans hh.upd.size h')
      · exact hmine b h'
    · exact hh.new b hg h0

section call
variable {ops : Array Oper} {rest : List Oper} {K : Act → World → Prop} {ty : TypeId} {pos : String} {after : Array Edge} {d : Nat}
theorem run_callFunc {f : FuncId} {fn : Func} (w : World) (args : Array Value) (hf : P.funcs[f]? = some fn) (hb : fn.body.isSome = true) (hn : (fn.name == "runtime.NumGoroutine") = false) :
    (callFunc f args).run P w = .ok (.enter f args) w := by
  have h1 : fn.body ≠ none := by intro h; simp [h] at hb
  have h2 : fn.name ≠ "runtime.NumGoroutine" := by simpa using hn
  simp [callFunc, hf, h1, h2]
/-- it is a function with a text of its own -/
def isFn (P : Program) (f : FuncId) : Prop := ∃ fn, P.funcs[f]? = some fn ∧ fn.body.isSome = true ∧ (fn.name == "runtime.NumGoroutine") = false
/-- the callee may be known by its name, or stand in a slot as a value -/
theorem Wl.callV {g : Operand} {f : FuncId} {fst cap : List Value} {xs : Array Operand} {ats : Array TypeId} {vs : List Value} {Hi : Hp} {post : Value → Imm → Hp → Prop} (k : Nat)
    (hn : Nat.ble (d + 1) B.n = true) (hf : isFn P f) (hg : e.ev g = some (.func (.func f) fst.toArray cap.toArray)) (hx : e.evs xs.toList = some vs)
    (hF : Does P f (fst ++ vs ++ cap) G Hi post) (hHi : ∀ t x, Hi.get t = some x → H.get (k + t) = some x)
    (h : ∀ v G' Ho, G.le G' → post v G' Ho → Wl P ops rest B ⟨(d, v) :: e, D, Ho.shift k ++ (Hi.kill k ++ H), G'⟩ K) :
    Wl P ops (⟨some d, .call { callee := .value g, args := xs, argTypes := ats }, ty, pos, after, none⟩ :: rest) B ⟨e, D, H, G⟩ K := by
  intro a w hh
  obtain ⟨fn, h1, h2, h3⟩ := hf
  unfold lstWp
  rw [if_pos (by simp [Region.wanted])]
  unfold opWp
  have hrun : (execOp a.eval ⟨some d, .call { callee := .value g, args := xs, argTypes := ats }, ty, pos, after, none⟩).run P w = .ok (.enter f (fst ++ vs ++ cap).toArray) w := by
    simp [execOp, resolve, Deferred.ofValue, invoke, hh.eval hg, hh.args hx, run_callFunc w _ h1 h2 h3]
  rw [hrun]
  have hw : HoldH Hi G w := ⟨fun t b o x => hh.mem.own _ b o (hHi _ _ x), fun t t' b o o' x y => by have := hh.mem.one _ _ b _ _ (hHi _ _ x) (hHi _ _ y); omega, hh.mem.imm, fun t b o x => hh.mem.off _ b o (hHi _ _ x)⟩
  refine (hF w hw).mono fun x w' ⟨v, G', Ho, h1, h2, h3, h4, h5, h6, h7⟩ => ⟨v, h1, ?_⟩
  exact h v G' Ho h3 h7 _ _ ((hh.called k hHi h2 h3 h4 h5 h6).put hn v)
theorem Wl.call {f : FuncId} {xs : Array Operand} {ats : Array TypeId} {vs : List Value} {Hi : Hp} {post : Value → Imm → Hp → Prop} (k : Nat)
    (hn : Nat.ble (d + 1) B.n = true) (hf : isFn P f) (hx : e.evs xs.toList = some vs)
    (hF : Does P f vs G Hi post) (hHi : ∀ t x, Hi.get t = some x → H.get (k + t) = some x)
    (h : ∀ v G' Ho, G.le G' → post v G' Ho → Wl P ops rest B ⟨(d, v) :: e, D, Ho.shift k ++ (Hi.kill k ++ H), G'⟩ K) :
    Wl P ops (⟨some d, .call { callee := .value (.func f), args := xs, argTypes := ats }, ty, pos, after, none⟩ :: rest) B ⟨e, D, H, G⟩ K :=
  Wl.callV (fst := []) (cap := []) k hn hf rfl hx (by simpa using hF) hHi h
/-- .. that only computes a value -/
theorem Wl.call0 {f : FuncId} {xs : Array Operand} {ats : Array TypeId} {vs : List Value} {r : Value}
    (hn : Nat.ble (d + 1) B.n = true) (hf : isFn P f) (hx : e.evs xs.toList = some vs)
    (hF : Does P f vs G [] (fun v G' Ho => v = r ∧ G' = G ∧ Ho = []))
    (h : Wl P ops rest B ⟨(d, r) :: e, D, H, G⟩ K) :
    Wl P ops (⟨some d, .call { callee := .value (.func f), args := xs, argTypes := ats }, ty, pos, after, none⟩ :: rest) B ⟨e, D, H, G⟩ K :=
  Wl.call 0 hn hf hx hF (fun t x h => by simp [Hp.get] at h) (fun v G' Ho _ ⟨h1, h2, h3⟩ => by subst h1 h2 h3; exact h)
end call

/-! a function's frame -/
def Env.ofArgs : Nat → List Value → Env
  | _, [] => []
  | i, v :: vs => (i, v) :: Env.ofArgs (i + 1) vs
theorem Env.get_ofArgs : ∀ (vs : List Value) (i j : Nat) (v : Value), (Env.ofArgs i vs).get j = some v → i ≤ j ∧ vs[j - i]? = some v
  | [], i, j, v, h => by simp [Env.ofArgs, Env.get] at h
  | u :: vs, i, j, v, h => by
    have h' : Env.get ((i, u) :: Env.ofArgs (i + 1) vs) j = some v := h
    rw [Env.get_cons] at h'
    split at h'
    · rename_i hij; subst hij; simpa using h'
    · obtain ⟨h1, h2⟩ := Env.get_ofArgs vs (i + 1) j v h'
      refine ⟨by omega, ?_⟩
      rw [show j - i = (j - (i + 1)) + 1 by omega]
      simpa using h2
/-- what stands behind a function's text -/
def Out (P : Program) (fn : Func) (G : Imm) (Hi : Hp) (w : World) (post : Value → Imm → Hp → Prop) : Exit → Act → World → Prop := bodyPost P fn (DoesPost G Hi w post)
theorem Does.enter {f : FuncId} {fn : Func} {c : Code} {n : Nat} {args : List Value} {Hi : Hp} {post : Value → Imm → Hp → Prop} (hf : P.funcs[f]? = some fn) (hb : fn.body = some c) (hn : fn.ntmps = n)
    (hl : Nat.ble args.length n = true) (h : ∀ w, Wc none P c ⟨n, w, Hi.has, G⟩ ⟨Env.ofArgs 0 args, [], Hi, G⟩ (Out P fn G Hi w post)) : Does P f args G Hi post := by
  intro w hw
  have hl' := Nat.le_of_ble_eq_true hl
  refine callsIn_FF.1 (callsIn_of_wp (F := FF none) (n := 0) hf hb trivial (h w _ w ?_))
  refine ⟨?_, rfl, ?_, hw, Upd.refl _ _, fun t b o hx => .inr ⟨t, o, hx⟩, Imm.le_refl _, fun b h1 h2 => (h1 h2).elim⟩
  · simp [hn]; omega
  · intro i v hi
    obtain ⟨_, h2⟩ := Env.get_ofArgs args 0 i v hi
    have h2' : args[i]? = some v := by simpa using h2
    have hlt : i < args.length := (List.getElem?_eq_some_iff.1 h2').1
    show (args.toArray ++ Array.replicate (fn.ntmps - args.toArray.size) undef)[i]? = some v
    rw [Array.getElem?_append_left (by simpa using hlt)]
    simpa using h2'

/-- one of a function's results -/
def ResV (P : Program) (S : St) (x : ResultVar) (v : Value) : Prop :=
  (∃ t, x = .tmp t ∧ S.e.get t = some v) ∨
  (∃ t T b tag cs bt fz, x = .cell t T ∧ S.e.get t = some (.pointer (some ⟨b, 0, none⟩)) ∧ S.H.get tag = some (some b, .cells cs bt fz) ∧
    ((aggB P T cs.size = true ∧ v = .agg cs) ∨ (oneB P T = true ∧ cs[0]? = some v)))
theorem ResV.tmp {S : St} {t : Nat} {v : Value} (h : S.e.get t = some v) : ResV P S (.tmp t) v := .inl ⟨t, rfl, h⟩
theorem ResV.agg {S : St} {t T b : Nat} {cs : List Value} {bt : TypeId} {fz : Nat × Nat} (tag : Nat) (h : S.e.get t = some (.pointer (some ⟨b, 0, none⟩))) (hH : S.H.get tag = some (some b, .cells cs.toArray bt fz))
    (hT : aggB P T cs.length = true) : ResV P S (.cell t T) (.agg cs.toArray) := .inr ⟨t, T, b, tag, cs.toArray, bt, fz, rfl, h, hH, .inl ⟨by simpa using hT, rfl⟩⟩
theorem ResV.one {S : St} {t T b : Nat} {cs : List Value} {bt : TypeId} {fz : Nat × Nat} {v : Value} (tag : Nat) (h : S.e.get t = some (.pointer (some ⟨b, 0, none⟩))) (hH : S.H.get tag = some (some b, .cells cs.toArray bt fz))
    (hT : oneB P T = true) (hv : cs[0]? = some v) : ResV P S (.cell t T) v := .inr ⟨t, T, b, tag, cs.toArray, bt, fz, rfl, h, hH, .inr ⟨hT, by simpa using hv⟩⟩
def resOne (tmps : Array Value) : ResultVar → Sem Value := fun
  | .tmp t => pure (tmps.getD t undef)
  | .cell a t => do loadVar t (← asAddr (tmps.getD a undef))
theorem ResV.run {S : St} {x : ResultVar} {v : Value} {a : Act} {w : World} (h : ResV P S x v) (hh : Hold B S a w) : (resOne a.tmps x).run P w = .ok v w := by
  rcases h with ⟨t, rfl, ht⟩ | ⟨t, T, b, tag, cs, bt, fz, rfl, ht, hH, hT⟩
  · have := hh.env t v ht
    simp [resOne, this]
  · have h1 := hh.env t _ ht
    have h2 := hh.mem.own tag b _ hH
    simp only [resOne]
    have h3 : a.tmps.getD t undef = .pointer (some ⟨b, 0, none⟩) := by simp [h1]
    rw [h3]
    rcases hT with ⟨hT, rfl⟩ | ⟨hT, hv⟩
    · have hl := run_loadAt_agg (P := P) (T := T) (b := b) (off := 0) (w := w) (vs := cs.toList) hT (by simp) (fun j v hj => by
        simp only [Nat.zero_add]
        rw [cell_of_block (cs := cs.toList) (by simpa using h2)]; exact hj)
      simpa [Instr.loadAt, Instr.sureAddr, asAddr] using hl
    · have hl := run_loadAt_one (P := P) (T := T) (ad := ⟨b, 0, none⟩) (w := w) (v := v) hT (by rw [cell_of_block (cs := cs.toList) (by simpa using h2)]; simpa using hv)
      simpa [Instr.loadAt, Instr.sureAddr, asAddr] using hl
theorem results_eq (fn : Func) (tmps : Array Value) : results fn tmps = (do let vs ← fn.results.mapM (resOne tmps); pure (if h : vs.size = 1 then vs[0] else .tuple vs)) := rfl

section ret
variable {fn : Func} {G0 : Imm} {Hi : Hp} {w0 : World} {post : Value → Imm → Hp → Prop} {n : Nat} {v : Value} {x : Exit}
/-- the way out, whatever the results are -/
theorem Ar.out (hx : x = .normal ∨ x = .ret) {Ho : Hp} (hHo : H.sub Ho) (hr : ∀ a w, Hold ⟨n, w0, Hi.has, G0⟩ ⟨e, [], H, G⟩ a w → (results fn a.tmps).run P w = .ok v w)
    (hp : post v G Ho) : Ar (Out P fn G0 Hi w0 post) x ⟨n, w0, Hi.has, G0⟩ ⟨e, [], H, G⟩ := by
  intro a w hh
  have hH := hh.weaken (e' := e) (H' := Ho) (fun _ _ h => h) (Hp.sub_get hHo)
  have key : a.defers = [] ∧ ∃ v, (results fn a.tmps).run P w = .ok v w ∧ DoesPost G0 Hi w0 post (.returned v) w :=
    ⟨hh.defers, v, hr a w hh, v, G, Ho, rfl, hH.mem, hh.le, hh.upd, hh.new, hH.mine, hp⟩
  rcases hx with rfl | rfl <;> exact key
theorem Ar.out0 (hx : x = .normal ∨ x = .ret) {Ho : Hp} (hres : fn.results = #[]) (hHo : H.sub Ho) (hp : post (.tuple #[]) G Ho) : Ar (Out P fn G0 Hi w0 post) x ⟨n, w0, Hi.has, G0⟩ ⟨e, [], H, G⟩ :=
  Ar.out hx hHo (fun a w _ => by simp [results_eq, hres]) hp
theorem Ar.out1 (hx : x = .normal ∨ x = .ret) {Ho : Hp} {r1 : ResultVar} {v1 : Value} (hres : fn.results = #[r1]) (h1 : ResV P ⟨e, [], H, G⟩ r1 v1) (hHo : H.sub Ho) (hp : post v1 G Ho) :
    Ar (Out P fn G0 Hi w0 post) x ⟨n, w0, Hi.has, G0⟩ ⟨e, [], H, G⟩ :=
  Ar.out hx hHo (fun a w hh => by simp [results_eq, hres, h1.run hh]) hp
theorem Ar.out2 (hx : x = .normal ∨ x = .ret) {Ho : Hp} {r1 r2 : ResultVar} {v1 v2 : Value} (hres : fn.results = #[r1, r2]) (h1 : ResV P ⟨e, [], H, G⟩ r1 v1) (h2 : ResV P ⟨e, [], H, G⟩ r2 v2) (hHo : H.sub Ho)
    (hp : post (.tuple #[v1, v2]) G Ho) : Ar (Out P fn G0 Hi w0 post) x ⟨n, w0, Hi.has, G0⟩ ⟨e, [], H, G⟩ :=
  Ar.out hx hHo (fun a w hh => by simp [results_eq, hres, h1.run hh, h2.run hh]) hp
theorem Ar.out3 (hx : x = .normal ∨ x = .ret) {Ho : Hp} {r1 r2 r3 : ResultVar} {v1 v2 v3 : Value} (hres : fn.results = #[r1, r2, r3]) (h1 : ResV P ⟨e, [], H, G⟩ r1 v1) (h2 : ResV P ⟨e, [], H, G⟩ r2 v2)
    (h3 : ResV P ⟨e, [], H, G⟩ r3 v3) (hHo : H.sub Ho) (hp : post (.tuple #[v1, v2, v3]) G Ho) : Ar (Out P fn G0 Hi w0 post) x ⟨n, w0, Hi.has, G0⟩ ⟨e, [], H, G⟩ :=
  Ar.out hx hHo (fun a w hh => by simp [results_eq, hres, h1.run hh, h2.run hh, h3.run hh]) hp
theorem Ar.out4 (hx : x = .normal ∨ x = .ret) {Ho : Hp} {r1 r2 r3 r4 : ResultVar} {v1 v2 v3 v4 : Value} (hres : fn.results = #[r1, r2, r3, r4]) (h1 : ResV P ⟨e, [], H, G⟩ r1 v1) (h2 : ResV P ⟨e, [], H, G⟩ r2 v2)
    (h3 : ResV P ⟨e, [], H, G⟩ r3 v3) (h4 : ResV P ⟨e, [], H, G⟩ r4 v4) (hHo : H.sub Ho) (hp : post (.tuple #[v1, v2, v3, v4]) G Ho) : Ar (Out P fn G0 Hi w0 post) x ⟨n, w0, Hi.has, G0⟩ ⟨e, [], H, G⟩ :=
  Ar.out hx hHo (fun a w hh => by simp [results_eq, hres, h1.run hh, h2.run hh, h3.run hh, h4.run hh]) hp
end ret

/-! ### a block of the call's own is handed over to what stays as it is -/
def Imm.with (G : Imm) (b : Nat) (o : Obj) : Imm := fun k => if k = b then some o else G k
theorem Hold.freeze {a : Act} {w : World} (hh : Hold B ⟨e, D, H, G⟩ a w) {t b : Nat} {o : Obj} (ht : H.get t = some (some b, o)) :
    Hold B ⟨e, D, (t, none, default) :: H, G.with b o⟩ a w ∧ G.le (G.with b o) := by
  have hG : G b = none := hh.mem.off t b o ht
  have hle : G.le (G.with b o) := fun k x hk => by
    unfold Imm.with
    split
    · rename_i h; subst h; rw [hG] at hk; cases hk
    · exact hk
  have hget : ∀ i b' o', Hp.get ((t, none, default) :: H) i = some (some b', o') → t ≠ i ∧ H.get i = some (some b', o') := fun i b' o' hx => by
    rw [Hp.get_cons] at hx
    split at hx
    · simp at hx
    · rename_i h; exact ⟨h, hx⟩
  refine ⟨⟨hh.size, hh.defers, hh.env, ⟨?_, ?_, ?_, ?_⟩, hh.upd, ?_, Imm.le_trans hh.le hle, ?_⟩, hle⟩
  · intro i b' o' hx; exact hh.mem.own i b' o' (hget i b' o' hx).2
  · intro i j b' o1 o2 hx hy; exact hh.mem.one i j b' o1 o2 (hget _ _ _ hx).2 (hget _ _ _ hy).2
  · intro k x hk
    have hk' : (if k = b then some o else G k) = some x := hk
    split at hk'
    · rename_i h; subst h; simp only [Option.some.injEq] at hk'; subst hk'; exact hh.mem.own t k o ht
    · exact hh.mem.imm k x hk'
  · intro i b' o' hx
    obtain ⟨hne, hg⟩ := hget i b' o' hx
    show (if b' = b then some o else G b') = none
    split
    · rename_i h; subst h; exact (hne (hh.mem.one _ _ _ _ _ ht hg)).elim
    · exact hh.mem.off i b' o' hg
  · intro i b' o' hx; exact hh.mine i b' o' (hget i b' o' hx).2
  · intro k hk h0
    have hk' : (if k = b then some o else G k) ≠ none := hk
    split at hk'
    · rename_i h; subst h; exact hh.mine t k o ht
    · exact hh.new k hk' h0
section freeze
variable {ops : Array Oper} {l : List Oper} {K : Act → World → Prop} {r : Option Nat} {c : Code} {Q : Exit → Act → World → Prop} {x : Exit}
theorem Wl.freeze (t : Nat) {b : Nat} {o : Obj} (ht : H.get t = some (some b, o)) (h : ∀ G', G.le G' → G' b = some o → Wl P ops l B ⟨e, D, (t, none, default) :: H, G'⟩ K) : Wl P ops l B ⟨e, D, H, G⟩ K :=
  fun a w hh => h _ (hh.freeze ht).2 (by simp [Imm.with]) a w (hh.freeze ht).1
theorem Wc.freeze (t : Nat) {b : Nat} {o : Obj} (ht : H.get t = some (some b, o)) (h : ∀ G', G.le G' → G' b = some o → Wc r P c B ⟨e, D, (t, none, default) :: H, G'⟩ Q) : Wc r P c B ⟨e, D, H, G⟩ Q :=
  fun a w hh => h _ (hh.freeze ht).2 (by simp [Imm.with]) a w (hh.freeze ht).1
theorem Ar.freeze (t : Nat) {b : Nat} {o : Obj} (ht : H.get t = some (some b, o)) (h : ∀ G', G.le G' → G' b = some o → Ar Q x B ⟨e, D, (t, none, default) :: H, G'⟩) : Ar Q x B ⟨e, D, H, G⟩ :=
  fun a w hh => h _ (hh.freeze ht).2 (by simp [Imm.with]) a w (hh.freeze ht).1
end freeze
end
end Go.Sl
