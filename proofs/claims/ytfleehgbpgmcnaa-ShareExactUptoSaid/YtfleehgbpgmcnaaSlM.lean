/- A range over a function: what an iterator does, what a round does, the statement; the way out of a function that holds one. -/
import Derived.Test.YtfleehgbpgmcnaaSlK
import Derived.RangeFuncRecord
import Derived.RangeFuncNested
set_option linter.unusedVariables false
namespace Go.Sl
open Go

/-- the record of a loop -/
def lrec (q : Loop) (s : LoopState) (p : Option Code) : Obj := .loop { q with state := s, pending := p }
/-- what one call of yield does -/
def YieldDoes (P : Program) (l : Nat) (vs : List Value) (G : Imm) (Hi : Hp) (post : Value → Imm → Hp → Prop) : Prop :=
  ∀ w, HoldH Hi G w → ∃ f tmps assign body, (Instr.yield l vs.toArray).run P w = .ok (.round l f tmps assign body) w ∧ RoundIn Fence.wide 0 P l f tmps assign body w (DoesPost G Hi w post)
/-- what a function does that calls yield for one thing after the other: whatever the rounds keep, it keeps -/
def IterDoes {β : Type} (P : Program) (f : FuncId) (caps : List Value) (G : Imm) (enc : β → List Value) (xs : List β) : Prop :=
  ∀ (ι : Type) (J : ι → Hp) (inv : Nat → ι → Prop) (stop : ι → Prop) (l : Nat) (i0 : ι), inv 0 i0 →
    (∀ k x i, xs[k]? = some x → inv k i → YieldDoes P l (enc x) G (J i) (fun v G' Ho => G' = G ∧ ∃ j, Ho = J j ∧ ((v = .bool true ∧ inv (k + 1) j) ∨ (v = .bool false ∧ stop j)))) →
    Does P f (.func (.yield l) #[] #[] :: caps) G (J i0) (fun v G' Ho => G' = G ∧ ∃ j, Ho = J j ∧ (inv xs.length j ∨ stop j))

/-! ### tails of blocks that are not the function's own -/
def Hp.below (K : Nat) : Hp → Bool
  | [] => true
  | (t, _) :: h => Nat.ble (t + 1) K && Hp.below K h
theorem Hp.below_get {K : Nat} : ∀ {A : Hp}, Hp.below K A = true → ∀ t, K ≤ t → A.get t = none
  | [], _, t, _ => rfl
  | (i, x) :: A, h, t, ht => by
    simp only [Hp.below, Bool.and_eq_true] at h
    have h1 := Nat.le_of_ble_eq_true h.1
    rw [Hp.get_cons, if_neg (by omega)]
    exact Hp.below_get h.2 t ht
section
variable {P : Program} {ops : Array Oper} {rest : List Oper} {B : Bs} {e : Env} {D : List Deferred} {H : Hp} {G : Imm} {K : Act → World → Prop}
  {ty : TypeId} {pos : String} {after : Array Edge} {d : Nat}
theorem Hp.get_kill_lt (k : Nat) : ∀ (L : Hp) (t : Nat), t < k → (Hp.kill k L).get t = none
  | [], _, _ => rfl
  | (j, z) :: L, t, h => by
    show Hp.get ((k + j, none, default) :: Hp.kill k L) t = none
    rw [Hp.get_cons, if_neg (by omega)]
    exact Hp.get_kill_lt k L t h
/-- behind a call that was lent the tail -/
theorem Hold.tail {a : Act} {w : World} (k : Nat) {A Hi Ho : Hp} {G' : Imm} (hA : Hp.below k A = true) (hh : Hold B ⟨e, D, Ho.shift k ++ (Hi.kill k ++ (A ++ Hi.shift k)), G'⟩ a w) : Hold B ⟨e, D, A ++ Ho.shift k, G'⟩ a w := by
  refine hh.weaken (fun _ _ h => h) (fun t x hx => ?_)
  rw [Hp.get_append] at hx
  rw [Hp.get_append, Hp.get_append, Hp.get_append]
  rcases Nat.lt_or_ge t k with ht | ht
  · have h1 : (Ho.shift k).get t = none := by rw [Hp.get_shift, if_neg (by omega)]
    have h2 : (Hi.shift k).get t = none := by rw [Hp.get_shift, if_neg (by omega)]
    have h3 : (Hi.kill k).get t = none := Hp.get_kill_lt k Hi t ht
    rw [h1, h2, h3]
    rw [h1] at hx
    simpa using hx
  · rw [Hp.below_get hA t ht] at hx
    simp only [Option.none_or] at hx
    rw [hx]; rfl
/-- a call of yield; the tail is what the rounds hold -/
theorem Wl.yield {g : Operand} {l : Nat} {xs : Array Operand} {ats : Array TypeId} {vs : List Value} {A Hi : Hp} {post : Value → Imm → Hp → Prop} (k : Nat)
    (hn : Nat.ble (d + 1) B.n = true) (hg : e.ev g = some (.func (.yield l) #[] #[])) (hx : e.evs xs.toList = some vs) (hH : H = A ++ Hi.shift k) (hA : Hp.below k A = true)
    (hF : YieldDoes P l vs G Hi post) (h : ∀ v G' Ho, G.le G' → post v G' Ho → Wl P ops rest B ⟨(d, v) :: e, D, A ++ Ho.shift k, G'⟩ K) :
    Wl P ops (⟨some d, .call { callee := .value g, args := xs, argTypes := ats }, ty, pos, after, none⟩ :: rest) B ⟨e, D, H, G⟩ K := by
  intro a w hh
  subst hH
  unfold lstWp
  rw [if_pos (by simp [Region.wanted])]
  unfold opWp
  have hHi : ∀ t x, Hi.get t = some x → Hp.get (A ++ Hi.shift k) (k + t) = some x := fun t x hx => by
    rw [Hp.get_append, Hp.below_get hA (k + t) (by omega), Option.none_or, Hp.get_shift, if_pos (by omega), Nat.add_sub_cancel_left]; exact hx
  have hw : HoldH Hi G w := ⟨fun t b o x => hh.mem.own _ b o (hHi _ _ x), fun t t' b o o' x y => by have := hh.mem.one _ _ b _ _ (hHi _ _ x) (hHi _ _ y); omega, hh.mem.imm, fun t b o x => hh.mem.off _ b o (hHi _ _ x)⟩
  obtain ⟨f, tmps, assign, body, hy, hR⟩ := hF w hw
  have hrun : (execOp a.eval ⟨some d, .call { callee := .value g, args := xs, argTypes := ats }, ty, pos, after, none⟩).run P w = .ok (.round l f tmps assign body) w := by
    simp [execOp, resolve, Deferred.ofValue, invoke, hh.eval hg, hh.args hx, hy]
  rw [hrun]
  refine hR.mono fun x w' ⟨v, G', Ho, h1, h2, h3, h4, h5, h6, h7⟩ => ⟨v, h1, ?_⟩
  exact h v G' Ho h3 h7 _ _ (((hh.called k hHi h2 h3 h4 h5 h6).tail k hA).put hn v)

/-- the tail of what is known -/
def Hp.tl (H : Hp) (k : Nat) (T : Hp) : Prop := ∀ t x, (T.shift k).get t = some x → H.get t = some x
theorem Hp.tl_self (k : Nat) (T : Hp) : Hp.tl (T.shift k) k T := fun _ _ h => h
theorem Hp.tl_cons {k t : Nat} {x : Option Nat × Obj} {H T : Hp} (ht : Nat.ble (t + 1) k = true) (h : Hp.tl H k T) : Hp.tl ((t, x) :: H) k T := fun i y hi => by
  have hk : k ≤ i := by
    rcases Nat.lt_or_ge i k with h1 | h1
    · rw [Hp.get_shift, if_neg (by omega)] at hi; cases hi
    · exact h1
  have := Nat.le_of_ble_eq_true ht
  rw [Hp.get_cons, if_neg (by omega)]
  exact h i y hi
theorem Hold.cutT {a : Act} {w : World} {e' : Env} {A T : Hp} {k : Nat} (hh : Hold B ⟨e, D, H, G⟩ a w) (he : e.sub e') (hH : H.sub A) (ht : H.tl k T) : Hold B ⟨e', D, A ++ T.shift k, G⟩ a w := by
  refine hh.weaken (Env.sub_get he) (fun t x hx => ?_)
  rw [Hp.get_append] at hx
  cases hA : A.get t with
  | some y =>
    rw [hA] at hx
    have hx' : y = x := by simpa using hx
    subst hx'
    exact Hp.sub_get hH t y hA
  | none => rw [hA] at hx; exact ht t x (by simpa using hx)
theorem Env.sub_refl' {e : Env} : ∀ i v, e.get i = some v → e.get i = some v := fun _ _ h => h
/-- yield, what the rounds hold being the tail -/
theorem Wl.yieldT {g : Operand} {l : Nat} {xs : Array Operand} {ats : Array TypeId} {vs : List Value} {A Hi : Hp} {post : Value → Imm → Hp → Prop} (k : Nat)
    (hn : Nat.ble (d + 1) B.n = true) (hg : e.ev g = some (.func (.yield l) #[] #[])) (hx : e.evs xs.toList = some vs) (hH : H.sub A) (ht : H.tl k Hi) (hA : Hp.below k A = true)
    (hF : YieldDoes P l vs G Hi post) (h : ∀ v G' Ho, G.le G' → post v G' Ho → Wl P ops rest B ⟨(d, v) :: e, D, A ++ Ho.shift k, G'⟩ K) :
    Wl P ops (⟨some d, .call { callee := .value g, args := xs, argTypes := ats }, ty, pos, after, none⟩ :: rest) B ⟨e, D, H, G⟩ K := by
  intro a w hh
  refine Wl.yield (H := A ++ Hi.shift k) k hn hg hx rfl hA hF h a w (hh.weaken (fun _ _ h => h) (fun t x hx => ?_))
  rw [Hp.get_append] at hx
  cases hA : A.get t with
  | some y =>
    rw [hA] at hx
    have hx' : y = x := by simpa using hx
    subst hx'
    exact Hp.sub_get hH t y hA
  | none => rw [hA] at hx; exact ht t x (by simpa using hx)
theorem Wc.loopT {ι : Type} {r : Option Nat} {c : Code} {Q : Exit → Act → World → Prop} (k : Nat) (I : ι → Env × Hp) (T : ι → Hp) (φ : ι → Prop) (μ : ι → Nat) (i0 : ι) (h0 : φ i0)
    (he : e.sub (I i0).1) (hH : H.sub (I i0).2) (ht : H.tl k (T i0))
    (hb : ∀ i, φ i → Wc r P c B ⟨(I i).1, D, (I i).2 ++ (T i).shift k, G⟩ (Exit.then (Again B (fun i => ⟨(I i).1, D, (I i).2 ++ (T i).shift k, G⟩) φ μ (μ i)) Q)) : Wc r P (.loop c) B ⟨e, D, H, G⟩ Q :=
  Wc.loopS (fun i => ⟨(I i).1, D, (I i).2 ++ (T i).shift k, G⟩) φ μ i0 h0 (fun _ _ h => h.cutT he hH ht) hb
theorem Ar.againT {ι : Type} {I : ι → Env × Hp} {T : ι → Hp} {k : Nat} {φ : ι → Prop} {μ : ι → Nat} {m : Nat} {Q : Exit → Act → World → Prop} (j : ι) (hφ : φ j) (hμ : μ j < m)
    (he : e.sub (I j).1) (hH : H.sub (I j).2) (ht : H.tl k (T j)) : Ar (Exit.then (Again B (fun i => ⟨(I i).1, D, (I i).2 ++ (T i).shift k, G⟩) φ μ m) Q) .normal B ⟨e, D, H, G⟩ :=
  fun a w hh => ⟨j, hφ, hμ, hh.cutT he hH ht⟩
/-- other tags for all that is known -/
theorem Wc.lift {r : Option Nat} {c : Code} {Q : Exit → Act → World → Prop} (k : Nat) (h : Wc r P c B ⟨e, D, H.shift k, G⟩ Q) : Wc r P c B ⟨e, D, H, G⟩ Q := by
  intro a w hh
  have hg : ∀ t x, (H.shift k).get t = some x → k ≤ t ∧ H.get (t - k) = some x := fun t x hx => by
    rw [Hp.get_shift] at hx
    split at hx
    · rename_i h1; exact ⟨h1, hx⟩
    · cases hx
  refine h a w ⟨hh.size, hh.defers, hh.env, ⟨?_, ?_, hh.mem.imm, ?_⟩, hh.upd, ?_, hh.le, hh.new⟩
  · intro t b o hx; exact hh.mem.own _ b o (hg _ _ hx).2
  · intro t t' b o o' hx hy
    have h1 := hg _ _ hx; have h2 := hg _ _ hy
    have := hh.mem.one _ _ b _ _ h1.2 h2.2; omega
  · intro t b o hx; exact hh.mem.off _ b o (hg _ _ hx).2
  · intro t b o hx; exact hh.mine _ b o (hg _ _ hx).2
theorem Hp.got {H L : Hp} (h : H.sub L) : ∀ t x, L.get t = some x → H.get t = some x := Hp.sub_get h
theorem Hp.got_app {H A T : Hp} {k : Nat} (h : H.sub A) (ht : H.tl k T) : ∀ t x, Hp.get (A ++ T.shift k) t = some x → H.get t = some x := fun t x hx => by
  rw [Hp.get_append] at hx
  cases hA : A.get t with
  | some y =>
    rw [hA] at hx
    have hx' : y = x := by simpa using hx
    subst hx'
    exact Hp.sub_get h t y hA
  | none => rw [hA] at hx; exact ht t x (by simpa using hx)
theorem Hp.got_cons {H L : Hp} {i : Nat} {y : Option Nat × Obj} (h : H.get i = some y) (hL : ∀ t x, L.get t = some x → H.get t = some x) : ∀ t x, Hp.get ((i, y) :: L) t = some x → H.get t = some x := fun t x hx => by
  rw [Hp.get_cons] at hx
  split at hx
  · rename_i he; subst he; cases hx; exact h
  · exact hL t x hx
theorem Hp.none_app {A T : Hp} {k t : Nat} (h : A.get t = none) (hk : Nat.ble (t + 1) k = true) : Hp.get (A ++ T.shift k) t = none := by
  have := Nat.le_of_ble_eq_true hk
  rw [Hp.get_append, h, Option.none_or, Hp.get_shift, if_neg (by omega)]
/-- the iterator's way out: of its blocks only what the rounds hold is handed on -/
theorem Ar.outT {fn : Func} {G0 : Imm} {Hi Ho : Hp} {w0 : World} {post : Value → Imm → Hp → Prop} {n k : Nat} {x : Exit} (hx : x = .normal ∨ x = .ret) (hres : fn.results = #[]) (ht : H.tl k Ho) (hp : post (.tuple #[]) G Ho) :
    Ar (Out P fn G0 Hi w0 post) x ⟨n, w0, Hi.has, G0⟩ ⟨e, [], H, G⟩ := by
  intro a w hh
  have key : a.defers = [] ∧ ∃ v, (results fn a.tmps).run P w = .ok v w ∧ DoesPost G0 Hi w0 post (.returned v) w := by
    have hg : ∀ t x, Ho.get t = some x → H.get (k + t) = some x := fun t x hx => ht _ _ (by rw [Hp.get_shift, if_pos (by omega), Nat.add_sub_cancel_left]; exact hx)
    refine ⟨hh.defers, .tuple #[], by simp [results_eq, hres], .tuple #[], G, Ho, rfl, ⟨?_, ?_, hh.mem.imm, ?_⟩, hh.le, hh.upd, hh.new, ?_, hp⟩
    · intro t b o h; exact hh.mem.own _ b o (hg _ _ h)
    · intro t t' b o o' h h'; have := hh.mem.one _ _ b _ _ (hg _ _ h) (hg _ _ h'); omega
    · intro t b o h; exact hh.mem.off _ b o (hg _ _ h)
    · intro t b o h; exact hh.mine _ b o (hg _ _ h)
  rcases hx with rfl | rfl <;> exact key

/-! ### the way out behind a mark -/
def OutM (P : Program) (fn : Func) (G : Imm) (Hi : Hp) (w : World) (post : Value → Imm → Hp → Prop) : Exit → Act → World → Prop := bodyPostM (FF none) 0 P fn (DoesPost G Hi w post)
theorem Does.enterM {f : FuncId} {fn : Func} {c : Code} {n : Nat} {args : List Value} {Hi : Hp} {post : Value → Imm → Hp → Prop} (hf : P.funcs[f]? = some fn) (hb : fn.body = some c) (hn : fn.ntmps = n)
    (hl : Nat.ble args.length n = true) (h : ∀ w, Wc none P c ⟨n, w, Hi.has, G⟩ ⟨Env.ofArgs 0 args, [], Hi, G⟩ (OutM P fn G Hi w post)) : Does P f args G Hi post := by
  intro w hw
  have hl' := Nat.le_of_ble_eq_true hl
  refine callsIn_FF.1 (callsIn_of_wp_marks (F := FF none) (n := 0) hf hb trivial (h w _ w ?_))
  refine ⟨?_, rfl, ?_, hw, Upd.refl _ _, fun t b o hx => .inr ⟨t, o, hx⟩, Imm.le_refl _, fun b h1 h2 => (h1 h2).elim⟩
  · simp [hn]; omega
  · intro i v hi
    obtain ⟨_, h2⟩ := Env.get_ofArgs args 0 i v hi
    have h2' : args[i]? = some v := by simpa using h2
    have hlt : i < args.length := (List.getElem?_eq_some_iff.1 h2').1
    show (args.toArray ++ Array.replicate (fn.ntmps - args.toArray.size) undef)[i]? = some v
    rw [Array.getElem?_append_left (by simpa using hlt)]
    simpa using h2'
def mark (b : Nat) : Deferred := { target := .collected b, args := #[] }
theorem putObj_upd (w : World) (b : Nat) (o : Obj) : Upd (· = b) w (w.putObj b o) := ⟨rfl, rfl, rfl, by simp, fun k _ hk => World.putObj_heap_other hk⟩
section out
variable {fn : Func} {G0 : Imm} {Hi : Hp} {w0 : World} {post : Value → Imm → Hp → Prop} {x : Exit}
theorem Ar.collect (hx : x = .normal ∨ x = .ret) (t : Nat) {b : Nat} (ht : H.get t = some (some b, .deferred (some []))) (h : Ar (OutM P fn G0 Hi w0 post) .ret B ⟨e, D, (t, some b, .deferred none) :: H, G⟩) :
    Ar (OutM P fn G0 Hi w0 post) x B ⟨e, mark b :: D, H, G⟩ := by
  intro a w hh
  have hb : w.heap[b]? = some (.deferred (some [])) := hh.mem.own t b _ ht
  have hlt := (Array.getElem?_eq_some_iff.1 hb).1
  have hh1 : Hold B ⟨e, D, H, G⟩ { a with defers := D } w := ⟨hh.size, rfl, hh.env, hh.mem, hh.upd, hh.mine, hh.le, hh.new⟩
  have h1 := h _ _ (hh1.set ht (putObj_upd w b (.deferred none)) (World.putObj_heap_same hlt))
  have key : LeavesInM (FF none) 0 P fn a.tmps (DoesPost G0 Hi w0 post) a.defers .returning w := by
    rw [hh.defers]
    exact ⟨by simp, .inl ⟨b, _, rfl, run_takeDeferred hb, h1⟩⟩
  rcases hx with rfl | rfl <;> exact key
theorem Ar.outOf (hx : x = .normal ∨ x = .ret) (h : Ar (Out P fn G0 Hi w0 post) .ret B ⟨e, [], H, G⟩) : Ar (OutM P fn G0 Hi w0 post) x B ⟨e, [], H, G⟩ := by
  intro a w hh
  obtain ⟨hd, v, hr, hR⟩ := h a w hh
  have key : LeavesInM (FF none) 0 P fn a.tmps (DoesPost G0 Hi w0 post) a.defers .returning w := by
    rw [hd]; exact ⟨v, hr, hR⟩
  rcases hx with rfl | rfl <;> exact key
end out

/-! ### a round -/
def Env.ps : List Nat → List Value → Env → Env
  | t :: ts, v :: vs, e => Env.ps ts vs ((t, v) :: e)
  | _, _, e => e
/-- the assignments, then the body -/
def RoundQ (P : Program) (l : Nat) (body : Code) (R : Ending → World → Prop) : Exit → Act → World → Prop :=
  Exit.then (fun a₁ w₁ => ∃ w₂, (Instr.beginRound l).run P w₁ = .ok () w₂ ∧ body.wpIn (FF (some l)) 0 P (roundPost P l R) a₁ w₂) (fun _ _ _ => False)
theorem Ar.begin {l : Nat} {body : Code} {R : Ending → World → Prop} {q : Loop} {p : Option Code} (t : Nat) (ht : H.get t = some (some l, lrec q .ready p))
    (h : Wc (some l) P body B ⟨e, D, (t, some l, lrec q .busy p) :: H, G⟩ (roundPost P l R)) : Ar (RoundQ P l body R) .normal B ⟨e, D, H, G⟩ := by
  intro a w hh
  have hb := hh.mem.own t l _ ht
  have hlt := (Array.getElem?_eq_some_iff.1 hb).1
  refine ⟨_, run_beginRound hb rfl, ?_⟩
  exact h _ _ (hh.set ht (putObj_upd w l _) (World.putObj_heap_same hlt))
section round
variable {ι : Type} {x : Exit} {l n : Nat} {w0 : World} {Hi : Hp} {G0 : Imm} {post : Value → Imm → Hp → Prop} {q : Loop} {p : Option Code}
/-- a round's end: yield hands back true, or false with a jump that pends -/
theorem Ar.roundEnd (c : Option Code) (hx : (x = .normal ∧ c = none) ∨ (x = .ret ∧ c = some .ret) ∨ ∃ id, x = .exit id ∧ c = some (.exit id)) (t : Nat) (ht : H.get t = some (some l, lrec q .busy p)) {Ho : Hp}
    (hp : post (.bool c.isNone) G Ho) (hHo : ∀ i y, Ho.get i = some y → Hp.get ((t, some l, lrec q (if c.isNone then .ready else .done) c) :: H) i = some y) :
    Ar (roundPost P l (DoesPost G0 Hi w0 post)) x ⟨n, w0, Hi.has, G0⟩ ⟨e, D, H, G⟩ := by
  intro a w hh
  have hb := hh.mem.own t l _ ht
  have hlt := (Array.getElem?_eq_some_iff.1 hb).1
  have h2 := hh.set ht (o' := lrec q (if c.isNone then .ready else .done) c) (putObj_upd w l _) (World.putObj_heap_same hlt)
  have h3 := h2.weaken (e' := e) (H' := Ho) (fun _ _ h => h) hHo
  have key : ∃ v w', (Instr.endRound l c).run P w = .ok v w' ∧ DoesPost G0 Hi w0 post (.returned v) w' :=
    ⟨_, _, run_endRound c hb, .bool c.isNone, G, Ho, rfl, h3.mem, h3.le, h3.upd, h3.new, h3.mine, hp⟩
  rcases hx with ⟨rfl, rfl⟩ | ⟨rfl, rfl⟩ | ⟨id, rfl, rfl⟩ <;> exact key
end round
theorem Env.ps_hold {n : Nat} : ∀ (ts : List Nat) (vs : List Value) (e : Env) (tmps : Array Value), tmps.size = n → (∀ i v, e.get i = some v → tmps[i]? = some v) → ts.all (fun t => Nat.ble (t + 1) n) = true →
    ((ts.zip vs).foldl (fun t (p : Nat × Value) => t.setIfInBounds p.1 p.2) tmps).size = n ∧ ∀ i v, (Env.ps ts vs e).get i = some v → ((ts.zip vs).foldl (fun t (p : Nat × Value) => t.setIfInBounds p.1 p.2) tmps)[i]? = some v
  | [], vs, e, tmps, hs, he, _ => by
    have : Env.ps [] vs e = e := by cases vs <;> rfl
    rw [this]; simpa using ⟨hs, he⟩
  | t :: ts, [], e, tmps, hs, he, _ => by simpa [Env.ps] using ⟨hs, he⟩
  | t :: ts, v :: vs, e, tmps, hs, he, hb => by
    simp only [List.all_cons, Bool.and_eq_true] at hb
    have ht := Nat.le_of_ble_eq_true hb.1
    refine Env.ps_hold ts vs ((t, v) :: e) (tmps.setIfInBounds t v) (by simpa using hs) (fun i u hu => ?_) hb.2
    rw [Env.get_cons] at hu
    rw [Array.getElem?_setIfInBounds]
    by_cases hi : t = i
    · rw [if_pos hi] at hu ⊢; rw [if_pos (by omega)]; exact hu
    · rw [if_neg hi] at hu ⊢; exact he i u hu

section stmt
variable {β ι : Type} {Q : Exit → Act → World → Prop} {f : FuncId} {fst caps : List Value} {enc : β → List Value} {xs : List β} {ps : List Nat} {assign body : Code} {g : Operand}
def rst : Option Code → LoopState | none => .ready | some _ => .done
/-- what the rounds hold: the record, the block for deferred calls, the caller's blocks -/
abbrev RJ (tl td : Nat) (q : Loop) (l dd : Nat) (A : Hp) (p : Option Code) : Hp := (tl, some l, lrec q (rst p) p) :: (td, some dd, .deferred (some [])) :: A
/-- for .. range over a function, outermost -/
theorem Wc.rangeFunc (tl td : Nat) (I : ι → Hp) (inv : Nat → ι → Prop) (stop : Code → ι → Prop) (i0 : ι) (hg : e.ev g = some (.func (.func f) #[] caps.toArray)) (hf : isFn P f)
    (hps : ∀ x, (enc x).length = ps.length) (hpb : ps.all (fun t => Nat.ble (t + 1) B.n) = true) (hit : IterDoes P f caps G enc xs) (h0 : inv 0 i0) (hH : ∀ t x, (I i0).get t = some x → H.get t = some x)
    (htl : Nat.beq tl td = false ∧ ∀ i, (I i).get tl = none)
    (hround : ∀ k x i l dd q w0, xs[k]? = some x → inv k i → Wc (some l) P assign ⟨B.n, w0, (RJ tl td q l dd (I i) none).has, G⟩ ⟨Env.ps ps (enc x) e, [], RJ tl td q l dd (I i) none, G⟩
      (RoundQ P l body (DoesPost G (RJ tl td q l dd (I i) none) w0 (fun v G' Ho => G' = G ∧ ∃ j : ι × Option Code, Ho = RJ tl td q l dd (I j.1) j.2 ∧ ((v = .bool true ∧ j.2 = none ∧ inv (k + 1) j.1) ∨ (v = .bool false ∧ ∃ c, j.2 = some c ∧ stop c j.1))))))
    (hdone : ∀ j dd, inv xs.length j → Ar Q .normal B ⟨e, mark dd :: D, (td, some dd, .deferred (some [])) :: I j, G⟩)
    (hstop : ∀ j dd c, stop c j → Wc none P c B ⟨e, mark dd :: D, (td, some dd, .deferred (some [])) :: I j, G⟩ Q) :
    Wc none P (.rangeFunc g ps.toArray assign body) B ⟨e, D, H, G⟩ Q := by
  intro a w hh
  refine wpIn_rangeFunc fun fn _ => ?_
  obtain ⟨q, hq⟩ : ∃ q : Loop, q = { state := .ready, pending := none, fn, tmps := a.tmps, params := ps.toArray, assign, body, defers := w.heap.size } := ⟨_, rfl⟩
  obtain ⟨fnn, hf1, hf2, hf3⟩ := hf
  obtain ⟨ht3, htI⟩ := htl
  have hne : tl ≠ td := fun h => by subst h; simp at ht3
  have hA := hh.alloc td (.deferred (some []))
  have hB := hA.alloc tl (lrec q .ready none)
  rw [World.size_alloc] at hB
  refine ⟨w.heap.size + 1, [mark w.heap.size], (w.alloc (.deferred (some []))).alloc (lrec q .ready none), { target := .fn (.func f) caps.toArray, args := #[.func (.yield (w.heap.size + 1)) #[] #[]] }, (w.alloc (.deferred (some []))).alloc (lrec q .ready none), f,
    (.func (.yield (w.heap.size + 1)) #[] #[] :: caps).toArray, (w.alloc (.deferred (some []))).alloc (lrec q .ready none), ?_, ?_, ?_, ?_, fun h => by simp [FF] at h, ?_⟩
  · have := run_enterLoop_outer (P := P) (w := w) fn a.tmps ps.toArray assign body
    rw [hq]; exact this
  · have hev : Act.eval a g = .func (.func f) #[] caps.toArray := hh.eval hg
    simp only [resolve, hev]
    simp [go_sem]
  · intro f' hf'; trivial
  · simp [invoke, run_callFunc _ _ hf1 hf2 hf3]
  · have hB' : Hold B ⟨e, D, RJ tl td q (w.heap.size + 1) w.heap.size (I i0) none, G⟩ a ((w.alloc (.deferred (some []))).alloc (lrec q .ready none)) := by
      refine hB.weaken (fun _ _ h => h) (fun t x hx => ?_)
      rw [Hp.get_cons] at hx ⊢
      split at hx <;> rename_i h1
      · rw [if_pos h1]; exact hx
      · rw [if_neg h1]
        rw [Hp.get_cons] at hx ⊢
        split at hx <;> rename_i h2
        · rw [if_pos h2]; exact hx
        · rw [if_neg h2]; exact hH t x hx
    have hC := hit (ι × Option Code) (fun s => RJ tl td q (w.heap.size + 1) w.heap.size (I s.1) s.2) (fun k j => j.2 = none ∧ inv k j.1) (fun j => ∃ c, j.2 = some c ∧ stop c j.1) (w.heap.size + 1) (i0, none) ⟨rfl, h0⟩ (fun k x i hx hi => ?_)
    · refine callsIn_FF.2 ((hC _ hB'.mem).mono fun ex w' ⟨v, G', Ho, h1, h2, h3, h4, h5, h6, h7, j, h8, h9⟩ => ?_)
      subst h1 h7
      have hcl := hB'.called 0 (Hi := RJ tl td q (w.heap.size + 1) w.heap.size (I i0) none) (fun t x hx => by rw [Nat.zero_add]; exact hx) h2 h3 h4 h5 h6
      have hD : Hold B ⟨e, D, Ho, G'⟩ a w' := hcl.weaken (fun _ _ h => h) (fun t x hx => by
        rw [Hp.get_append, Hp.get_shift, if_pos (Nat.zero_le _), Nat.sub_zero, hx]; rfl)
      rw [h8] at hD
      obtain ⟨ji, jp⟩ := j
      have hget : Hp.get (RJ tl td q (w.heap.size + 1) w.heap.size (I ji) jp) tl = some (some (w.heap.size + 1), lrec q (rst jp) jp) := by
        rw [Hp.get_cons, if_pos rfl]
      have hbk := hD.mem.own tl _ _ hget
      have hlt := (Array.getElem?_eq_some_iff.1 hbk).1
      have hE := hD.set hget (o' := lrec q .exhausted jp) (putObj_upd w' _ _) (World.putObj_heap_same hlt)
      have hF : Hold B ⟨e, D, (td, some w.heap.size, .deferred (some [])) :: I ji, G'⟩ a (w'.putObj (w.heap.size + 1) (lrec q .exhausted jp)) := by
        refine hE.weaken (fun _ _ h => h) (fun t x hx => ?_)
        rw [Hp.get_cons] at hx ⊢
        have htn : tl ≠ t := fun h => by
          subst h
          rw [if_neg (Ne.symm hne)] at hx
          have := htI ji
          rw [hx] at this; cases this
        rw [if_neg htn]
        rw [Hp.get_cons, if_neg htn, Hp.get_cons]
        exact hx
      have hG : Hold B ⟨e, mark w.heap.size :: D, (td, some w.heap.size, .deferred (some [])) :: I ji, G'⟩ { a with defers := [mark w.heap.size] ++ a.defers } (w'.putObj (w.heap.size + 1) (lrec q .exhausted jp)) :=
        ⟨hF.size, by show [mark w.heap.size] ++ a.defers = _; rw [hF.defers]; rfl, hF.env, hF.mem, hF.upd, hF.mine, hF.le, hF.new⟩
      have hend : (Instr.endLoop (w.heap.size + 1)).run P w' = .ok jp (w'.putObj (w.heap.size + 1) (lrec q .exhausted jp)) := run_endLoop hbk (by cases jp <;> simp [rst])
      refine ⟨jp, _, hend, ?_⟩
      rcases h9 with ⟨hj, hi⟩ | ⟨c, hj, hs⟩
      · have hj' : jp = none := hj
        subst hj'
        exact hdone ji _ hi _ _ hG
      · have hj' : jp = some c := hj
        subst hj'
        exact hstop ji _ c hs _ _ hG
    · obtain ⟨i, ip⟩ := i
      obtain ⟨hip, hi⟩ := hi
      have hip' : ip = none := hip
      subst hip'
      intro w2 hw2
      have hl2 : w2.heap[w.heap.size + 1]? = some (lrec q .ready none) := hw2.own tl _ _ (by rw [Hp.get_cons, if_pos rfl]; rfl)
      have hq2 : q.params = ps.toArray ∧ q.tmps = a.tmps ∧ q.assign = assign ∧ q.body = body := by rw [hq]; exact ⟨rfl, rfl, rfl, rfl⟩
      have hy := run_yield (P := P) (args := (enc x).toArray) hl2 (by show _ = q.params.size; rw [hq2.1]; simp [hps x])
      refine ⟨_, _, _, _, hy, roundIn_of_wpIn (F := Fence.wide) (n := 0) trivial ?_⟩
      have hz := Env.ps_hold ps (enc x) e a.tmps hh.size hh.env hpb
      have hr := hround k x i (w.heap.size + 1) w.heap.size q w2 hx hi
      have hhold : Hold ⟨B.n, w2, (RJ tl td q (w.heap.size + 1) w.heap.size (I i) none).has, G⟩ ⟨Env.ps ps (enc x) e, [], RJ tl td q (w.heap.size + 1) w.heap.size (I i) none, G⟩
          { tmps := (q.params.zip (enc x).toArray).foldl (fun tmps (t, a) => tmps.setIfInBounds t a) q.tmps, defers := [] } w2 := by
        refine ⟨?_, rfl, ?_, hw2, Upd.refl _ _, fun t b o hx => .inr ⟨t, o, hx⟩, Imm.le_refl _, fun b h1 h2 => (h1 h2).elim⟩
        · show ((q.params.zip (enc x).toArray).foldl _ q.tmps).size = B.n
          rw [hq2.1, hq2.2.1]
          have := hz.1
          simpa using this
        · intro i v hv
          show ((q.params.zip (enc x).toArray).foldl _ q.tmps)[i]? = some v
          rw [hq2.1, hq2.2.1]
          have := hz.2 i v hv
          simpa using this
      have h := hr _ w2 hhold
      show q.assign.wpIn (FF (some (w.heap.size + 1))) 0 P (RoundQ P (w.heap.size + 1) q.body _) _ _
      rw [hq2.2.2.1, hq2.2.2.2]
      exact h
end stmt
end
end Go.Sl
