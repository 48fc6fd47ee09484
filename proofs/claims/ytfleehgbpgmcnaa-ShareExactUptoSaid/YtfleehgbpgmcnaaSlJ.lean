/- Rows of the call's own by their slices; calls that leave all as it is. -/
import Derived.Test.YtfleehgbpgmcnaaSlI
set_option linter.unusedVariables false
namespace Go.Sl
open Go

/-! records of numbers -/
structure R2 where
  a : Int
  b : Int
  deriving DecidableEq
instance : Inhabited R2 := ⟨⟨0, 0⟩⟩
instance : Cells R2 := ⟨2, fun i => [.int .i64 i.a, .int .i64 i.b], fun _ => rfl, fun _ => rfl⟩
structure R6 where
  a : Int
  b : Int
  c : Int
  d : Int
  e : Int
  f : Int
  deriving DecidableEq
instance : Inhabited R6 := ⟨⟨0, 0, 0, 0, 0, 0⟩⟩
instance : Cells R6 := ⟨6, fun i => [.int .i64 i.a, .int .i64 i.b, .int .i64 i.c, .int .i64 i.d, .int .i64 i.e, .int .i64 i.f], fun _ => rfl, fun _ => rfl⟩

/-! a part of the text with labels, nobody jumping -/
section scope
variable {P : Program} {b : Frame} {a : Act} {k : List Item} {cs : List Frame} {w : World} {Q : Exit → Act → World → Prop} {F : Fence} {n : Nat}
theorem stepR_scope {c : Code} : step P (lone (b.atR a (.code (.scope c) :: k)) cs w) = .next (lone (b.atR a (.code c :: .inScope c :: k)) cs w) :=
  step_lone_go (by simp [stepG, stepG.exec, Frame.atR])
theorem stepR_inScope {c : Code} : step P (lone (b.atR a (.inScope c :: k)) cs w) = .next (lone (b.atR a k) cs w) :=
  step_lone_go (by simp [stepG, stepG.exec, Frame.atR])
def NoGoto (Q : Exit → Act → World → Prop) : Exit → Act → World → Prop
  | .goto _, _, _ => False
  | e, a, w => Q e a w
theorem wpIn_scope {c : Code} (h : c.wpIn F n P (NoGoto Q) a w) : (Code.scope c).wpIn F n P Q a w := by
  intro b k cs hro hb hr
  have h0 : (lone (b.atR a (.code (.scope c) :: k)) cs w).fenced P F := fenced_calm hb hr rfl
  obtain ⟨e, a₁, w₁, hq, harr⟩ := h b (.inScope c :: k) cs hro hb hr
  cases e with
  | normal => exact ⟨.normal, a₁, w₁, hq, .head h0 stepR_scope (StepsIn.trans harr (.one (fenced_calm hb hr rfl) stepR_inScope))⟩
  | exit id =>
    have hx : exitTo id (.inScope c :: k) = exitTo id k := by simp [exitTo]
    exact ⟨.exit id, a₁, w₁, hq, fun k' hk => .head h0 stepR_scope (harr.1 k' (by rw [hx]; exact hk)),
      fun hr' hk => let ⟨k₁, h1, h2⟩ := harr.2 hr' (by rw [hx]; exact hk); ⟨k₁, h1, .head h0 stepR_scope h2⟩⟩
  | goto l => exact hq.elim
  | ret => exact ⟨_, a₁, w₁, hq, .of_steps (.one h0 stepR_scope) harr⟩
  | panic ch => exact ⟨_, a₁, w₁, hq, .of_steps (.one h0 stepR_scope) harr⟩
  | outgrown => exact ⟨_, a₁, w₁, hq, .of_steps (.one h0 stepR_scope) harr⟩
end scope
section scopeS
variable {r : Option Nat} {P : Program} {B : Bs} {S : St} {Q : Exit → Act → World → Prop}
theorem Wc.scope {c : Code} (h : Wc r P c B S (NoGoto Q)) : Wc r P (.scope c) B S Q := fun a w hh => wpIn_scope (h a w hh)
theorem Ar.scopeN (h : Ar Q .normal B S) : Ar (NoGoto Q) .normal B S := h
theorem Ar.scopeR (h : Ar Q .ret B S) : Ar (NoGoto Q) .ret B S := h
theorem Ar.scopeE {id : Nat} (h : Ar Q (.exit id) B S) : Ar (NoGoto Q) (.exit id) B S := h
end scopeS

theorem Hp.sub_of_get {H : Hp} : ∀ {L : Hp}, (∀ p ∈ L, H.get p.1 = some p.2) → H.sub L
  | [], _ => trivial
  | (i, x) :: L, h => ⟨h (i, x) List.mem_cons_self, Hp.sub_of_get fun p hp => h p (List.mem_cons_of_mem _ hp)⟩
/-- what a list of tags picks picks itself -/
theorem Hp.only_get (H : Hp) : ∀ (ts : List Nat) (p : Nat × Option Nat × Obj), p ∈ H.only ts → H.get p.1 = some p.2
  | [], p, hp => by simp [Hp.only] at hp
  | t :: ts, p, hp => by
    unfold Hp.only at hp
    split at hp
    · rename_i x hx
      rcases List.mem_cons.1 hp with rfl | hp
      · exact hx
      · exact Hp.only_get H ts p hp
    · exact Hp.only_get H ts p hp
theorem Hp.get_only {H : Hp} {ts : List Nat} {i : Nat} (hi : i ∈ ts) : ∀ {x}, H.get i = some x → (H.only ts).get i = some x := by
  induction ts with
  | nil => cases hi
  | cons t ts ih =>
    intro x hx
    unfold Hp.only
    by_cases h : t = i
    · subst h; rw [hx]; show Hp.get ((t, x) :: _) t = _; rw [Hp.get_cons, if_pos rfl]
    · have hi' : i ∈ ts := by rcases List.mem_cons.1 hi with h' | h'; exact absurd h'.symm h; exact h'
      split
      · rename_i y hy; show Hp.get ((t, y) :: _) i = _; rw [Hp.get_cons, if_neg h]; exact ih hi' hx
      · exact ih hi' hx
theorem Hp.only_self (H : Hp) (ts : List Nat) : (H.only ts).sub (H.only ts) :=
  Hp.sub_of_get fun p hp => Hp.get_only (Hp.mem_only hp) (Hp.only_get H ts p hp)

section
variable {P : Program} {ops : Array Oper} {rest : List Oper} {B : Bs} {e : Env} {D : List Deferred} {H H0 : Hp} {G : Imm} {K : Act → World → Prop}
  {ty : TypeId} {pos : String} {after : Array Edge} {d : Nat} {f : Nat} {listed : Array Bool}

theorem Ar.nilRow {Q : Exit → Act → World → Prop} {x : Exit} (t : Nat) (o : Obj) (h : Ar Q x B ⟨e, D, (t, none, o) :: H, G⟩) : Ar Q x B ⟨e, D, H, G⟩ := fun a w hh => h a w (hh.noBlock t o)
/-- a guard that was passed over itself -/
theorem Wl.passU {o : Op} {j : Nat} {want : Bool} {t : Nat} (hj : (ops[j]?).bind (·.dst) = some t) (he : e.get t = some undef) (hn : Nat.ble (d + 1) B.n = true)
    (h : Wl P ops rest B ⟨(d, undef) :: e, D, H, G⟩ K) : Wl P ops (⟨some d, o, ty, pos, after, some (j, want)⟩ :: rest) B ⟨e, D, H, G⟩ K := by
  intro a w hh
  unfold lstWp
  have hy : yielded ops a.tmps j = none := by simp [yielded, hj, hh.env t _ he, undef]
  rw [if_neg (by simp [Region.wanted, hy])]
  exact h _ _ (hh.put hn undef)
/-! blocks under new tags -/
end
def Hp.pick (H : Hp) : Nat → List Nat → Hp
  | _, [] => []
  | i, t :: ts => match H.get t with | some x => (i, x) :: Hp.pick H (i + 1) ts | none => Hp.pick H (i + 1) ts
theorem Hp.get_pick (H : Hp) : ∀ (ts : List Nat) (i j : Nat) (x : Option Nat × Obj), (H.pick i ts).get j = some x → i ≤ j ∧ ∃ t, ts[j - i]? = some t ∧ H.get t = some x
  | [], i, j, x, h => by simp [Hp.pick, Hp.get] at h
  | t :: ts, i, j, x, h => by
    unfold Hp.pick at h
    have rec' : (H.pick (i + 1) ts).get j = some x → i ≤ j ∧ ∃ t', (t :: ts)[j - i]? = some t' ∧ H.get t' = some x := fun h => by
      obtain ⟨h1, t', h2, h3⟩ := Hp.get_pick H ts (i + 1) j x h
      refine ⟨by omega, t', ?_, h3⟩
      rw [show j - i = (j - (i + 1)) + 1 by omega]
      simpa using h2
    split at h
    · rename_i y hy
      have h' : Hp.get ((i, y) :: H.pick (i + 1) ts) j = some x := h
      rw [Hp.get_cons] at h'
      split at h'
      · rename_i e; subst e; cases h'; exact ⟨Nat.le_refl _, t, by simp, hy⟩
      · exact rec' h'
    · exact rec' h
theorem Hold.pick {B : Bs} {e : Env} {D : List Deferred} {H : Hp} {G : Imm} {a : Act} {w : World} (hh : Hold B ⟨e, D, H, G⟩ a w) {ts : List Nat} (hn : ts.Nodup) : Hold B ⟨e, D, H.pick 0 ts, G⟩ a w := by
  have key : ∀ t x, (H.pick 0 ts).get t = some x → ∃ t', ts[t]? = some t' ∧ H.get t' = some x := fun t x hx => by
    obtain ⟨_, t', h1, h2⟩ := Hp.get_pick H ts 0 t x hx
    exact ⟨t', by simpa using h1, h2⟩
  refine ⟨hh.size, hh.defers, hh.env, ⟨?_, ?_, hh.mem.imm, ?_⟩, hh.upd, ?_, hh.le, hh.new⟩
  · intro t b o hx; obtain ⟨t', _, h2⟩ := key _ _ hx; exact hh.mem.own _ b o h2
  · intro t u b o o' hx hy
    obtain ⟨t', h1, h2⟩ := key _ _ hx
    obtain ⟨u', h3, h4⟩ := key _ _ hy
    have := hh.mem.one _ _ b _ _ h2 h4
    subst this
    obtain ⟨h5, h6⟩ := List.getElem?_eq_some_iff.1 h1
    obtain ⟨h7, h8⟩ := List.getElem?_eq_some_iff.1 h3
    rcases Nat.lt_trichotomy t u with h | h | h
    · exact absurd (h6.trans h8.symm) (List.pairwise_iff_getElem.1 hn t u h5 h7 h)
    · exact h
    · exact absurd (h8.trans h6.symm) (List.pairwise_iff_getElem.1 hn u t h7 h5 h)
  · intro t b o hx; obtain ⟨t', _, h2⟩ := key _ _ hx; exact hh.mem.off _ b o h2
  · intro t b o hx; obtain ⟨t', _, h2⟩ := key _ _ hx; exact hh.mine _ b o h2
section
variable {P : Program} {ops : Array Oper} {rest : List Oper} {B : Bs} {e : Env} {D : List Deferred} {H H0 : Hp} {G : Imm} {K : Act → World → Prop}
  {ty : TypeId} {pos : String} {after : Array Edge} {d : Nat} {f : Nat} {listed : Array Bool}
theorem Ar.pick {Q : Exit → Act → World → Prop} {x : Exit} (ts : List Nat) (hn : ts.Nodup) (h : Ar Q x B ⟨e, D, H.pick 0 ts, G⟩) : Ar Q x B ⟨e, D, H, G⟩ := fun a w hh => h a w (hh.pick hn)
theorem Wc.pick {r : Option Nat} {c : Code} {Q : Exit → Act → World → Prop} (ts : List Nat) (hn : ts.Nodup) (h : Wc r P c B ⟨e, D, H.pick 0 ts, G⟩ Q) : Wc r P c B ⟨e, D, H, G⟩ Q := fun a w hh => h a w (hh.pick hn)
theorem Hp.sub_self : ∀ (i : Nat) (ts : List Nat), (H.pick i ts).sub (H.pick i ts) := fun i ts => by
  refine Hp.sub_of_get fun p hp => ?_
  have key : ∀ (ts : List Nat) (i : Nat) (p : Nat × Option Nat × Obj), p ∈ H.pick i ts → i ≤ p.1 ∧ (H.pick i ts).get p.1 = some p.2 := by
    intro ts
    induction ts with
    | nil => intro i p hp; simp [Hp.pick] at hp
    | cons t ts ih =>
      intro i p hp
      unfold Hp.pick at hp ⊢
      split
      · rename_i x hx
        rw [hx] at hp
        rcases List.mem_cons.1 hp with rfl | hp
        · exact ⟨Nat.le_refl _, by show Hp.get ((i, x) :: _) i = _; rw [Hp.get_cons, if_pos rfl]⟩
        · obtain ⟨h1, h2⟩ := ih (i + 1) p hp
          exact ⟨by omega, by show Hp.get ((i, x) :: _) p.1 = _; rw [Hp.get_cons, if_neg (by omega)]; exact h2⟩
      · rename_i hx
        rw [hx] at hp
        obtain ⟨h1, h2⟩ := ih (i + 1) p hp
        exact ⟨by omega, h2⟩
  exact (key ts i p hp).2

/-! ways that part and meet again, anywhere in the text -/
def Meet {ι : Type} (B : Bs) (I : ι → St) (φ : ι → Prop) : Act → World → Prop := fun a w => ∃ j, φ j ∧ Hold B (I j) a w
theorem Wc.meet {ι : Type} {r : Option Nat} {x y : Code} {Q : Exit → Act → World → Prop} (I : ι → Env × Hp) (φ : ι → Prop)
    (h1 : Wc r P x B ⟨e, D, H, G⟩ (Exit.then (Meet B (fun i => ⟨(I i).1, D, (I i).2, G⟩) φ) Q)) (h2 : ∀ i, φ i → Wc r P y B ⟨(I i).1, D, (I i).2, G⟩ Q) : Wc r P (.seq x y) B ⟨e, D, H, G⟩ Q := by
  refine Wc.seq fun a w hh b k cs hro hb hr => ?_
  obtain ⟨ex, a', w', hq, ha⟩ := h1 a w hh b k cs hro hb hr
  refine ⟨ex, a', w', ?_, ha⟩
  cases ex with
  | normal => obtain ⟨j, hj, hI⟩ := hq; exact h2 j hj a' w' hI
  | exit id => exact hq
  | goto l => exact hq
  | ret => exact hq
  | panic ch => exact hq
  | outgrown => exact hq
theorem Ar.meet {ι : Type} {I : ι → St} {φ : ι → Prop} {Q : Exit → Act → World → Prop} (j : ι) (hφ : φ j)
    (hI : I j = ⟨(I j).e, D, (I j).H, G⟩) (he : e.sub (I j).e) (hH : H.sub (I j).H) : Ar (Exit.then (Meet B I φ) Q) .normal B ⟨e, D, H, G⟩ :=
  fun a w hh => ⟨j, hφ, by rw [hI]; exact hh.sub he hH⟩

/-! a block of which only the size is known -/
theorem Wl.storeR {T : TypeId} {x y : Operand} {b off k : Nat} {cs vs : List Value} {bt : TypeId} {v : Value} (t : Nat) (hs : (P.info? T).map (·.size) = some k)
    (hx : e.ev x = some (.pointer (some ⟨b, off, none⟩))) (hy : e.ev y = some v) (hv : v.cells = vs.toArray) (hk : vs.length = k) (h1 : vs.all (·.oneCell') = true) (ht : H.get t = some (some b, .cells cs.toArray bt (0, 0))) (ho : off + k ≤ cs.length)
    (h : ∀ cs' : List Value, cs'.length = cs.length → Wl P ops rest B ⟨e, D, (t, some b, .cells cs'.toArray bt (0, 0)) :: H, G⟩ K) : Wl P ops (⟨none, .store T x y, ty, pos, after, none⟩ :: rest) B ⟨e, D, H, G⟩ K :=
  Wl.writes (v := undef) (x := .skip) (ob' := .cells (cs.take off ++ vs ++ cs.drop (off + vs.length)).toArray bt (0, 0)) ht (.inl ⟨rfl, rfl⟩) (fun a w hh => by
    have hb := hh.mem.own t b _ ht
    have := run_storeAt (P := P) (T := T) (off := off) (cs := cs) (vs := vs) (by rw [hk]; exact hs) hv h1 hb (by rw [hk]; exact ho)
    refine ⟨_, by simp [execOp, hh.eval hx, hh.eval hy, this]; rfl, setRow_upd w b _, ?_⟩
    rw [setRow_heap w b _ _ bt _ hb, List.append_assoc]) (h _ (by simp only [List.length_append, List.length_take, List.length_drop]; omega))

/-! calls that only look at what there is: the call's own blocks are lent -/
def Borrow (H : Hp) (Gx : Imm) : Prop := ∀ t b o, H.get t = some (some b, o) → Gx b = some o
theorem HoldH.lend {H : Hp} {G : Imm} {w : World} (h : HoldH H G w) : ∃ Gx : Imm, G.le Gx ∧ Borrow H Gx ∧ HoldH [] Gx w ∧ (∀ b, Gx b ≠ none → G b = none → ∃ t o, H.get t = some (some b, o)) := by
  classical
  refine ⟨fun b => if hx : ∃ o, ∃ t, H.get t = some (some b, o) then some (Classical.choose hx) else G b, ?_, ?_, ⟨?_, ?_, ?_, ?_⟩, ?_⟩
  · intro b o hb
    have hn : ¬ ∃ o, ∃ t, H.get t = some (some b, o) := fun ⟨o', t, ht⟩ => by rw [h.off t b o' ht] at hb; cases hb
    simp only [hn, dif_neg, not_false_eq_true]; exact hb
  · intro t b o ht
    have hx : ∃ o, ∃ t, H.get t = some (some b, o) := ⟨o, t, ht⟩
    simp only [hx, dif_pos]
    obtain ⟨t', ht'⟩ := Classical.choose_spec hx
    have := h.one _ _ b _ _ ht ht'
    subst this
    rw [ht] at ht'
    simp only [Option.some.injEq, Prod.mk.injEq, true_and] at ht'
    rw [← ht']
  · intro t b o hx; simp [Hp.get] at hx
  · intro t t' b o o' hx; simp [Hp.get] at hx
  · intro b o hb
    try simp only at hb
    split at hb
    · rename_i hx
      obtain ⟨t', ht'⟩ := Classical.choose_spec hx
      cases hb
      exact h.own t' b _ ht'
    · exact h.imm b o hb
  · intro t b o hx; simp [Hp.get] at hx
  · intro b hb hg
    try simp only at hb
    split at hb
    · rename_i hx; exact ⟨_, _, (Classical.choose_spec hx).choose_spec⟩
    · exact absurd hg hb
theorem Arr.own {α : Type} [Cells α] {Gx : Imm} {a : Option Addr} {c : Nat} {E : TypeId} {xs : List α} {junk : List Value} (hb : Borrow H Gx) (t : Nat) (ht : H.get t = some (a.map (·.block), Row E xs junk)) (ho : OwnA a c xs junk) : Arr Gx a xs := by
  rcases ho with ⟨rfl, rfl, rfl, _⟩ | ⟨b, rfl, _⟩
  · exact Arr.nil Gx
  · exact row_arr (E := E) (junk := junk) (hb t b _ ht)
theorem Wl.callB {fn : FuncId} {xs : Array Operand} {ats : Array TypeId} {vs : List Value} {post : Imm → Value → Imm → Hp → Prop} (k : Nat)
    (hn : Nat.ble (d + 1) B.n = true) (hf : isFn P fn) (hx : e.evs xs.toList = some vs)
    (hF : ∀ Gx, G.le Gx → Borrow H Gx → Does P fn vs Gx [] (post Gx))
    (h : ∀ v Gx G' Ho, G.le Gx → post Gx v G' Ho → Wl P ops rest B ⟨(d, v) :: e, D, Ho.shift k ++ H, G⟩ K) :
    Wl P ops (⟨some d, .call { callee := .value (.func fn), args := xs, argTypes := ats }, ty, pos, after, none⟩ :: rest) B ⟨e, D, H, G⟩ K := by
  intro a w hh
  obtain ⟨f, h1, h2, h3⟩ := hf
  unfold lstWp
  rw [if_pos (by simp [Region.wanted])]
  unfold opWp
  have hrun : (execOp a.eval ⟨some d, .call { callee := .value (.func fn), args := xs, argTypes := ats }, ty, pos, after, none⟩).run P w = .ok (.enter fn vs.toArray) w := by
    simp [execOp, resolve, Deferred.ofValue, invoke, Act.eval, hh.args hx, run_callFunc w _ h1 h2 h3]
  rw [hrun]
  obtain ⟨Gx, g1, g2, g3, _⟩ := hh.mem.lend
  refine (hF Gx g1 g2 w g3).mono fun x w' ⟨v, G', Ho, q1, q2, q3, q4, q5, q6, q7⟩ => ⟨v, q1, ?_⟩
  refine h v Gx G' Ho g1 q7 _ _ (Hold.put ?_ hn v)
  have hno : ∀ b, ¬ Hp.has [] b := fun b ⟨t, o, hx⟩ => by simp [Hp.get] at hx
  have hup : Upd (fun _ => False) w w' := q4.mono (fun k _ hk => hno k hk)
  have hg := hh.grow hup
  have hfr : ∀ t b o, Ho.get t = some (some b, o) → w.heap.size ≤ b := fun t b o hx => (q6 t b o hx).resolve_right (hno b)
  have hsplit : ∀ i b o, (Ho.shift k ++ H).get i = some (some b, o) → (k ≤ i ∧ Ho.get (i - k) = some (some b, o)) ∨ H.get i = some (some b, o) := by
    intro i b o hx
    rw [Hp.get_append, Hp.get_shift] at hx
    by_cases hi : k ≤ i
    · rw [if_pos hi] at hx
      cases hgg : Ho.get (i - k) with
      | some x => rw [hgg] at hx; exact .inl ⟨hi, by simpa using hx⟩
      | none => rw [hgg] at hx; simp only [Option.none_or] at hx; exact .inr hx
    · rw [if_neg hi] at hx; simp only [Option.none_or] at hx; exact .inr hx
  refine ⟨hg.size, hg.defers, hg.env, ⟨?_, ?_, hg.mem.imm, ?_⟩, hg.upd, ?_, hg.le, hg.new⟩
  · intro i b o hx
    rcases hsplit i b o hx with ⟨_, h'⟩ | h'
    · exact q2.own _ b o h'
    · exact hg.mem.own i b o h'
  · intro i j b o o' hx hy
    rcases hsplit i b o hx with ⟨hi, h'⟩ | h' <;> rcases hsplit j b o' hy with ⟨hj, h''⟩ | h''
    · have := q2.one _ _ b _ _ h' h''; omega
    · have := hfr _ b o h'; have h4 : b < w.heap.size := hh.mem.lt h''; omega
    · have := hfr _ b o' h''; have h4 : b < w.heap.size := hh.mem.lt h'; omega
    · exact hg.mem.one _ _ b _ _ h' h''
  · intro i b o hx
    rcases hsplit i b o hx with ⟨_, h'⟩ | h'
    · have hb := hfr _ b o h'
      cases hgb : G b with
      | none => exact hgb
      | some y => have : b < w.heap.size := hh.mem.ltG hgb; omega
    · exact hg.mem.off i b o h'
  · intro i b o hx
    rcases hsplit i b o hx with ⟨_, h'⟩ | h'
    · exact .inl (Nat.le_trans hh.upd.size (hfr _ b o h'))
    · exact hh.mine i b o h'

/-! calls that leave all as it is -/
theorem Wl.callR {fn : FuncId} {xs : Array Operand} {ats : Array TypeId} {vs : List Value} {Hi : Hp} {q : Value → Prop} (k : Nat)
    (hn : Nat.ble (d + 1) B.n = true) (hf : isFn P fn) (hx : e.evs xs.toList = some vs)
    (hF : Does P fn vs G Hi (fun v G' Ho => q v ∧ G' = G ∧ Ho = Hi)) (hHi : ∀ t x, Hi.get t = some x → H.get (k + t) = some x)
    (h : ∀ v, q v → Wl P ops rest B ⟨(d, v) :: e, D, H, G⟩ K) :
    Wl P ops (⟨some d, .call { callee := .value (.func fn), args := xs, argTypes := ats }, ty, pos, after, none⟩ :: rest) B ⟨e, D, H, G⟩ K := by
  refine Wl.call k hn hf hx hF hHi (fun v G' Ho _ ⟨h1, h2, h3⟩ => ?_)
  subst h2 h3
  intro a w hh
  refine h v h1 a w (hh.weaken (fun _ _ h => h) (fun t x hx => ?_))
  rw [Hp.get_append, Hp.get_shift]
  by_cases hk : k ≤ t
  · rw [if_pos hk]
    cases hg : Hp.get Ho (t - k) with
    | some y =>
      have := hHi _ _ hg
      rw [show k + (t - k) = t by omega, hx] at this
      simpa using this.symm
    | none =>
      simp only [Option.none_or]
      rw [Hp.get_append]
      cases hkl : (Hp.kill k Ho).get t with
      | none => simpa using hx
      | some y =>
        exfalso
        have key : ∀ (L : Hp), L.get (t - k) = none → (Hp.kill k L).get t = none := by
          intro L
          induction L with
          | nil => intro _; rfl
          | cons z L ih =>
            obtain ⟨j, z⟩ := z
            intro hz
            rw [Hp.get_cons] at hz
            show Hp.get ((k + j, none, default) :: Hp.kill k L) t = none
            rw [Hp.get_cons]
            split at hz
            · cases hz
            · rename_i hne; rw [if_neg (by omega)]; exact ih hz
        rw [key Ho hg] at hkl; cases hkl
  · rw [if_neg hk]
    simp only [Option.none_or]
    rw [Hp.get_append]
    cases hkl : (Hp.kill k Ho).get t with
    | none => simpa using hx
    | some y =>
      exfalso
      have key : ∀ (L : Hp), (Hp.kill k L).get t = none := by
        intro L
        induction L with
        | nil => rfl
        | cons z L ih =>
          obtain ⟨j, z⟩ := z
          show Hp.get ((k + j, none, default) :: Hp.kill k L) t = none
          rw [Hp.get_cons, if_neg (by omega)]; exact ih
      rw [key Ho] at hkl; cases hkl
/-- .. and yield one value -/
theorem Wl.call1 {fn : FuncId} {xs : Array Operand} {ats : Array TypeId} {vs : List Value} {Hi : Hp} {r : Value} (k : Nat)
    (hn : Nat.ble (d + 1) B.n = true) (hf : isFn P fn) (hx : e.evs xs.toList = some vs)
    (hF : Does P fn vs G Hi (fun v G' Ho => v = r ∧ G' = G ∧ Ho = Hi)) (hHi : ∀ t x, Hi.get t = some x → H.get (k + t) = some x)
    (h : Wl P ops rest B ⟨(d, r) :: e, D, H, G⟩ K) :
    Wl P ops (⟨some d, .call { callee := .value (.func fn), args := xs, argTypes := ats }, ty, pos, after, none⟩ :: rest) B ⟨e, D, H, G⟩ K :=
  Wl.callR k hn hf hx hF hHi (fun v hv => hv ▸ h)
/-- the tags, one by one -/
theorem tagsOk {Hi : Hp} {k : Nat} : (∀ p ∈ Hi, H.get (k + p.1) = some p.2) → ∀ t x, Hi.get t = some x → H.get (k + t) = some x :=
  fun h t x hx => h (t, x) (Hp.get_mem hx)
def tagsAll (H : Hp) (k : Nat) : Hp → Prop
  | [] => True
  | (t, x) :: L => H.get (k + t) = some x ∧ tagsAll H k L
theorem tags_of {k : Nat} : ∀ {Hi : Hp}, tagsAll H k Hi → ∀ t x, Hi.get t = some x → H.get (k + t) = some x
  | [], _, t, x, h => by simp [Hp.get] at h
  | (j, y) :: L, ⟨h1, h2⟩, t, x, h => by
    rw [Hp.get_cons] at h
    split at h
    · rename_i hj; subst hj; cases h; exact h1
    · exact tags_of h2 t x h

/-! rows of the call's own, by their slices -/
section own
variable {α : Type} [Cells α] {a : Option Addr} {c : Nat} {xs : List α} {junk : List Value}
theorem OwnA.addr (h : OwnA a c xs junk) (hn : 0 < xs.length) : a = some ⟨ab a, 0, none⟩ := by
  rcases h with ⟨_, h, _⟩ | ⟨b, rfl, _⟩
  · subst h; simp at hn
  · rfl
theorem OwnA.blk (h : OwnA a c xs junk) (hn : 0 < xs.length) : a.map (·.block) = some (ab a) := by rw [h.addr hn]; rfl
theorem OwnA.le (h : OwnA a c xs junk) : xs.length ≤ c := by
  rcases h with ⟨_, rfl, _, rfl⟩ | ⟨b, _, _, h, _⟩
  · simp
  · exact h
theorem Qy.indexAddrO {T : TypeId} {x i : Operand} {k : IntKind} {m : Int} {E : Nat} (hT : isSlice P T E (Cells.sz α)) (hx : e.ev x = some (.slice a xs.length c)) (hi : e.ev i = some (.int k m)) (ho : OwnA a c xs junk) (hb : 0 ≤ m ∧ m < xs.length) :
    Qy P (.indexAddr T x i) ty e H G (.pointer (some ⟨ab a, 0 + m.toNat * Cells.sz α, none⟩)) := by
  have ha := ho.addr (by omega)
  rw [ha] at hx
  exact Qy.indexAddr hT hx hi hb
theorem Qy.loadO [Inhabited α] {T : TypeId} {x : Operand} {E : TypeId} {m : Int} {v : Value} (t k : Nat) (h1 : oneB P T = true) (hx : e.ev x = some (.pointer (some ⟨ab a, 0 + m.toNat * Cells.sz α + k, none⟩)))
    (ht : H.get t = some (a.map (·.block), Row E xs junk)) (ho : OwnA a c xs junk) (hm : 0 ≤ m ∧ m < xs.length) (hk : Nat.ble (k + 1) (Cells.sz α) = true) (hv : (Cells.enc (xs[m.toNat]?.getD default))[k]? = some v) : Qy P (.load T x) ty e H G v := by
  rw [ho.blk (by omega)] at ht
  exact Qy.loadF t k h1 hx ht hm hk hv
theorem Qy.loadsO [Inhabited α] {T : TypeId} {x : Operand} {E : TypeId} {m : Int} (t : Nat) (h1 : aggB P T (Cells.sz α) = true) (hx : e.ev x = some (.pointer (some ⟨ab a, 0 + m.toNat * Cells.sz α, none⟩)))
    (ht : H.get t = some (a.map (·.block), Row E xs junk)) (ho : OwnA a c xs junk) (hm : 0 ≤ m ∧ m < xs.length) : Qy P (.load T x) ty e H G (.agg (Cells.enc (xs[m.toNat]?.getD default)).toArray) := by
  rw [ho.blk (by omega)] at ht
  exact Qy.loadsF t h1 hx ht hm
theorem Wl.setO {T : TypeId} {x y : Operand} {E : TypeId} {m : Int} {v : Value} {z : α} (t : Nat) (hs : (P.info? T).map (·.size) = some (Cells.sz α))
    (hx : e.ev x = some (.pointer (some ⟨ab a, 0 + m.toNat * Cells.sz α, none⟩))) (hy : e.ev y = some v) (ht : H.get t = some (a.map (·.block), Row E xs junk)) (ho : OwnA a c xs junk) (hm : 0 ≤ m ∧ m < xs.length) (hv : v.cells = (Cells.enc z).toArray)
    (h : OwnA a c (xs.set m.toNat z) junk → Wl P ops rest B ⟨e, D, (t, a.map (·.block), Row E (xs.set m.toNat z) junk) :: H, G⟩ K) : Wl P ops (⟨none, .store T x y, ty, pos, after, none⟩ :: rest) B ⟨e, D, H, G⟩ K := by
  have h' := h (by
    rcases ho with ⟨_, h, _⟩ | ⟨b, h1, h2, h3, h4⟩
    · subst h; simp at hm; omega
    · exact .inr ⟨b, h1, by simpa using h2, by simpa using h3, h4⟩)
  have hb := ho.blk (by omega)
  rw [hb] at ht h'
  exact Wl.setF t hs hx hy hv ht hm h'
/-- a cut's end, of a slice of the call's own or of one that stays -/
theorem subA_zero_own {sz : Nat} (ho : OwnA a c xs junk) : subA a c 0 sz = a := by
  rcases ho with ⟨rfl, _⟩ | ⟨b, rfl, _⟩
  · unfold subA; split <;> rfl
  · unfold subA; split <;> simp [add_lit]
theorem subA_zero {n sz c : Nat} {cs : List Value} (h : SlG G a n sz cs) : subA a c 0 sz = a := by
  unfold subA; split
  · rfl
  · cases a <;> simp [Addr.add]
end own
end
end Go.Sl
