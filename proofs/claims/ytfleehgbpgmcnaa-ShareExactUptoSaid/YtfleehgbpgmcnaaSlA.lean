/- A small logic of its own over the walk's rules: what slots hold (a part of the frame), what blocks the call owns, what blocks stay as they are. -/
import Derived.CallsIn
import Derived.OrdersIn
import Derived.TacticsIn
import Derived.RangeFuncIn
import Derived.RangeFuncLeaves
import Derived.Laws.World
import Derived.Laws.Sem
set_option linter.unusedVariables false
namespace Go.Sl
open Go

/-! ### the fence -/
def FF (r : Option Nat) : Fence := { fn := fun _ => True, depth := none, alive := false, round := r }
theorem FF_room (r : Option Nat) (n : Nat) : (FF r).room n := fun _ h => by simp [FF] at h
theorem FF_none : FF none = Fence.wide := rfl
theorem callsIn_FF {r : Option Nat} {n : Nat} {P : Program} {f : FuncId} {args : Array Value} {w : World} {R : Ending → World → Prop} :
    CallsIn (FF r) n P f args w R ↔ Calls P f args w R :=
  ⟨fun h => (callsIn_wide (n := 0)).1 ⟨trivial, fun cs _ => h.2 cs (FF_room _ _)⟩, fun h => ⟨trivial, fun cs _ => ((callsIn_wide (n := 0)).2 h).2 cs (room_wide _)⟩⟩

/-! ### one operation -/
def opWp (P : Program) (o : Oper) (a : Act) (w : World) (K : Act → World → Prop) : Prop :=
  match (execOp a.eval o).run P w with
  | .ok (.value v) w' => K (a.put o.dst v) w'
  | .ok .skip w' => K (a.put o.dst undef) w'
  | .ok (.enter f args) w' => Calls P f args w' (fun e w'' => ∃ v, e = .returned v ∧ K (a.put o.dst v) w'')
  | .ok (.round l f tmps assign body) w' => RoundIn Fence.wide 0 P l f tmps assign body w' (fun e w'' => ∃ v, e = .returned v ∧ K (a.put o.dst v) w'')
  | _ => False

def notDefer (o : Oper) : Bool := match o.op with | .defer _ => false | _ => true
theorem notDefer_ne {o : Oper} (h : notDefer o = true) : ∀ c, o.op ≠ .defer c := by
  intro c hc; simp [notDefer, hc] at h

theorem opWp_mono {P : Program} {o : Oper} {a : Act} {w : World} {K K' : Act → World → Prop} (hK : ∀ a w, K a w → K' a w) (h : opWp P o a w K) : opWp P o a w K' := by
  unfold opWp at *
  generalize (execOp a.eval o).run P w = r at *
  cases r with
  | ok x w' =>
    cases x <;> simp only at h ⊢ <;> first
      | exact hK _ _ h
      | exact h.mono fun e w ⟨v, hv, hk⟩ => ⟨v, hv, hK _ _ hk⟩
  | halt x w' => exact h

theorem opWp_sound {P : Program} {o : Oper} {a : Act} {w : World} {K : Act → World → Prop} {Q : Exit → Act → World → Prop} {r : Option Nat} {n : Nat}
    (hd : notDefer o = true) (h : opWp P o a w K) : o.wpIn (FF r) n P a w K Q := by
  refine ⟨fun _ _ => trivial, ?_⟩
  rw [Oper.semAt_eq _ _ _ (notDefer_ne hd)]
  unfold opWp at h
  split at h
  · rename_i v w' hr; rw [hr]; exact h
  · rename_i w' hr; rw [hr]; exact h
  · rename_i f args w' hr
    rw [hr]
    exact ⟨fun h => by simp [FF] at h, callsIn_FF.2 (h.mono fun e w'' ⟨v, hv, hk⟩ => by subst hv; exact hk)⟩
  · rename_i l f tmps assign body w' hr
    rw [hr]
    exact ⟨fun h => by simp [FF] at h, trivial, fun c cs _ => (h.mono fun e w'' ⟨v, hv, hk⟩ => by subst hv; exact hk).2 c cs (room_wide _)⟩
  · exact h.elim

/-! ### a list of operations -/
def lstWp (P : Program) (ops : Array Oper) : List Oper → Act → World → (Act → World → Prop) → Prop
  | [], a, w, K => K a w
  | o :: rest, a, w, K => if Region.wanted o (yielded ops a.tmps) then opWp P o a w (fun a w => lstWp P ops rest a w K) else lstWp P ops rest (a.put o.dst undef) w K

theorem lstWp_sound {P : Program} {ops : Array Oper} {Q : Exit → Act → World → Prop} {r : Option Nat} {n : Nat} :
    ∀ (l : List Oper) (a : Act) (w : World), l.all notDefer = true → lstWp P ops l a w (Q .normal) → wpListIn (FF r) n P ops Q l a w
  | [], _, _, _, h => h
  | o :: rest, a, w, hd, h => by
    simp only [List.all_cons, Bool.and_eq_true] at hd
    unfold lstWp at h
    unfold wpListIn
    split <;> rename_i hw
    · rw [if_pos hw] at h
      exact opWp_sound hd.1 (opWp_mono (fun a w h => lstWp_sound rest a w hd.2 h) h)
    · rw [if_neg hw] at h
      exact ⟨fun _ _ => trivial, lstWp_sound rest _ _ hd.2 h⟩

theorem lstWp_mono {P : Program} {ops : Array Oper} {K K' : Act → World → Prop} (hK : ∀ a w, K a w → K' a w) : ∀ (l : List Oper) (a : Act) (w : World), lstWp P ops l a w K → lstWp P ops l a w K'
  | [], _, _, h => hK _ _ h
  | o :: rest, a, w, h => by
    unfold lstWp at h ⊢
    split <;> rename_i hw
    · rw [if_pos hw] at h; exact opWp_mono (fun a w h => lstWp_mono hK rest a w h) h
    · rw [if_neg hw] at h; exact lstWp_mono hK rest _ _ h
theorem lstWp_append {P : Program} {ops : Array Oper} {K : Act → World → Prop} : ∀ (l l' : List Oper) (a : Act) (w : World),
    lstWp P ops l a w (fun a w => lstWp P ops l' a w K) → lstWp P ops (l ++ l') a w K
  | [], _, _, _, h => h
  | o :: rest, l', a, w, h => by
    unfold lstWp at h
    simp only [List.cons_append]
    unfold lstWp
    split <;> rename_i hw
    · rw [if_pos hw] at h; exact opWp_mono (fun a w h => lstWp_append rest l' a w h) h
    · rw [if_neg hw] at h; exact lstWp_append rest l' _ _ h

/-! ### what is known of the slots -/
abbrev Env := List (Nat × Value)
def Env.get : Env → Nat → Option Value
  | [], _ => none
  | (i, v) :: e, j => bif Nat.beq i j then some v else Env.get e j
def Env.ev (e : Env) : Operand → Option Value
  | .tmp t => e.get t
  | .const v => some v
  | .global g => some (.pointer (some ⟨g, 0, none⟩))
  | .func f => some (.func (.func f) #[] #[])
def Env.evs (e : Env) : List Operand → Option (List Value)
  | [] => some []
  | x :: xs => match e.ev x, Env.evs e xs with
    | some v, some vs => some (v :: vs)
    | _, _ => none
theorem Env.get_cons (e : Env) (i j : Nat) (v : Value) : Env.get ((i, v) :: e) j = if i = j then some v else e.get j := by
  show (bif Nat.beq i j then some v else Env.get e j) = _
  by_cases h : i = j
  · subst h; simp
  · have : Nat.beq i j = false := by cases hb : Nat.beq i j with | false => rfl | true => exact absurd (Nat.eq_of_beq_eq_true hb) h
    simp [this, h]

/-! ### blocks that the call owns -/
abbrev Hp := List (Nat × Option Nat × Obj)
def Hp.get : Hp → Nat → Option (Option Nat × Obj)
  | [], _ => none
  | (i, x) :: h, j => bif Nat.beq i j then some x else Hp.get h j
theorem Hp.get_cons (h : Hp) (i j : Nat) (x : Option Nat × Obj) : Hp.get ((i, x) :: h) j = if i = j then some x else h.get j := by
  show (bif Nat.beq i j then some x else Hp.get h j) = _
  by_cases e : i = j
  · subst e; simp
  · have : Nat.beq i j = false := by cases hb : Nat.beq i j with | false => rfl | true => exact absurd (Nat.eq_of_beq_eq_true hb) e
    simp [this, e]
/-- block b stands in h -/
def Hp.has (h : Hp) (b : Nat) : Prop := ∃ t o, h.get t = some (some b, o)

/-! ### blocks that stay as they are -/
abbrev Imm := Nat → Option Obj
def Imm.le (G G' : Imm) : Prop := ∀ b o, G b = some o → G' b = some o
theorem Imm.le_refl (G : Imm) : G.le G := fun _ _ h => h
theorem Imm.le_trans {A B C : Imm} (h : A.le B) (k : B.le C) : A.le C := fun b o x => k b o (h b o x)

/-- what lies in memory -/
structure HoldH (H : Hp) (G : Imm) (w : World) : Prop where
  own : ∀ t b o, H.get t = some (some b, o) → w.heap[b]? = some o
  one : ∀ t t' b o o', H.get t = some (some b, o) → H.get t' = some (some b, o') → t = t'
  imm : ∀ b o, G b = some o → w.heap[b]? = some o
  off : ∀ t b o, H.get t = some (some b, o) → G b = none

/-- how a world comes of another: blocks of X alone may have turned, new ones may lie behind -/
structure Upd (X : Nat → Prop) (w w' : World) : Prop where
  os : w'.os = w.os
  tape : w'.tape = w.tape
  output : w'.output = w.output
  size : w.heap.size ≤ w'.heap.size
  same : ∀ k, k < w.heap.size → ¬ X k → w'.heap[k]? = w.heap[k]?
theorem Upd.refl (X : Nat → Prop) (w : World) : Upd X w w := ⟨rfl, rfl, rfl, Nat.le_refl _, fun _ _ _ => rfl⟩
theorem Upd.trans {X : Nat → Prop} {a b c : World} (h : Upd X a b) (k : Upd X b c) : Upd X a c :=
  ⟨k.os.trans h.os, k.tape.trans h.tape, k.output.trans h.output, Nat.le_trans h.size k.size, fun i hi hx => (k.same i (Nat.lt_of_lt_of_le hi h.size) hx).trans (h.same i hi hx)⟩
theorem Upd.mono {X Y : Nat → Prop} {a b : World} (h : Upd X a b) (hx : ∀ k, k < a.heap.size → X k → Y k) : Upd Y a b :=
  ⟨h.os, h.tape, h.output, h.size, fun i hi hy => h.same i hi (fun x => hy (hx i hi x))⟩
theorem alloc_old (w : World) (o : Obj) (k : Nat) (hk : k < w.heap.size) : (w.alloc o).heap[k]? = w.heap[k]? := by
  show (w.heap.push o)[k]? = _
  rw [Array.getElem?_push, if_neg (Nat.ne_of_lt hk)]
theorem alloc_new (w : World) (o : Obj) : (w.alloc o).heap[w.heap.size]? = some o := by
  show (w.heap.push o)[w.heap.size]? = _
  rw [Array.getElem?_push, if_pos rfl]
theorem Upd.alloc {X : Nat → Prop} {w0 w : World} (h : Upd X w0 w) (o : Obj) : Upd X w0 (w.alloc o) :=
  h.trans ⟨rfl, rfl, rfl, by simp, fun k hk _ => alloc_old w o k hk⟩
theorem Upd.drew {X : Nat → Prop} {w0 w : World} (h : Upd X w0 w) : Upd X w0 w.drew := h.trans ⟨rfl, rfl, rfl, Nat.le_refl _, fun _ _ _ => rfl⟩

/-- the walk's ground: how many slots, the world in which the call began, what of it may be written -/
structure Bs where
  n : Nat
  W : World
  X : Nat → Prop
  G0 : Imm
/-- what is known -/
structure St where
  e : Env
  D : List Deferred
  H : Hp
  G : Imm

structure Hold (B : Bs) (S : St) (a : Act) (w : World) : Prop where
  size : a.tmps.size = B.n
  defers : a.defers = S.D
  env : ∀ i v, S.e.get i = some v → a.tmps[i]? = some v
  mem : HoldH S.H S.G w
  upd : Upd B.X B.W w
  mine : ∀ t b o, S.H.get t = some (some b, o) → B.W.heap.size ≤ b ∨ B.X b
  le : B.G0.le S.G
  new : ∀ b, S.G b ≠ none → B.G0 b = none → B.W.heap.size ≤ b ∨ B.X b

theorem Hold.eval {B : Bs} {S : St} {a : Act} {w : World} (h : Hold B S a w) {x : Operand} {v : Value} (hx : S.e.ev x = some v) : a.eval x = v := by
  cases x with
  | tmp t =>
    have := h.env t v hx
    simp [Act.eval, this]
  | const u => simpa [Env.ev, Act.eval] using hx
  | global g => simpa [Env.ev, Act.eval] using hx
  | func f => simpa [Env.ev, Act.eval] using hx
theorem Hold.evals {B : Bs} {S : St} {a : Act} {w : World} (h : Hold B S a w) : ∀ {xs : List Operand} {vs : List Value}, S.e.evs xs = some vs → xs.map a.eval = vs
  | [], vs, hx => by simp [Env.evs] at hx; simp [← hx]
  | x :: xs, vs, hx => by
    unfold Env.evs at hx
    split at hx
    · rename_i v us h1 h2
      simp only [Option.some.injEq] at hx
      subst hx
      simp [h.eval h1, h.evals h2]
    · cases hx
theorem Hold.args {B : Bs} {S : St} {a : Act} {w : World} (h : Hold B S a w) {xs : Array Operand} {vs : List Value} (hx : S.e.evs xs.toList = some vs) : xs.map a.eval = vs.toArray := by
  rw [← h.evals hx, ← Array.toList_map]

theorem Hold.put {B : Bs} {e : Env} {D : List Deferred} {H : Hp} {G : Imm} {a : Act} {w : World} (h : Hold B ⟨e, D, H, G⟩ a w) {d : Nat} (hd : Nat.ble (d + 1) B.n = true) (v : Value) :
    Hold B ⟨(d, v) :: e, D, H, G⟩ (a.put (some d) v) w := by
  have hd' : d < a.tmps.size := by rw [h.size]; exact Nat.le_of_ble_eq_true hd
  refine ⟨by rw [← h.size]; exact Array.size_setIfInBounds, h.defers, ?_, h.mem, h.upd, h.mine, h.le, h.new⟩
  intro i u hu
  rw [Env.get_cons] at hu
  have hh : (a.put (some d) v).tmps[i]? = if d = i then (if d < a.tmps.size then some v else none) else a.tmps[i]? := by
    show (a.tmps.setIfInBounds d v)[i]? = _
    rw [Array.getElem?_setIfInBounds]
  rw [hh]
  by_cases hi : d = i
  · rw [if_pos hi] at hu ⊢; rw [if_pos hd']; exact hu
  · rw [if_neg hi] at hu ⊢; exact h.env i u hu
theorem Hold.putNone {B : Bs} {S : St} {a : Act} {w : World} (h : Hold B S a w) (v : Value) : Hold B S (a.put none v) w := h
/-- forget -/
theorem Hold.weaken {B : Bs} {e e' : Env} {D : List Deferred} {H H' : Hp} {G : Imm} {a : Act} {w : World} (h : Hold B ⟨e, D, H, G⟩ a w)
    (he : ∀ i v, e'.get i = some v → e.get i = some v) (hH : ∀ t x, H'.get t = some x → H.get t = some x) : Hold B ⟨e', D, H', G⟩ a w :=
  ⟨h.size, h.defers, fun i v x => h.env i v (he i v x), ⟨fun t b o x => h.mem.own t b o (hH _ _ x), fun t t' b o o' x y => h.mem.one t t' b o o' (hH _ _ x) (hH _ _ y), h.mem.imm, fun t b o x => h.mem.off t b o (hH _ _ x)⟩,
    h.upd, fun t b o x => h.mine t b o (hH _ _ x), h.le, h.new⟩

theorem HoldH.lt {H : Hp} {G : Imm} {w : World} (h : HoldH H G w) {t b : Nat} {o : Obj} (ht : H.get t = some (some b, o)) : b < w.heap.size :=
  (Array.getElem?_eq_some_iff.1 (h.own t b o ht)).1
theorem HoldH.ltG {H : Hp} {G : Imm} {w : World} (h : HoldH H G w) {b : Nat} {o : Obj} (ht : G b = some o) : b < w.heap.size :=
  (Array.getElem?_eq_some_iff.1 (h.imm b o ht)).1

/-- nothing that is known turns -/
theorem HoldH.grow {H : Hp} {G : Imm} {w w' : World} (h : HoldH H G w) (hs : ∀ k, k < w.heap.size → w'.heap[k]? = w.heap[k]?) : HoldH H G w' :=
  ⟨fun t b o x => (hs b (h.lt x)).trans (h.own t b o x), h.one, fun b o x => (hs b (h.ltG x)).trans (h.imm b o x), h.off⟩
theorem Hold.grow {B : Bs} {S : St} {a : Act} {w w' : World} (h : Hold B S a w) (hu : Upd (fun _ => False) w w') : Hold B S a w' :=
  ⟨h.size, h.defers, h.env, h.mem.grow (fun k hk => hu.same k hk id), h.upd.trans (hu.mono (fun _ _ x => x.elim)), h.mine, h.le, h.new⟩
theorem Hold.drew {B : Bs} {S : St} {a : Act} {w : World} (h : Hold B S a w) : Hold B S a { w with drawn := w.drawn + 1 } := h.grow ⟨rfl, rfl, rfl, Nat.le_refl _, fun _ _ _ => rfl⟩

/-- a new block, under the tag t -/
theorem Hold.alloc {B : Bs} {e : Env} {D : List Deferred} {H : Hp} {G : Imm} {a : Act} {w : World} (h : Hold B ⟨e, D, H, G⟩ a w) (t : Nat) (o : Obj) :
    Hold B ⟨e, D, (t, some w.heap.size, o) :: H, G⟩ a (w.alloc o) := by
  have hold : ∀ k, k < w.heap.size → (w.alloc o).heap[k]? = w.heap[k]? := fun k hk => alloc_old w o k hk
  have hnew : (w.alloc o).heap[w.heap.size]? = some o := alloc_new w o
  have hG : G w.heap.size = none := by
    cases hg : G w.heap.size with
    | none => rfl
    | some x => exact absurd (h.mem.ltG hg) (Nat.lt_irrefl _)
  refine ⟨h.size, h.defers, h.env, ⟨?_, ?_, (h.mem.grow hold).imm, ?_⟩, h.upd.alloc o, ?_, h.le, h.new⟩
  · intro t' b o' x
    rw [Hp.get_cons] at x
    split at x
    · simp only [Option.some.injEq, Prod.mk.injEq] at x; obtain ⟨rfl, rfl⟩ := x; exact hnew
    · exact (h.mem.grow hold).own t' b o' x
  · intro t1 t2 b o1 o2 x y
    rw [Hp.get_cons] at x y
    split at x <;> split at y
    · omega
    · simp only [Option.some.injEq, Prod.mk.injEq] at x; obtain ⟨rfl, rfl⟩ := x; exact absurd (h.mem.lt y) (Nat.lt_irrefl _)
    · simp only [Option.some.injEq, Prod.mk.injEq] at y; obtain ⟨rfl, rfl⟩ := y; exact absurd (h.mem.lt x) (Nat.lt_irrefl _)
    · exact h.mem.one _ _ _ _ _ x y
  · intro t' b o' x
    rw [Hp.get_cons] at x
    split at x
    · simp only [Option.some.injEq, Prod.mk.injEq] at x; obtain ⟨rfl, rfl⟩ := x; exact hG
    · exact h.mem.off t' b o' x
  · intro t' b o' x
    rw [Hp.get_cons] at x
    split at x
    · simp only [Option.some.injEq, Prod.mk.injEq] at x; obtain ⟨rfl, rfl⟩ := x; exact .inl h.upd.size
    · exact h.mine t' b o' x

/-- the block of the tag t holds something else -/
theorem Hold.set {B : Bs} {e : Env} {D : List Deferred} {H : Hp} {G : Imm} {a : Act} {w w' : World} (h : Hold B ⟨e, D, H, G⟩ a w) {t b : Nat} {o o' : Obj} (ht : H.get t = some (some b, o))
    (hu : Upd (· = b) w w') (hb : w'.heap[b]? = some o') : Hold B ⟨e, D, (t, some b, o') :: H, G⟩ a w' := by
  have hl : b < w.heap.size := h.mem.lt ht
  have key : ∀ t' b1 o1, t ≠ t' → H.get t' = some (some b1, o1) → b1 ≠ b := fun t' b1 o1 hne x e => hne (h.mem.one t t' b o o1 ht (e ▸ x))
  refine ⟨h.size, h.defers, h.env, ⟨?_, ?_, ?_, ?_⟩, ?_, ?_, h.le, h.new⟩
  · intro t' b1 o1 x
    rw [Hp.get_cons] at x
    split at x
    · simp only [Option.some.injEq, Prod.mk.injEq] at x; obtain ⟨rfl, rfl⟩ := x; exact hb
    · rename_i hne; rw [hu.same b1 (h.mem.lt x) (key t' b1 o1 hne x)]; exact h.mem.own t' b1 o1 x
  · intro t1 t2 b1 o1 o2 x y
    rw [Hp.get_cons] at x y
    split at x <;> split at y
    · omega
    · rename_i hne; simp only [Option.some.injEq, Prod.mk.injEq] at x; obtain ⟨rfl, rfl⟩ := x; exact absurd rfl (key _ _ _ hne y)
    · rename_i hne _; simp only [Option.some.injEq, Prod.mk.injEq] at y; obtain ⟨rfl, rfl⟩ := y; exact absurd rfl (key _ _ _ hne x)
    · exact h.mem.one _ _ _ _ _ x y
  · intro b1 o1 x
    have hne : b1 ≠ b := fun e => by have h1 : G b = none := h.mem.off t b o ht; have h2 : G b1 = some o1 := x; rw [e, h1] at h2; cases h2
    rw [hu.same b1 (h.mem.ltG x) hne]; exact h.mem.imm b1 o1 x
  · intro t' b1 o1 x
    rw [Hp.get_cons] at x
    split at x
    · simp only [Option.some.injEq, Prod.mk.injEq] at x; obtain ⟨rfl, rfl⟩ := x; exact h.mem.off t b o ht
    · exact h.mem.off t' b1 o1 x
  · refine ⟨hu.os.trans h.upd.os, hu.tape.trans h.upd.tape, hu.output.trans h.upd.output, Nat.le_trans h.upd.size hu.size, fun k hk hx => ?_⟩
    have hne : k ≠ b := fun e => by
      rcases h.mine t b o ht with h1 | h1
      · omega
      · exact hx (e ▸ h1)
    exact (hu.same k (Nat.lt_of_lt_of_le hk h.upd.size) hne).trans (h.upd.same k hk hx)
  · intro t' b1 o1 x
    rw [Hp.get_cons] at x
    split at x
    · simp only [Option.some.injEq, Prod.mk.injEq] at x; obtain ⟨rfl, rfl⟩ := x; exact h.mine t b o ht
    · exact h.mine t' b1 o1 x

/-! ### the judgements -/
def Wl (P : Program) (ops : Array Oper) (l : List Oper) (B : Bs) (S : St) (K : Act → World → Prop) : Prop := ∀ a w, Hold B S a w → lstWp P ops l a w K
def Wc (r : Option Nat) (P : Program) (c : Code) (B : Bs) (S : St) (Q : Exit → Act → World → Prop) : Prop := ∀ a w, Hold B S a w → c.wpIn (FF r) 0 P Q a w
/-- the walk arrives -/
def Ar (Q : Exit → Act → World → Prop) (x : Exit) (B : Bs) (S : St) : Prop := ∀ a w, Hold B S a w → Q x a w

section code
variable {r : Option Nat} {P : Program} {B : Bs} {S : St} {Q : Exit → Act → World → Prop}
theorem Wc.region {id : Nat} {l : List Oper} (hd : l.all notDefer = true) (h : Wl P l.toArray l B S (Q .normal)) : Wc r P (.region id l.toArray false) B S Q :=
  fun a w hh => wpIn_region_lit (lstWp_sound l a w hd (h a w hh))
theorem Wc.seq {x y : Code} (h : Wc r P x B S (Exit.then (y.wpIn (FF r) 0 P Q) Q)) : Wc r P (.seq x y) B S Q := fun a w hh => wpIn_seq (h a w hh)
theorem Wc.skip (h : Ar Q .normal B S) : Wc r P .skip B S Q := fun a w hh => wpIn_skip (h a w hh)
theorem Wc.label {l : Nat} (h : Ar Q .normal B S) : Wc r P (.label l) B S Q := fun a w hh => wpIn_label (h a w hh)
theorem Wc.exit {id : Nat} (h : Ar Q (.exit id) B S) : Wc r P (.exit id) B S Q := fun a w hh => wpIn_exit (h a w hh)
theorem Wc.ret (h : Ar Q .ret B S) : Wc r P .ret B S Q := fun a w hh => wpIn_ret (h a w hh)
theorem Wc.block {id : Nat} {c : Code} (h : Wc r P c B S (Exit.inBlock id Q)) : Wc r P (.block id c) B S Q := fun a w hh => wpIn_block (h a w hh)
theorem Wc.ite {c : Operand} {x y : Code} {t : Bool} (hc : S.e.ev c = some (.bool t)) (ht : t = true → Wc r P x B S Q) (hf : t = false → Wc r P y B S Q) : Wc r P (.cond c x y) B S Q :=
  fun a w hh => wpIn_cond_split (hh.eval hc) (fun e => ht e a w hh) (fun e => hf e a w hh)
theorem Wc.cond {c : Operand} {x y : Code} {p : Prop} [Decidable p] (hc : S.e.ev c = some (.bool (decide p))) (ht : p → Wc r P x B S Q) (hf : ¬ p → Wc r P y B S Q) : Wc r P (.cond c x y) B S Q :=
  Wc.ite hc (fun h => ht (of_decide_eq_true h)) (fun h => hf (of_decide_eq_false h))
theorem Wc.condT {c : Operand} {x y : Code} (hc : S.e.ev c = some (.bool true)) (ht : Wc r P x B S Q) : Wc r P (.cond c x y) B S Q := Wc.ite hc (fun _ => ht) (fun h => by cases h)
theorem Wc.condF {c : Operand} {x y : Code} (hc : S.e.ev c = some (.bool false)) (hf : Wc r P y B S Q) : Wc r P (.cond c x y) B S Q := Wc.ite hc (fun h => by cases h) (fun _ => hf)

theorem Wl.nil {ops : Array Oper} {K : Act → World → Prop} (h : ∀ a w, Hold B S a w → K a w) : Wl P ops [] B S K := h
theorem Wl.done {ops : Array Oper} {x : Exit} (h : Ar Q x B S) : Wl P ops [] B S (Q x) := h
/-- on with what stands behind -/
theorem Ar.next {y : Code} (h : Wc r P y B S Q) : Ar (Exit.then (y.wpIn (FF r) 0 P Q) Q) .normal B S := h
theorem Ar.passExit {K : Act → World → Prop} {id : Nat} (h : Ar Q (.exit id) B S) : Ar (Exit.then K Q) (.exit id) B S := h
theorem Ar.passRet {K : Act → World → Prop} (h : Ar Q .ret B S) : Ar (Exit.then K Q) .ret B S := h
theorem Ar.outNormal {id : Nat} (h : Ar Q .normal B S) : Ar (Exit.inBlock id Q) .normal B S := h
theorem Ar.outRet {id : Nat} (h : Ar Q .ret B S) : Ar (Exit.inBlock id Q) .ret B S := h
theorem Ar.here {id : Nat} (h : Ar Q .normal B S) : Ar (Exit.inBlock id Q) (.exit id) B S := fun a w hh => by simp only [Exit.inBlock, if_true]; exact h a w hh
theorem Ar.outExit {id id' : Nat} (hne : Nat.beq id' id = false) (h : Ar Q (.exit id') B S) : Ar (Exit.inBlock id Q) (.exit id') B S := fun a w hh => by
  have : id' ≠ id := fun e => by subst e; simp at hne
  simp only [Exit.inBlock, this, if_false]; exact h a w hh

/-! ### a loop -/
/-- a slot's and a tag's facts, one by one -/
def Env.sub (e : Env) : Env → Prop
  | [] => True
  | (i, v) :: l => e.get i = some v ∧ Env.sub e l
def Hp.sub (h : Hp) : Hp → Prop
  | [] => True
  | (i, x) :: l => h.get i = some x ∧ Hp.sub h l
theorem Env.sub_get {e : Env} : ∀ {l : Env}, e.sub l → ∀ i v, l.get i = some v → e.get i = some v
  | [], _, i, v, h => by simp [Env.get] at h
  | (j, u) :: l, hs, i, v, h => by
    rw [Env.get_cons] at h
    split at h
    · rename_i hj; subst hj; simp only [Option.some.injEq] at h; subst h; exact hs.1
    · exact Env.sub_get hs.2 i v h
theorem Hp.sub_get {e : Hp} : ∀ {l : Hp}, e.sub l → ∀ i v, l.get i = some v → e.get i = some v
  | [], _, i, v, h => by simp [Hp.get] at h
  | (j, u) :: l, hs, i, v, h => by
    rw [Hp.get_cons] at h
    split at h
    · rename_i hj; subst hj; simp only [Option.some.injEq] at h; subst h; exact hs.1
    · exact Hp.sub_get hs.2 i v h
theorem Hold.sub {e e' : Env} {D : List Deferred} {H H' : Hp} {G : Imm} {a : Act} {w : World} (h : Hold B ⟨e, D, H, G⟩ a w) (he : e.sub e') (hH : H.sub H') : Hold B ⟨e', D, H', G⟩ a w :=
  h.weaken (Env.sub_get he) (Hp.sub_get hH)

/-- a loop: the family of what is known at a round's head, by an index; each round comes to a lesser one -/
def Again {ι : Type} (B : Bs) (I : ι → St) (φ : ι → Prop) (μ : ι → Nat) (m : Nat) : Act → World → Prop := fun a w => ∃ j, φ j ∧ μ j < m ∧ Hold B (I j) a w
theorem Wc.loopS {ι : Type} {c : Code} (I : ι → St) (φ : ι → Prop) (μ : ι → Nat) (i0 : ι) (h0 : φ i0) (hs : ∀ a w, Hold B S a w → Hold B (I i0) a w)
    (hb : ∀ i, φ i → Wc r P c B (I i) (Exit.then (Again B I φ μ (μ i)) Q)) : Wc r P (.loop c) B S Q := by
  intro a w hh b k cs hro hb' hr
  have key : ∀ m i a w, μ i = m → φ i → Hold B (I i) a w →
      ∃ e a' w', Q e a' w' ∧ ArrivesIn (Machine.fenced P (FF r)) P (lone (b.atR a (.code c :: .inLoop c :: k)) cs w) b k cs e a' w' := by
    intro m
    induction m using Nat.strongRecOn with
    | _ m ih =>
      intro i a w hm hφ hI
      obtain ⟨x, a₁, w₁, hq, harr⟩ := hb i hφ a w hI b (.inLoop c :: k) cs hro hb' hr
      cases x with
      | normal =>
        obtain ⟨j, hj, hlt, hI'⟩ := hq
        obtain ⟨e₂, a₂, w₂, hq₂, harr₂⟩ := ih (μ j) (hm ▸ hlt) j a₁ w₁ rfl hj hI'
        exact ⟨e₂, a₂, w₂, hq₂, .of_steps (StepsIn.trans harr (.one (fenced_calm hb' hr rfl) stepR_inLoop)) harr₂⟩
      | exit id => exact ⟨_, a₁, w₁, hq, .pass (x := .inLoop c) rfl (fun _ _ => .inl (by simp)) harr⟩
      | goto l => exact ⟨_, a₁, w₁, hq, .pass (x := .inLoop c) rfl (fun _ _ => .inl (by simp)) harr⟩
      | ret => exact ⟨_, a₁, w₁, hq, .pass (x := .inLoop c) rfl (fun _ _ => .inl (by simp)) harr⟩
      | panic ch => exact ⟨_, a₁, w₁, hq, .pass (x := .inLoop c) rfl (fun _ _ => .inl (by simp)) harr⟩
      | outgrown => exact ⟨_, a₁, w₁, hq, .pass (x := .inLoop c) rfl (fun _ _ => .inl (by simp)) harr⟩
  obtain ⟨e, a', w', hq, harr⟩ := key _ i0 a w rfl h0 (hs a w hh)
  exact ⟨e, a', w', hq, .of_steps (.one (fenced_calm hb' hr rfl) stepR_loop) harr⟩
/-- the same, what is known at the first head being a part of what is known ahead -/
theorem Wc.loop {ι : Type} {c : Code} {e : Env} {D : List Deferred} {H : Hp} {G : Imm} (I : ι → Env × Hp) (φ : ι → Prop) (μ : ι → Nat) (i0 : ι) (h0 : φ i0)
    (he : e.sub (I i0).1) (hH : H.sub (I i0).2)
    (hb : ∀ i, φ i → Wc r P c B ⟨(I i).1, D, (I i).2, G⟩ (Exit.then (Again B (fun i => ⟨(I i).1, D, (I i).2, G⟩) φ μ (μ i)) Q)) : Wc r P (.loop c) B ⟨e, D, H, G⟩ Q :=
  Wc.loopS (fun i => ⟨(I i).1, D, (I i).2, G⟩) φ μ i0 h0 (fun _ _ h => h.sub he hH) hb
/-- the round's end -/
theorem Ar.again {ι : Type} {I : ι → St} {φ : ι → Prop} {μ : ι → Nat} {m : Nat} {e : Env} {D : List Deferred} {H : Hp} {G : Imm} (j : ι) (hφ : φ j) (hμ : μ j < m)
    (hI : I j = ⟨(I j).e, D, (I j).H, G⟩) (he : e.sub (I j).e) (hH : H.sub (I j).H) : Ar (Exit.then (Again B I φ μ m) Q) .normal B ⟨e, D, H, G⟩ :=
  fun a w hh => ⟨j, hφ, hμ, by rw [hI]; exact hh.sub he hH⟩
end code
end Go.Sl
