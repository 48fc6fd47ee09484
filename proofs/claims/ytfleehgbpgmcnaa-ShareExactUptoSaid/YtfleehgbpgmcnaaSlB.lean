/- The rules on single operations. -/
import Derived.Test.YtfleehgbpgmcnaaSlA
import Derived.WalkKit
set_option linter.unusedVariables false
namespace Go.Sl
open Go

/-! ### facts on types, each closed -/
def oneB (P : Program) (t : TypeId) : Bool :=
  (match P.underlying t with | some (.struct _) | some (.array _ _) | none => false | some _ => true) && ((P.info? t).map (·.size) == some 1)
def aggB (P : Program) (t k : Nat) : Bool :=
  (match P.underlying t with | some (.struct _) | some (.array _ _) => true | _ => false) && ((P.info? t).map (·.size) == some k)
section types
variable {P : Program} {t k : Nat} (w : World)
theorem run_sizeOf {n : Nat} (h : (P.info? t).map (·.size) = some n) : (sizeOf t).run P w = .ok n w := by
  cases hi : P.info? t with
  | none => simp [hi] at h
  | some i => simp [hi] at h; simp [sizeOf, typeInfo, hi, h]
theorem run_isAgg_one (h : oneB P t = true) : (isAgg t).run P w = .ok false w := by
  unfold oneB at h
  cases hu : P.underlying t with
  | none => simp [hu] at h
  | some d => cases d <;> simp [hu] at h <;> simp [isAgg, run_underlying hu]
theorem run_isAgg_agg (h : aggB P t k = true) : (isAgg t).run P w = .ok true w := by
  unfold aggB at h
  cases hu : P.underlying t with
  | none => simp [hu] at h
  | some d => cases d <;> simp [hu] at h <;> simp [isAgg, run_underlying hu]
theorem size_one (h : oneB P t = true) : (P.info? t).map (·.size) = some 1 := by
  unfold oneB at h; simp at h; simpa using h.2
theorem size_agg (h : aggB P t k = true) : (P.info? t).map (·.size) = some k := by
  unfold aggB at h; simp at h; simpa using h.2
end types

/-! ### reading blocks -/
theorem cell_of_block {w : World} {b off : Nat} {cs : List Value} {ty : TypeId} {fz : Nat × Nat} (h : w.heap[b]? = some (.cells cs.toArray ty fz)) :
    w.cell? ⟨b, off, none⟩ = cs[off]? := by simp [World.cell?, h]
def Imm.cell (G : Imm) (b off : Nat) : Option Value := match G b with | some (.cells c _ _) => c[off]? | _ => none
def Imm.row (G : Imm) (b off : Nat) (vs : List Value) : Prop := ∀ i v, vs[i]? = some v → G.cell b (off + i) = some v
theorem HoldH.cellG {H : Hp} {G : Imm} {w : World} (h : HoldH H G w) {b off : Nat} {v : Value} (hc : G.cell b off = some v) : w.cell? ⟨b, off, none⟩ = some v := by
  unfold Imm.cell at hc
  split at hc
  · rename_i c ty fz hb
    simp [World.cell?, h.imm b _ hb, hc]
  · cases hc
theorem Imm.cell_le {G G' : Imm} (h : G.le G') {b off : Nat} {v : Value} (hc : G.cell b off = some v) : G'.cell b off = some v := by
  unfold Imm.cell at *
  split at hc
  · rename_i c ty fz hb; rw [h b _ hb]; exact hc
  · cases hc
theorem Imm.row_le {G G' : Imm} (h : G.le G') {b off : Nat} {vs : List Value} (hc : G.row b off vs) : G'.row b off vs := fun i v hv => Imm.cell_le h (hc i v hv)

theorem add_lit (b o n : Nat) : Addr.add ⟨b, o, none⟩ n = ⟨b, o + n, none⟩ := by unfold Addr.add; split <;> simp_all

/-- what an operation that only looks may lean on -/
structure Look (e : Env) (H : Hp) (G : Imm) (a : Act) (w : World) : Prop where
  env : ∀ i v, e.get i = some v → a.tmps[i]? = some v
  mem : HoldH H G w
section look
variable {e : Env} {H : Hp} {G : Imm} {a : Act} {w : World}
theorem Hold.look {B : Bs} {D : List Deferred} (h : Hold B ⟨e, D, H, G⟩ a w) : Look e H G a w := ⟨h.env, h.mem⟩
theorem Look.eval (h : Look e H G a w) {x : Operand} {v : Value} (hx : e.ev x = some v) : a.eval x = v := by
  cases x with
  | tmp t => simp [Act.eval, h.env t v hx]
  | const u => simpa [Env.ev, Act.eval] using hx
  | global g => simpa [Env.ev, Act.eval] using hx
  | func f => simpa [Env.ev, Act.eval] using hx
theorem Look.evals (h : Look e H G a w) : ∀ {xs : List Operand} {vs : List Value}, e.evs xs = some vs → xs.map a.eval = vs
  | [], vs, hx => by simp [Env.evs] at hx; simp [← hx]
  | x :: xs, vs, hx => by
    unfold Env.evs at hx
    split at hx
    · rename_i v us h1 h2
      simp only [Option.some.injEq] at hx
      subst hx
      simp [h.eval h1, h.evals h2]
    · cases hx
theorem Look.args (h : Look e H G a w) {xs : Array Operand} {vs : List Value} (hx : e.evs xs.toList = some vs) : xs.map a.eval = vs.toArray := by
  rw [← h.evals hx, ← Array.toList_map]
end look
/-- an operation that yields a value and leaves the world as it is -/
def Qy (P : Program) (o : Op) (ty : TypeId) (e : Env) (H : Hp) (G : Imm) (v : Value) : Prop :=
  ∀ (a : Act) (w : World) (dst : Option Tmp) (pos : String) (after : Array Edge) (g : Option (Nat × Bool)), Look e H G a w → (execOp a.eval ⟨dst, o, ty, pos, after, g⟩).run P w = .ok (.value v) w

section qy
variable {P : Program} {e : Env} {H : Hp} {G : Imm} {ty : TypeId}
theorem Qy.move {x : Operand} {v : Value} (hx : e.ev x = some v) : Qy P (.move x) ty e H G v := fun a w _ _ _ _ hh => by simp [execOp, hh.eval hx]
theorem Qy.assign {x : Operand} {v : Value} (hx : e.ev x = some v) : Qy P (.assign x) ty e H G v := fun a w _ _ _ _ hh => by simp [execOp, hh.eval hx]
theorem Qy.pick {c x y : Operand} {b : Bool} {v : Value} (hc : e.ev c = some (.bool b)) (hv : e.ev (bif b then x else y) = some v) : Qy P (.pick c x y) ty e H G v := fun a w _ _ _ _ hh => by
  cases b
  · simp only [cond_false] at hv; simp [execOp, asBool, hh.eval hc, hh.eval hv]
  · simp only [cond_true] at hv; simp [execOp, asBool, hh.eval hc, hh.eval hv]
theorem Qy.pickAnd {c x y : Operand} {p q : Prop} [Decidable p] [Decidable q] (hc : e.ev c = some (.bool (decide p))) (hx : e.ev x = some (.bool (decide q))) (hy : e.ev y = some (.bool false)) :
    Qy P (.pick c x y) ty e H G (.bool (decide (p ∧ q))) := fun a w _ _ _ _ hh => by
  by_cases hp : p <;> simp [execOp, asBool, hh.eval hc, hh.eval hx, hh.eval hy, hp]
theorem Qy.not {t : TypeId} {x : Operand} {b : Bool} (hx : e.ev x = some (.bool b)) : Qy P (.unOp .not t x) ty e H G (.bool (!b)) := fun a w _ _ _ _ hh => by simp [execOp, Op.unary, hh.eval hx]
theorem Qy.notD {t : TypeId} {x : Operand} {p : Prop} [Decidable p] (hx : e.ev x = some (.bool (decide p))) : Qy P (.unOp .not t x) ty e H G (.bool (decide (¬ p))) := fun a w _ _ _ _ hh => by simp [execOp, Op.unary, hh.eval hx]
section cmp
variable {t t' : TypeId} {x y : Operand} {k : IntKind} {m n : Int} (hx : e.ev x = some (.int k m)) (hy : e.ev y = some (.int k n))
include hx hy
theorem Qy.eql : Qy P (.binOp .eql t x y t') ty e H G (.bool (decide (m = n))) := fun a w _ _ _ _ hh => by simp [execOp, hh.eval hx, hh.eval hy, binOp, Op.intCmp, eqGuard]; rfl
theorem Qy.neq : Qy P (.binOp .neq t x y t') ty e H G (.bool (decide (m ≠ n))) := fun a w _ _ _ _ hh => by
  simp only [execOp, hh.eval hx, hh.eval hy, binOp, Op.intCmp, eqGuard]
  by_cases h : m = n <;> simp [h]
theorem Qy.lss : Qy P (.binOp .lss t x y t') ty e H G (.bool (decide (m < n))) := fun a w _ _ _ _ hh => by simp [execOp, hh.eval hx, hh.eval hy, binOp, Op.intCmp, eqGuard]
theorem Qy.leq : Qy P (.binOp .leq t x y t') ty e H G (.bool (decide (m ≤ n))) := fun a w _ _ _ _ hh => by simp [execOp, hh.eval hx, hh.eval hy, binOp, Op.intCmp, eqGuard]
theorem Qy.gtr : Qy P (.binOp .gtr t x y t') ty e H G (.bool (decide (n < m))) := fun a w _ _ _ _ hh => by simp [execOp, hh.eval hx, hh.eval hy, binOp, Op.intCmp, eqGuard]
theorem Qy.geq : Qy P (.binOp .geq t x y t') ty e H G (.bool (decide (n ≤ m))) := fun a w _ _ _ _ hh => by simp [execOp, hh.eval hx, hh.eval hy, binOp, Op.intCmp, eqGuard]
theorem Qy.addW : Qy P (.binOp .add t x y t') ty e H G (.int k (k.wrap (m + n))) := fun a w _ _ _ _ hh => by simp [execOp, hh.eval hx, hh.eval hy, binOp, Op.intArith, eqGuard]
theorem Qy.subW : Qy P (.binOp .sub t x y t') ty e H G (.int k (k.wrap (m - n))) := fun a w _ _ _ _ hh => by simp [execOp, hh.eval hx, hh.eval hy, binOp, Op.intArith, eqGuard]
theorem Qy.mulW : Qy P (.binOp .mul t x y t') ty e H G (.int k (k.wrap (m * n))) := fun a w _ _ _ _ hh => by simp [execOp, hh.eval hx, hh.eval hy, binOp, Op.intArith, eqGuard]
theorem Qy.quoW (h0 : n ≠ 0) : Qy P (.binOp .quo t x y t') ty e H G (.int k (k.wrap (m.tdiv n))) := fun a w _ _ _ _ hh => by simp [execOp, hh.eval hx, hh.eval hy, binOp, Op.intDiv, eqGuard, h0]
theorem Qy.rem (h0 : n ≠ 0) : Qy P (.binOp .rem t x y t') ty e H G (.int k (m.tmod n)) := fun a w _ _ _ _ hh => by simp [execOp, hh.eval hx, hh.eval hy, binOp, Op.intDiv, eqGuard, h0]
theorem Qy.andW : Qy P (.binOp .and t x y t') ty e H G (.int k (bits .and k m n)) := fun a w _ _ _ _ hh => by simp [execOp, hh.eval hx, hh.eval hy, binOp, eqGuard]; rfl
theorem Qy.orW : Qy P (.binOp .or t x y t') ty e H G (.int k (bits .or k m n)) := fun a w _ _ _ _ hh => by simp [execOp, hh.eval hx, hh.eval hy, binOp, eqGuard]; rfl
end cmp
theorem Qy.shl {t t' : TypeId} {x y : Operand} {k k' : IntKind} {m n : Int} (hx : e.ev x = some (.int k m)) (hy : e.ev y = some (.int k' n)) (h0 : 0 ≤ n) :
    Qy P (.binOp .shl t x y t') ty e H G (.int k (k.wrap (m * 2 ^ (min n.toNat k.bits)))) := fun a w _ _ _ _ hh => by
  simp [execOp, hh.eval hx, hh.eval hy, binOp, Op.shift, eqGuard, Int.not_lt.2 h0]
theorem Qy.shr {t t' : TypeId} {x y : Operand} {k k' : IntKind} {m n : Int} (hx : e.ev x = some (.int k m)) (hy : e.ev y = some (.int k' n)) (h0 : 0 ≤ n) :
    Qy P (.binOp .shr t x y t') ty e H G (.int k (m.fdiv (2 ^ (min n.toNat k.bits)))) := fun a w _ _ _ _ hh => by
  simp [execOp, hh.eval hx, hh.eval hy, binOp, Op.shift, eqGuard, Int.not_lt.2 h0]
section arith64
variable {t t' : TypeId} {x y : Operand} {m n : Int} (hx : e.ev x = some (.int .i64 m)) (hy : e.ev y = some (.int .i64 n))
include hx hy
theorem Qy.add (hb : -9223372036854775808 ≤ m + n ∧ m + n ≤ 9223372036854775807) : Qy P (.binOp .add t x y t') ty e H G (.int .i64 (m + n)) := by
  have := Qy.addW (P := P) (H := H) (G := G) (ty := ty) (t := t) (t' := t') hx hy; rwa [IntWalk.i64_in _ hb] at this
theorem Qy.sub (hb : -9223372036854775808 ≤ m - n ∧ m - n ≤ 9223372036854775807) : Qy P (.binOp .sub t x y t') ty e H G (.int .i64 (m - n)) := by
  have := Qy.subW (P := P) (H := H) (G := G) (ty := ty) (t := t) (t' := t') hx hy; rwa [IntWalk.i64_in _ hb] at this
theorem Qy.mul (hb : -9223372036854775808 ≤ m * n ∧ m * n ≤ 9223372036854775807) : Qy P (.binOp .mul t x y t') ty e H G (.int .i64 (m * n)) := by
  have := Qy.mulW (P := P) (H := H) (G := G) (ty := ty) (t := t) (t' := t') hx hy; rwa [IntWalk.i64_in _ hb] at this
theorem Qy.quo (h0 : n ≠ 0) (hb : -9223372036854775808 ≤ m.tdiv n ∧ m.tdiv n ≤ 9223372036854775807) : Qy P (.binOp .quo t x y t') ty e H G (.int .i64 (m.tdiv n)) := by
  have := Qy.quoW (P := P) (H := H) (G := G) (ty := ty) (t := t) (t' := t') hx hy h0; rwa [IntWalk.i64_in _ hb] at this
end arith64
theorem Qy.neg {t : TypeId} {x : Operand} {m : Int} (hx : e.ev x = some (.int .i64 m)) (hb : -9223372036854775807 ≤ m ∧ m ≤ 9223372036854775808) : Qy P (.unOp .neg t x) ty e H G (.int .i64 (-m)) :=
  fun a w _ _ _ _ hh => by simp [execOp, Op.unary, Op.intArith, hh.eval hx, IntWalk.i64_in _ (show -9223372036854775808 ≤ -m ∧ -m ≤ 9223372036854775807 by omega)]
theorem Qy.negW {t : TypeId} {x : Operand} {k : IntKind} {m : Int} (hx : e.ev x = some (.int k m)) : Qy P (.unOp .neg t x) ty e H G (.int k (k.wrap (0 - m))) :=
  fun a w _ _ _ _ hh => by simp [execOp, Op.unary, Op.intArith, hh.eval hx]
theorem Qy.conv {s t : TypeId} {x : Operand} {k k' : IntKind} {m : Int} (hs : (P.underlying s).isSome = true) (ht : P.underlying t = some (.int k')) (hx : e.ev x = some (.int k m)) :
    Qy P (.convert s t x) ty e H G (.int k' (k'.wrap m)) := fun a w _ _ _ _ hh => by
  cases hu : P.underlying s with
  | none => simp [hu] at hs
  | some u => simp [execOp, hh.eval hx, convert, run_underlying hu, run_underlying ht, Conv.intToInt]
/-- '==' of two bools -/
theorem Qy.eqlB {t t' : TypeId} {x y : Operand} {m n : Bool} (ht : P.underlying t = some .bool) (hx : e.ev x = some (.bool m)) (hy : e.ev y = some (.bool n)) :
    Qy P (.binOp .eql t x y t') ty e H G (.bool (decide (m = n))) := fun a w _ _ _ _ hh => by
  have := run_equalIn_bool' (P := P) w 9999 t m n ht
  simp [execOp, hh.eval hx, hh.eval hy, binOp, eqGuard, Op.equal, Op.maxDepth, this]; rfl
theorem Qy.neqB {t t' : TypeId} {x y : Operand} {m n : Bool} (ht : P.underlying t = some .bool) (hx : e.ev x = some (.bool m)) (hy : e.ev y = some (.bool n)) :
    Qy P (.binOp .neq t x y t') ty e H G (.bool (decide (m ≠ n))) := fun a w _ _ _ _ hh => by
  have := run_equalIn_bool' (P := P) w 9999 t m n ht
  simp [execOp, hh.eval hx, hh.eval hy, binOp, eqGuard, Op.equal, Op.maxDepth, this]; cases m <;> cases n <;> rfl

/-! memory -/
/-- where a field stands -/
def FieldAt (P : Program) (s f off : Nat) : Prop := ∀ b o w, (Instr.fieldAt s (.pointer (some ⟨b, o, none⟩)) f).run P w = .ok (.pointer (some ⟨b, o + off, none⟩)) w
theorem Qy.fieldAddr {s f : Nat} {x : Operand} {b o off : Nat} (hf : FieldAt P s f off) (hx : e.ev x = some (.pointer (some ⟨b, o, none⟩))) :
    Qy P (.fieldAddr s x f) ty e H G (.pointer (some ⟨b, o + off, none⟩)) := fun a w _ _ _ _ hh => by simp [execOp, hh.eval hx, hf b o w]
theorem Qy.nilCheck {x : Operand} {ad : Addr} (hx : e.ev x = some (.pointer (some ad))) : Qy P (.nilCheck x) ty e H G (.pointer (some ad)) := fun a w _ _ _ _ hh => by simp [execOp, hh.eval hx]
theorem Qy.nilCheckM {x : Operand} {r : Option Nat} (hx : e.ev x = some (.map r)) : Qy P (.nilCheck x) ty e H G (.map r) := fun a w _ _ _ _ hh => by simp [execOp, hh.eval hx]
theorem Qy.nilCheckF {x : Operand} {f : FuncId} {fs cs : Array Value} (hx : e.ev x = some (.func (.func f) fs cs)) : Qy P (.nilCheck x) ty e H G (.func (.func f) fs cs) := fun a w _ _ _ _ hh => by simp [execOp, hh.eval hx]
theorem Qy.nilCheckY {x : Operand} {f : Nat} {fs cs : Array Value} (hx : e.ev x = some (.func (.yield f) fs cs)) : Qy P (.nilCheck x) ty e H G (.func (.yield f) fs cs) := fun a w _ _ _ _ hh => by simp [execOp, hh.eval hx]
theorem run_loadAt_one {T : TypeId} {ad : Addr} {w : World} {v : Value} (h1 : oneB P T = true) (hc : w.cell? ad = some v) : (Instr.loadAt T (.pointer (some ad))).run P w = .ok v w := by
  simp [Instr.loadAt, Instr.sureAddr, loadVar, run_isAgg_one w h1, hc]
theorem run_loadAt_agg {T k : TypeId} {b off : Nat} {w : World} {vs : List Value} (h1 : aggB P T k = true) (hl : vs.length = k) (hc : ∀ j v, vs[j]? = some v → w.cell? ⟨b, off + j, none⟩ = some v) :
    (Instr.loadAt T (.pointer (some ⟨b, off, none⟩))).run P w = .ok (.agg vs.toArray) w := by
  subst hl
  have := run_loadCells_list (P := P) w ⟨b, off, none⟩ vs (fun j v hv => by rw [add_lit]; exact hc j v hv)
  simp [Instr.loadAt, Instr.sureAddr, loadVar, run_isAgg_agg w h1, run_sizeOf w (size_agg h1), this]
/-- a load from a block of the call's own -/
theorem Qy.load {T : TypeId} {x : Operand} {b off : Nat} {cs : List Value} {bt : TypeId} {fz : Nat × Nat} {v : Value} (t : Nat) (h1 : oneB P T = true)
    (hx : e.ev x = some (.pointer (some ⟨b, off, none⟩))) (ht : H.get t = some (some b, .cells cs.toArray bt fz)) (hv : cs[off]? = some v) : Qy P (.load T x) ty e H G v := fun a w _ _ _ _ hh => by
  have hc : w.cell? ⟨b, off, none⟩ = some v := by rw [cell_of_block (hh.mem.own t b _ ht)]; exact hv
  simp [execOp, hh.eval hx, run_loadAt_one h1 hc]
/-- .. of more cells -/
theorem Qy.loads {T k : TypeId} {x : Operand} {b off : Nat} {cs : List Value} {bt : TypeId} {fz : Nat × Nat} {vs : List Value} (t : Nat) (h1 : aggB P T k = true)
    (hx : e.ev x = some (.pointer (some ⟨b, off, none⟩))) (ht : H.get t = some (some b, .cells cs.toArray bt fz)) (hv : (cs.drop off).take k = vs) (hl : vs.length = k) : Qy P (.load T x) ty e H G (.agg vs.toArray) :=
  fun a w _ _ _ _ hh => by
    have hc : ∀ j v, vs[j]? = some v → w.cell? ⟨b, off + j, none⟩ = some v := fun j v hj => by
      rw [cell_of_block (hh.mem.own t b _ ht)]
      subst hv
      rw [List.getElem?_take] at hj
      split at hj
      · simpa using hj
      · cases hj
    simp [execOp, hh.eval hx, run_loadAt_agg h1 hl hc]
/-- a whole variable -/
theorem Qy.loadAll {T k : TypeId} {x : Operand} {b : Nat} {cs : List Value} {bt : TypeId} {fz : Nat × Nat} (t : Nat) (h1 : aggB P T k = true)
    (hx : e.ev x = some (.pointer (some ⟨b, 0, none⟩))) (ht : H.get t = some (some b, .cells cs.toArray bt fz)) (hl : cs.length = k) : Qy P (.load T x) ty e H G (.agg cs.toArray) :=
  Qy.loads t h1 hx ht (by rw [List.drop_zero, ← hl, List.take_length]) hl
/-- a load from a block that stays as it is -/
theorem Qy.loadG {T : TypeId} {x : Operand} {b off : Nat} {v : Value} (h1 : oneB P T = true) (hx : e.ev x = some (.pointer (some ⟨b, off, none⟩))) (hv : G.cell b off = some v) : Qy P (.load T x) ty e H G v :=
  fun a w _ _ _ _ hh => by simp [execOp, hh.eval hx, run_loadAt_one h1 (hh.mem.cellG hv)]
theorem Qy.loadsG {T k : TypeId} {x : Operand} {b off : Nat} {vs : List Value} (h1 : aggB P T k = true) (hx : e.ev x = some (.pointer (some ⟨b, off, none⟩))) (hv : G.row b off vs) (hl : vs.length = k) :
    Qy P (.load T x) ty e H G (.agg vs.toArray) := fun a w _ _ _ _ hh => by simp [execOp, hh.eval hx, run_loadAt_agg h1 hl (fun j v hj => hh.mem.cellG (hv j v hj))]
theorem Qy.extract {x : Operand} {i : Nat} {vs : List Value} {v : Value} (hx : e.ev x = some (.tuple vs.toArray)) (hv : vs[i]? = some v) : Qy P (.extract x i) ty e H G v :=
  fun a w _ _ _ _ hh => by simp [execOp, hh.eval hx, Instr.extract, hv]
theorem Qy.makeFunc {f : FuncId} {xs ys : Array Operand} {us vs : List Value} (hx : e.evs xs.toList = some us) (hy : e.evs ys.toList = some vs) : Qy P (.makeFunc (.func f) xs ys) ty e H G (.func (.func f) us.toArray vs.toArray) :=
  fun a w _ _ _ _ hh => by simp [execOp, Instr.makeFunc, hh.args hx, hh.args hy]

/-! slices -/
def isSlice (P : Program) (T E sz : Nat) : Prop := P.underlying T = some (.slice E) ∧ (P.info? E).map (·.size) = some sz
theorem Qy.len {T : TypeId} {x : Operand} {ad : Option Addr} {n c : Nat} {E sz : Nat} (hT : isSlice P T E sz) (hx : e.ev x = some (.slice ad n c)) :
    Qy P (.call { callee := .builtin .len, args := #[x], argTypes := #[T] }) ty e H G (.int .i64 n) := fun a w _ _ _ _ hh => by
  simp [execOp, resolve, invoke, builtin, Builtin.len_, hh.eval hx, run_underlying hT.1, goInt]
theorem Qy.cap {T : TypeId} {x : Operand} {ad : Option Addr} {n c : Nat} {E sz : Nat} (hT : isSlice P T E sz) (hx : e.ev x = some (.slice ad n c)) :
    Qy P (.call { callee := .builtin .cap, args := #[x], argTypes := #[T] }) ty e H G (.int .i64 c) := fun a w _ _ _ _ hh => by
  simp [execOp, resolve, invoke, builtin, Builtin.cap_, hh.eval hx, run_underlying hT.1, goInt]
theorem Qy.min {ts : Array TypeId} {x y : Operand} {k : IntKind} {m n : Int} (hx : e.ev x = some (.int k m)) (hy : e.ev y = some (.int k n)) :
    Qy P (.call { callee := .builtin .min, args := #[x, y], argTypes := ts }) ty e H G (.int k (if n < m then n else m)) := fun a w _ _ _ _ hh => by
  simp [execOp, resolve, invoke, builtin, Builtin.min_, Builtin.min2, hh.eval hx, hh.eval hy]
theorem Qy.max {ts : Array TypeId} {x y : Operand} {k : IntKind} {m n : Int} (hx : e.ev x = some (.int k m)) (hy : e.ev y = some (.int k n)) :
    Qy P (.call { callee := .builtin .max, args := #[x, y], argTypes := ts }) ty e H G (.int k (if m < n then n else m)) := fun a w _ _ _ _ hh => by
  simp [execOp, resolve, invoke, builtin, Builtin.max_, Builtin.max2, hh.eval hx, hh.eval hy]
/-- an element's address -/
theorem Qy.indexAddr {T : TypeId} {x i : Operand} {b o n c : Nat} {k : IntKind} {m : Int} {E sz : Nat} (hT : isSlice P T E sz) (hx : e.ev x = some (.slice (some ⟨b, o, none⟩) n c))
    (hi : e.ev i = some (.int k m)) (hb : 0 ≤ m ∧ m < n) : Qy P (.indexAddr T x i) ty e H G (.pointer (some ⟨b, o + m.toNat * sz, none⟩)) := fun a w _ _ _ _ hh => by
  simp [execOp, Instr.indexAt, hh.eval hx, hh.eval hi, asIntOf, run_underlying hT.1, hb, run_sizeOf w hT.2, add_lit]

/-- the slice reads so, in blocks that stay as they are -/
def SlG (G : Imm) (a : Option Addr) (n sz : Nat) (cs : List Value) : Prop :=
  cs.length = n * sz ∧ (n = 0 ∨ ∃ b o, a = some ⟨b, o, none⟩ ∧ G.row b o cs)
def ab (a : Option Addr) : Nat := match a with | some x => x.block | none => 0
def ao (a : Option Addr) : Nat := match a with | some x => x.off | none => 0
theorem SlG.le {G G' : Imm} (h : G.le G') {a : Option Addr} {n sz : Nat} {cs : List Value} (hs : SlG G a n sz cs) : SlG G' a n sz cs :=
  ⟨hs.1, hs.2.imp id fun ⟨b, o, ha, hr⟩ => ⟨b, o, ha, Imm.row_le h hr⟩⟩
theorem SlG.addr {G : Imm} {a : Option Addr} {n sz : Nat} {cs : List Value} (hs : SlG G a n sz cs) (hn : 0 < n) : a = some ⟨ab a, ao a, none⟩ := by
  rcases hs.2 with h0 | ⟨b, o, rfl, _⟩
  · omega
  · rfl
theorem SlG.row {G : Imm} {a : Option Addr} {n sz : Nat} {cs : List Value} (hs : SlG G a n sz cs) (hn : 0 < n) : G.row (ab a) (ao a) cs := by
  rcases hs.2 with h0 | ⟨b, o, rfl, h⟩
  · omega
  · exact h
theorem Qy.indexAddrG {T : TypeId} {x i : Operand} {ad : Option Addr} {n c : Nat} {k : IntKind} {m : Int} {E sz : Nat} {cs : List Value} (hT : isSlice P T E sz) (hx : e.ev x = some (.slice ad n c))
    (hi : e.ev i = some (.int k m)) (hs : SlG G ad n sz cs) (hb : 0 ≤ m ∧ m < n) : Qy P (.indexAddr T x i) ty e H G (.pointer (some ⟨ab ad, ao ad + m.toNat * sz, none⟩)) := by
  have ha := hs.addr (by omega)
  rw [ha] at hx
  exact Qy.indexAddr hT hx hi hb
/-! cuts of slices -/
def subA (a : Option Addr) (c l sz : Nat) : Option Addr := if c = l then a else a.map (·.add (l * sz))
theorem SlG.sub {a : Option Addr} {n sz c l : Nat} {cs : List Value} (hs : SlG G a n sz cs) (hl : l ≤ n) (hc : n ≤ c) : SlG G (subA a c l sz) (n - l) sz (cs.drop (l * sz)) := by
  refine ⟨by rw [List.length_drop, hs.1, Nat.sub_mul], ?_⟩
  rcases hs.2 with h0 | ⟨b, o, rfl, hr⟩
  · exact .inl (by omega)
  · unfold subA
    split
    · rename_i h
      have h1 : n = l := by omega
      refine .inr ⟨b, o, rfl, fun i v hi => ?_⟩
      have h2 : cs.length ≤ l * sz := by rw [hs.1, h1]; exact Nat.le_refl _
      rw [List.drop_eq_nil_of_le h2] at hi
      simp at hi
    · refine .inr ⟨b, o + l * sz, by simp [add_lit], fun i v hi => ?_⟩
      rw [Nat.add_assoc]
      exact hr _ _ (by simpa using hi)
theorem SlG.take {a : Option Addr} {n sz h : Nat} {cs : List Value} (hs : SlG G a n sz cs) (hl : h ≤ n) : SlG G a h sz (cs.take (h * sz)) := by
  refine ⟨by rw [List.length_take, hs.1]; exact Nat.min_eq_left (Nat.mul_le_mul_right _ hl), ?_⟩
  rcases hs.2 with h0 | ⟨b, o, rfl, hr⟩
  · exact .inl (by omega)
  · refine .inr ⟨b, o, rfl, fun i v hi => hr i v ?_⟩
    rw [List.getElem?_take] at hi
    split at hi
    · exact hi
    · cases hi
theorem Qy.sliceHi {T : TypeId} {x hi : Operand} {a : Option Addr} {n c : Nat} {k : IntKind} {m : Int} {E sz : Nat} (hT : isSlice P T E sz) (hx : e.ev x = some (.slice a n c)) (hh : e.ev hi = some (.int k m)) (hb : 0 ≤ m ∧ m ≤ c) :
    Qy P (.slice T x none (some hi) none) ty e H G (.slice (subA a c 0 sz) m.toNat c) := fun ac w _ _ _ _ hk => by
  have hr := run_sizeOf (P := P) w hT.2
  have h1 : ¬ ((c : Int) < m) := by omega
  simp [execOp, Instr.sliceAt, Instr.slice, hk.eval hx, hk.eval hh, run_underlying hT.1, Instr.sliceBounds, Instr.sliceBound, asIntOf, hb.1, hb.2, hr, subA, Addr.add]
end qy

section ops
variable {P : Program} {ops : Array Oper} {rest : List Oper} {B : Bs} {e : Env} {D : List Deferred} {H : Hp} {G : Imm} {K : Act → World → Prop}
  {ty : TypeId} {pos : String} {after : Array Edge} {d : Nat}
theorem Wl.q {o : Op} {v : Value} (hn : Nat.ble (d + 1) B.n = true) (hq : Qy P o ty e H G v) (h : Wl P ops rest B ⟨(d, v) :: e, D, H, G⟩ K) :
    Wl P ops (⟨some d, o, ty, pos, after, none⟩ :: rest) B ⟨e, D, H, G⟩ K := by
  intro a w hh
  unfold lstWp
  rw [if_pos (by simp [Region.wanted])]
  unfold opWp
  rw [hq a w _ _ _ _ hh.look]
  exact h _ _ (hh.put hn v)
/-- .. and lays a block -/
theorem Wl.valueNew {o : Op} {v : Nat → Value} (t : Nat) {ob : Obj} (hn : Nat.ble (d + 1) B.n = true)
    (hr : ∀ a w, Hold B ⟨e, D, H, G⟩ a w → (execOp a.eval ⟨some d, o, ty, pos, after, none⟩).run P w = .ok (.value (v w.heap.size)) (w.alloc ob))
    (h : ∀ b, Wl P ops rest B ⟨(d, v b) :: e, D, (t, some b, ob) :: H, G⟩ K) : Wl P ops (⟨some d, o, ty, pos, after, none⟩ :: rest) B ⟨e, D, H, G⟩ K := by
  intro a w hh
  unfold lstWp
  rw [if_pos (by simp [Region.wanted])]
  unfold opWp
  rw [hr a w hh]
  exact h _ _ _ ((hh.alloc t ob).put hn _)
/-- .. that writes a block of the call's own -/
theorem Wl.writes {dst : Option Nat} {o : Op} {v : Value} {t b : Nat} {ob ob' : Obj} {x : Next} (ht : H.get t = some (some b, ob))
    (hx : (x = .skip ∧ dst = none) ∨ (x = .value v ∧ ∃ d, dst = some d ∧ Nat.ble (d + 1) B.n = true))
    (hr : ∀ a w, Hold B ⟨e, D, H, G⟩ a w → ∃ w', (execOp a.eval ⟨dst, o, ty, pos, after, none⟩).run P w = .ok x w' ∧ Upd (· = b) w w' ∧ w'.heap[b]? = some ob')
    (h : Wl P ops rest B ⟨(match dst with | some d => (d, v) :: e | none => e), D, (t, some b, ob') :: H, G⟩ K) :
    Wl P ops (⟨dst, o, ty, pos, after, none⟩ :: rest) B ⟨e, D, H, G⟩ K := by
  intro a w hh
  obtain ⟨w', hrun, hu, hb⟩ := hr a w hh
  unfold lstWp
  rw [if_pos (by simp [Region.wanted])]
  unfold opWp
  rw [hrun]
  rcases hx with ⟨rfl, rfl⟩ | ⟨rfl, d, rfl, hn⟩
  · exact h _ _ (hh.set ht hu hb)
  · exact h _ _ ((hh.set ht hu hb).put hn v)

/-! guards -/
theorem Wl.want {dst : Option Nat} {o : Op} {j : Nat} {want : Bool} {t : Nat} (hj : (ops[j]?).bind (·.dst) = some t) (he : e.get t = some (.bool want))
    (h : Wl P ops (⟨dst, o, ty, pos, after, none⟩ :: rest) B ⟨e, D, H, G⟩ K) : Wl P ops (⟨dst, o, ty, pos, after, some (j, want)⟩ :: rest) B ⟨e, D, H, G⟩ K := by
  intro a w hh
  have h1 := h a w hh
  unfold lstWp at h1 ⊢
  rw [if_pos (by simp [Region.wanted])] at h1
  have hy : yielded ops a.tmps j = some want := by simp [yielded, hj, hh.env t _ he]
  rw [if_pos (by simp [Region.wanted, hy])]
  exact h1
theorem Wl.pass {o : Op} {j : Nat} {want : Bool} {t : Nat} (hj : (ops[j]?).bind (·.dst) = some t) (he : e.get t = some (.bool (!want))) (hn : Nat.ble (d + 1) B.n = true)
    (h : Wl P ops rest B ⟨(d, undef) :: e, D, H, G⟩ K) : Wl P ops (⟨some d, o, ty, pos, after, some (j, want)⟩ :: rest) B ⟨e, D, H, G⟩ K := by
  intro a w hh
  unfold lstWp
  have hy : yielded ops a.tmps j = some (!want) := by simp [yielded, hj, hh.env t _ he]
  rw [if_neg (by simp [Region.wanted, hy])]
  exact h _ _ (hh.put hn undef)

theorem cells_one {v : Value} (h : v.oneCell' = true) : v.cells = #[v] := by cases v <;> simp_all [Value.oneCell', Value.cells]
theorem setRow_upd (w : World) (g : Nat) (c : Array Value) : Upd (· = g) w (w.setRow g c) :=
  ⟨rfl, rfl, rfl, by simp [World.setRow], fun k _ hk => setRow_other w g k _ hk⟩
theorem take_set_drop (cs : List Value) (off : Nat) (v : Value) (h : off < cs.length) : cs.take off ++ [v] ++ cs.drop (off + 1) = cs.set off v := by
  rw [List.set_eq_take_append_cons_drop, if_pos h]; simp
theorem run_storeAt {T : TypeId} {b off : Nat} {w : World} {cs vs : List Value} {bt : TypeId} {v : Value} (hs : (P.info? T).map (·.size) = some vs.length) (hv : v.cells = vs.toArray)
    (h1 : vs.all (·.oneCell') = true) (hb : w.heap[b]? = some (.cells cs.toArray bt (0, 0))) (ho : off + vs.length ≤ cs.length) :
    (Instr.storeAt T (.pointer (some ⟨b, off, none⟩)) v).run P w = .ok () (w.setRow b (cs.take off ++ vs ++ cs.drop (off + vs.length)).toArray) := by
  have hst := run_storeCells_at P b off bt vs 0 cs.toArray w hb (by simpa using ho) (by simpa using h1)
  simp only [Nat.add_zero] at hst
  simp [Instr.storeAt, Instr.sureAddr, storeVar, run_sizeOf w hs, hv, hst]
/-- a store of one cell -/
theorem Wl.store {T : TypeId} {x y : Operand} {b off : Nat} {cs : List Value} {bt : TypeId} {v : Value} (t : Nat) (hs : oneB P T = true)
    (hx : e.ev x = some (.pointer (some ⟨b, off, none⟩))) (hy : e.ev y = some v) (h1 : v.oneCell' = true) (ht : H.get t = some (some b, .cells cs.toArray bt (0, 0))) (ho : Nat.ble (off + 1) cs.length = true)
    (h : Wl P ops rest B ⟨e, D, (t, some b, .cells (cs.set off v).toArray bt (0, 0)) :: H, G⟩ K) : Wl P ops (⟨none, .store T x y, ty, pos, after, none⟩ :: rest) B ⟨e, D, H, G⟩ K :=
  Wl.writes (v := undef) (x := .skip) ht (.inl ⟨rfl, rfl⟩) (fun a w hh => by
    have ho' := Nat.le_of_ble_eq_true ho
    have hb := hh.mem.own t b _ ht
    have := run_storeAt (P := P) (T := T) (off := off) (cs := cs) (vs := [v]) (size_one hs) (by rw [cells_one h1]) (by simp [h1]) hb ho'
    refine ⟨_, by simp [execOp, hh.eval hx, hh.eval hy, this]; rfl, setRow_upd w b _, ?_⟩
    rw [setRow_heap w b _ _ bt _ hb, ← take_set_drop cs off v ho']; simp) h
/-- a store of more cells -/
theorem Wl.stores {T : TypeId} {x y : Operand} {b off k : Nat} {cs vs : List Value} {bt : TypeId} (t : Nat) (hs : (P.info? T).map (·.size) = some k)
    (hx : e.ev x = some (.pointer (some ⟨b, off, none⟩))) (hy : e.ev y = some (.agg vs.toArray)) (hk : vs.length = k) (h1 : vs.all (·.oneCell') = true) (ht : H.get t = some (some b, .cells cs.toArray bt (0, 0))) (ho : Nat.ble (off + vs.length) cs.length = true)
    (h : Wl P ops rest B ⟨e, D, (t, some b, .cells (cs.take off ++ vs ++ cs.drop (off + vs.length)).toArray bt (0, 0)) :: H, G⟩ K) : Wl P ops (⟨none, .store T x y, ty, pos, after, none⟩ :: rest) B ⟨e, D, H, G⟩ K :=
  Wl.writes (v := undef) (x := .skip) ht (.inl ⟨rfl, rfl⟩) (fun a w hh => by
    have ho' := Nat.le_of_ble_eq_true ho
    have hb := hh.mem.own t b _ ht
    have := run_storeAt (P := P) (T := T) (off := off) (cs := cs) (vs := vs) (v := .agg vs.toArray) (by rw [hk]; exact hs) rfl h1 hb ho'
    refine ⟨_, by simp [execOp, hh.eval hx, hh.eval hy, this]; rfl, setRow_upd w b _, ?_⟩
    rw [setRow_heap w b _ _ bt _ hb, List.append_assoc]) h
/-- .. a whole variable -/
theorem Wl.storeAll {T : TypeId} {x y : Operand} {b k : Nat} {cs vs : List Value} {bt : TypeId} (t : Nat) (hs : (P.info? T).map (·.size) = some k)
    (hx : e.ev x = some (.pointer (some ⟨b, 0, none⟩))) (hy : e.ev y = some (.agg vs.toArray)) (hk : vs.length = k) (h1 : vs.all (·.oneCell') = true) (ht : H.get t = some (some b, .cells cs.toArray bt (0, 0))) (ho : Nat.beq vs.length cs.length = true)
    (h : Wl P ops rest B ⟨e, D, (t, some b, .cells vs.toArray bt (0, 0)) :: H, G⟩ K) : Wl P ops (⟨none, .store T x y, ty, pos, after, none⟩ :: rest) B ⟨e, D, H, G⟩ K := by
  have hl : vs.length = cs.length := Nat.eq_of_beq_eq_true ho
  refine Wl.stores t hs hx hy hk h1 ht (by rw [hl]; simp) ?_
  rw [List.take_zero, List.nil_append, Nat.zero_add, hl, List.drop_length, List.append_nil]
  exact h
/-- a variable's block, with what is handed in -/
theorem Wl.box {T : TypeId} {x : Operand} {v : Value} {cs : List Value} (t : Nat) (hn : Nat.ble (d + 1) B.n = true) (hx : e.ev x = some v) (hv : v.cells = cs.toArray)
    (h : ∀ b, Wl P ops rest B ⟨(d, .pointer (some ⟨b, 0, none⟩)) :: e, D, (t, some b, .cells cs.toArray T (0, 0)) :: H, G⟩ K) :
    Wl P ops (⟨some d, .box T x, ty, pos, after, none⟩ :: rest) B ⟨e, D, H, G⟩ K :=
  Wl.valueNew (v := fun b => .pointer (some ⟨b, 0, none⟩)) t hn (fun a w hh => by simp [execOp, Instr.box, newVar, newRow, hh.eval hx, hv]) h
def ZeroOf (P : Program) (T : TypeId) (cs : List Value) : Prop := ∀ w, ∃ z, (zeroValue T).run P w = .ok z w ∧ z.cells = cs.toArray
theorem ZeroOf.of {P : Program} {T : TypeId} {cs : List Value} (h : ((P.info? T).bind (·.zero)).map (·.cells) = some cs.toArray) : ZeroOf P T cs := fun w => by
  cases hi : P.info? T with
  | none => simp [hi] at h
  | some i =>
    cases hz : i.zero with
    | none => simp [hi, hz] at h
    | some z => exact ⟨z, by simp [zeroValue, typeInfo, hi, hz], by simpa [hi, hz] using h⟩
theorem Wl.alloc {T : TypeId} {cs : List Value} (t : Nat) (hn : Nat.ble (d + 1) B.n = true) (hz : ZeroOf P T cs)
    (h : ∀ b, Wl P ops rest B ⟨(d, .pointer (some ⟨b, 0, none⟩)) :: e, D, (t, some b, .cells cs.toArray T (0, 0)) :: H, G⟩ K) :
    Wl P ops (⟨some d, .alloc T, ty, pos, after, none⟩ :: rest) B ⟨e, D, H, G⟩ K :=
  Wl.valueNew (v := fun b => .pointer (some ⟨b, 0, none⟩)) t hn (fun a w hh => by
    obtain ⟨z, hz, hc⟩ := hz w
    simp [execOp, Instr.alloc, newVar, newRow, hz, hc]) h
end ops
end Go.Sl
