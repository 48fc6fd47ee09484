/- Maps of the call's own; nothing is ever taken out of them. -/
import Derived.Test.YtfleehgbpgmcnaaSlH
import Derived.MapKept
import Derived.WideKeyRuns
set_option linter.unusedVariables false
set_option linter.unusedSectionVars false
set_option linter.unusedSimpArgs false
namespace Go.Sl
open Go

/-- what a key or a map's value is -/
class OneVal (κ : Type) where
  val : κ → Value
instance : OneVal Int := ⟨fun n => .int .i64 n⟩
instance : OneVal Bool := ⟨fun b => .bool b⟩
/-- a key of four numbers -/
structure K4 where
  op : Int
  a : Int
  b : Int
  c : Int
  deriving DecidableEq
instance : OneVal K4 := ⟨fun k => .agg (ints [k.op, k.a, k.b, k.c])⟩

structure KeyT (P : Program) (kt : TypeId) (κ : Type) [DecidableEq κ] [OneVal κ] : Prop where
  check : ∀ em w (k : κ), (Instr.checkKey em 10000 kt (OneVal.val k)).run P w = .ok () w
  find : ∀ w (k : κ) (l : List MapEntry) (ks : List κ), l.map (·.key) = ks.map OneVal.val →
    (Instr.findKey kt (OneVal.val k) l).run P w = .ok ((ks.findIdx? (fun k' => decide (k' = k))).bind fun i => (l[i]?).map fun x => (i, x.val)) w
  stays : ∀ w (k : κ), (Instr.keyThatStays (OneVal.val k) (OneVal.val k)).run P w = .ok (OneVal.val k) w

section maps
variable {κ : Type} [DecidableEq κ] [OneVal κ]
/-- the entries, each with the number of those that came before it -/
def entries (s : Nat) : List (κ × Int) → List MapEntry
  | [] => []
  | (k, v) :: xs => { key := OneVal.val k, val := .int .i64 v, born := s } :: entries (s + 1) xs
def mapObj (xs : List (κ × Int)) : Obj := .map (entries 0 xs).toArray xs.length
def mget (xs : List (κ × Int)) (k : κ) : Option Int := (xs.find? (fun x => decide (x.1 = k))).map (·.2)
/-- the entry's value, if there is one; else an entry more -/
def mput : List (κ × Int) → κ → Int → List (κ × Int)
  | [], k, v => [(k, v)]
  | (k', v') :: xs, k, v => if k' = k then (k', v) :: xs else (k', v') :: mput xs k v
theorem entries_length (xs : List (κ × Int)) : ∀ s, (entries s xs).length = xs.length := by
  induction xs with
  | nil => intro s; rfl
  | cons x xs ih => intro s; simp [entries, ih]
theorem entries_keys (xs : List (κ × Int)) : ∀ s, (entries s xs).map (·.key) = (xs.map (·.1)).map OneVal.val := by
  induction xs with
  | nil => intro s; rfl
  | cons x xs ih => intro s; simp [entries, ih]
theorem entries_get (xs : List (κ × Int)) : ∀ (s i : Nat), (entries s xs)[i]? = (xs[i]?).map fun (x : κ × Int) => ({ key := OneVal.val x.1, val := .int .i64 x.2, born := s + i } : MapEntry) := by
  induction xs with
  | nil => intro s i; simp [entries]
  | cons x xs ih =>
    intro s i
    cases i with
    | zero => simp [entries]
    | succ i => simp [entries, ih]; congr 1; funext x; congr 1; omega
theorem entries_append (xs ys : List (κ × Int)) : ∀ s, entries s (xs ++ ys) = entries s xs ++ entries (s + xs.length) ys := by
  induction xs with
  | nil => intro s; simp [entries]
  | cons x xs ih => intro s; simp [entries, ih]; congr 1; omega
theorem entries_set (xs : List (κ × Int)) (i : Nat) (k : κ) (v v' : Int) (h : xs[i]? = some (k, v)) : ∀ s, entries s (xs.set i (k, v')) = (entries s xs).modify i (fun e => { e with val := .int .i64 v' }) := by
  intro s
  apply List.ext_getElem?
  intro j
  rw [entries_get, List.getElem?_modify, entries_get, List.getElem?_set]
  by_cases hij : i = j
  · subst hij
    obtain ⟨hl, hg⟩ := List.getElem?_eq_some_iff.1 h
    simp [hl, hg]
  · simp [hij]
theorem mget_idx (xs : List (κ × Int)) (k : κ) : ((xs.map (·.1)).findIdx? (fun k' => decide (k' = k))).bind (fun i => ((entries 0 xs)[i]?).map fun x => (i, x.val)) =
    ((xs.map (·.1)).findIdx? (fun k' => decide (k' = k))).bind (fun i => (mget xs k).map fun v => (i, Value.int .i64 v)) := by
  have key : ∀ (xs : List (κ × Int)) s, ((xs.map (·.1)).findIdx? (fun k' => decide (k' = k))).bind (fun i => ((entries s xs)[i]?).map fun x => (i, x.val)) =
    ((xs.map (·.1)).findIdx? (fun k' => decide (k' = k))).bind (fun i => (mget xs k).map fun v => (i, Value.int .i64 v)) := by
    intro xs
    induction xs with
    | nil => intro s; rfl
    | cons x xs ih =>
      intro s
      obtain ⟨k', v⟩ := x
      simp only [List.map_cons, List.findIdx?_cons]
      by_cases hk : k' = k
      · simp [hk, entries, mget]
      · have hm : mget ((k', v) :: xs) k = mget xs k := by simp [mget, hk]
        have ih' := ih (s + 1)
        simp only [hk, decide_false, Bool.false_eq_true, if_false, hm]
        cases hf : (xs.map (·.1)).findIdx? (fun k' => decide (k' = k)) with
        | none => simp
        | some i =>
          rw [hf] at ih'
          simp only [Option.bind_some] at ih'
          simp only [Option.map_some, Option.bind_some, entries, List.getElem?_cons_succ]
          cases h1 : (entries (s + 1) xs)[i]? <;> cases h2 : mget xs k <;> simp_all
  exact key xs 0
theorem mget_none (xs : List (κ × Int)) (k : κ) : mget xs k = none ↔ (xs.map (·.1)).findIdx? (fun k' => decide (k' = k)) = none := by
  simp [mget, List.findIdx?_eq_none_iff]
theorem mget_some (xs : List (κ × Int)) (k : κ) {v : Int} (h : mget xs k = some v) : ∃ i, (xs.map (·.1)).findIdx? (fun k' => decide (k' = k)) = some i ∧ xs[i]? = some (k, v) ∧ ∀ v', mput xs k v' = xs.set i (k, v') := by
  induction xs with
  | nil => simp [mget] at h
  | cons x xs ih =>
    obtain ⟨k', u⟩ := x
    by_cases hk : k' = k
    · subst hk
      refine ⟨0, by simp [List.findIdx?_cons], ?_, fun v' => by simp [mput]⟩
      rw [mget, List.find?_cons] at h
      simp at h
      simp [h]
    · have hm : mget ((k', u) :: xs) k = mget xs k := by simp [mget, hk]
      obtain ⟨i, h1, h2, h3⟩ := ih (hm ▸ h)
      exact ⟨i + 1, by simp [List.findIdx?_cons, hk, h1], by simpa using h2, fun v' => by simp [mput, hk, h3]⟩
theorem mput_none (xs : List (κ × Int)) (k : κ) (v : Int) (h : mget xs k = none) : mput xs k v = xs ++ [(k, v)] := by
  induction xs with
  | nil => rfl
  | cons x xs ih =>
    obtain ⟨k', u⟩ := x
    by_cases hk : k' = k
    · simp [mget, hk] at h
    · have hm : mget ((k', u) :: xs) k = mget xs k := by simp [mget, hk]
      simp [mput, hk, ih (hm ▸ h)]
theorem mget_mput (xs : List (κ × Int)) (k k' : κ) (v : Int) : mget (mput xs k v) k' = if k' = k then some v else mget xs k' := by
  induction xs with
  | nil => by_cases h : k = k' <;> simp [mput, mget, h, eq_comm]
  | cons x xs ih =>
    obtain ⟨k1, u⟩ := x
    by_cases h1 : k1 = k
    · subst h1
      simp only [mput, if_true]
      by_cases h2 : k1 = k'
      · subst h2; simp [mget]
      · simp [mget, h2, Ne.symm h2]
    · simp only [mput, h1, if_false]
      by_cases h2 : k1 = k'
      · subst h2; simp [mget, h1]
      · have e1 : ∀ ys : List (κ × Int), mget ((k1, u) :: ys) k' = mget ys k' := fun ys => by simp [mget, h2]
        rw [e1, e1, ih]

section find
variable {P : Program} {kt : TypeId}
theorem KeyT.look (h : KeyT P kt κ) (w : World) (xs : List (κ × Int)) (k : κ) : (Instr.findKey kt (OneVal.val k) (entries 0 xs)).run P w =
    .ok (((xs.map (·.1)).findIdx? (fun k' => decide (k' = k))).bind (fun i => (mget xs k).map fun v => (i, Value.int .i64 v))) w := by
  rw [h.find w k (entries 0 xs) (xs.map (·.1)) (entries_keys xs 0), mget_idx]
end find
end maps

/-- numbers -/
theorem KeyT.int {P : Program} {kt : TypeId} (h : P.underlying kt = some (.int .i64)) : KeyT P kt Int where
  check em w k := MapKept.run_checkKey (k := .int .i64 k) h (show MapKept.IsKey (.int .i64) (.int .i64 k) from rfl) em 9999
  stays w k := MapKept.run_keyThatStays (d := .int .i64) (show MapKept.IsKey (.int .i64) (.int .i64 k) from rfl)
  find w k l ks hk := by
    have key : ∀ (l : List MapEntry) (ks : List Int) (s : Nat), l.map (·.key) = ks.map OneVal.val → Instr.findNow (.int .i64) (.int .i64 k) l s = some ((ks.findIdx? (fun k' => decide (k' = k))).bind fun i => (l[i]?).map fun x => (s + i, x.val)) := by
      intro l
      induction l with
      | nil => intro ks s hk; cases ks <;> simp at hk; rfl
      | cons x l ih =>
        intro ks s hk
        cases ks with
        | nil => simp at hk
        | cons k' ks =>
          simp only [List.map_cons, List.cons.injEq] at hk
          obtain ⟨h1, h2⟩ := hk
          have h1 : x.key = .int .i64 k' := h1
          have hs : Instr.sameNow (.int .i64) (.int .i64 k) x.key = some (k == k') := by rw [h1]; simp [Instr.sameNow]
          by_cases he : k' = k
          · subst he
            have hb : (k' == k') = true := by simp
            rw [hb] at hs
            simp only [Instr.findNow, hs, List.findIdx?_cons, decide_true, if_true, Option.bind_some, List.getElem?_cons_zero, Option.map_some, Nat.add_zero]
          · have hb : (k == k') = false := beq_eq_false_iff_ne.2 (Ne.symm he)
            rw [hb] at hs
            simp only [Instr.findNow, hs, ih ks (s + 1) h2, List.findIdx?_cons, he, decide_false, Bool.false_eq_true, if_false]
            congr 1
            cases ks.findIdx? (fun k' => decide (k' = k)) with
            | none => rfl
            | some i => simp only [Option.map_some, Option.bind_some, List.getElem?_cons_succ, show s + 1 + i = s + (i + 1) by omega]
    have := MapKept.run_findKey (P := P) (w := w) h (key l ks 0 hk)
    simp only [Nat.zero_add] at this
    exact this

/-- structs of four numbers -/
theorem sameBits_ints (xs : List Int) (n : Nat) : Instr.sameBits (n + 1) (.agg (ints xs)) (.agg (ints xs)) = true := by
  simp only [Instr.sameBits, BEq.rfl, Bool.true_and, ints]
  rw [List.all_eq_true]
  intro x hx
  have : ∀ (l : List Int) (x : Value × Value), x ∈ (l.map (Value.int .i64)).zip (l.map (Value.int .i64)) → ∃ v, x = (.int .i64 v, .int .i64 v) := by
    intro l
    induction l with
    | nil => intro x h; simp at h
    | cons a l ih =>
      intro x h
      simp only [List.map_cons, List.zip_cons_cons, List.mem_cons] at h
      rcases h with rfl | h
      · exact ⟨a, rfl⟩
      · exact ih x h
  obtain ⟨v, rfl⟩ := this xs x hx
  cases n <;> simp [Instr.sameBits]
theorem run_checkInts {P : Program} {t n : Nat} (hT : AllInt P t n) (em : Bool) (w : World) (xs : List Int) (hx : xs.length = n) : (Instr.checkKey em 10000 t (.agg (ints xs))).run P w = .ok () w := by
  obtain ⟨h1, h2, h3, h4⟩ := hT
  have key : ∀ (fs : List Field) (s : Nat), fs.map (fieldI64 P) = (List.range' s (n - s)).map (fun i => (true, i)) → s ≤ n →
      (forIn fs PUnit.unit (fun f _ => if f.name ≠ "_" then (do let a ← part f.type (ints xs) f.offset; Instr.checkKey em 9999 f.type a; pure (ForInStep.yield PUnit.unit)) else pure (ForInStep.yield PUnit.unit)) : Sem PUnit).run P w = .ok PUnit.unit w := by
    intro fs
    induction fs with
    | nil => intro s _ _; simp
    | cons f fs ih =>
      intro s h hs
      have hlen : n - s = fs.length + 1 := by have := congrArg List.length h; simpa using this.symm
      rw [show n - s = (n - (s + 1)) + 1 by omega, List.range'_succ] at h
      simp only [List.map_cons, fieldI64, List.cons.injEq, Prod.mk.injEq, Bool.and_eq_true] at h
      obtain ⟨⟨⟨⟨g1, g2⟩, g3⟩, g4⟩, g5⟩ := h
      have ih := ih (s + 1) g5 (by omega)
      have hname : f.name ≠ "_" := by simpa using g1
      have hint : P.underlying f.type = some (.int .i64) := by
        split at g2
        · assumption
        · cases g2
      have hl : s < xs.length := by omega
      have hpart : (part f.type (ints xs) f.offset).run P w = .ok (.int .i64 (xs[s]?.getD 0)) w := by
        simp [part, run_isAgg_one w g3, g4, ints, hl]
      have hck : (Instr.checkKey em 9999 f.type (.int .i64 (xs[s]?.getD 0))).run P w = .ok () w := MapKept.run_checkKey hint (show MapKept.IsKey (.int .i64) (.int .i64 _) from rfl) em 9998
      rw [List.forIn_cons]
      simp only [hname, ne_eq, not_false_eq_true, if_true, Sem.run_bind, hpart, hck, Result.andThen_ok, Sem.run_pure]
      exact ih
  have h0 := key (P.fieldsOf t).toList 0 (by rw [h4, Nat.sub_zero, List.range_eq_range']) (Nat.zero_le _)
  unfold Instr.checkKey
  simp only [Sem.run_bind, run_underlying h1, Result.andThen_ok]
  rw [Array.forIn_toList] at h0
  simp only [h0, Result.andThen_ok, Sem.run_pure]
theorem KeyT.k4 {P : Program} {kt : TypeId} (hT : AllInt P kt 4) : KeyT P kt K4 where
  check em w k := run_checkInts hT em w _ rfl
  stays w k := by
    have : Instr.sameBits 10000 (OneVal.val k) (OneVal.val k) = true := sameBits_ints _ 9999
    simp [Instr.keyThatStays, this]
  find w k l ks hk := by
    have hwide : (match P.underlying kt with | some (.array _ _) | some (.struct _) => true | _ => false) = true := by rw [hT.1]
    have key : ∀ (l : List MapEntry) (ks : List K4) (s : Nat), l.map (·.key) = ks.map OneVal.val →
        (Instr.findAsking kt (OneVal.val k) l s).run P w = .ok ((ks.findIdx? (fun k' => decide (k' = k))).bind fun i => (l[i]?).map fun x => (s + i, x.val)) w := by
      intro l
      induction l with
      | nil => intro ks s hk; cases ks <;> simp at hk; simp [Instr.findAsking]
      | cons x l ih =>
        intro ks s hk
        cases ks with
        | nil => simp at hk
        | cons k' ks =>
          simp only [List.map_cons, List.cons.injEq] at hk
          obtain ⟨h1, h2⟩ := hk
          have heq : (Op.equal kt (OneVal.val k) x.key).run P w = .ok (decide (k = k')) w := by
            rw [h1]
            have := run_equal_ints hT w [k.op, k.a, k.b, k.c] [k'.op, k'.a, k'.b, k'.c] rfl rfl
            rw [show (OneVal.val k : Value) = .agg (ints [k.op, k.a, k.b, k.c]) from rfl, show (OneVal.val k' : Value) = .agg (ints [k'.op, k'.a, k'.b, k'.c]) from rfl, this]
            congr 1
            cases k; cases k'
            simp
          simp only [Instr.findAsking, Sem.run_bind, heq, Result.andThen_ok, List.findIdx?_cons]
          by_cases he : k' = k
          · subst he; simp
          · have he' : k ≠ k' := Ne.symm he
            simp only [he', he, decide_false, Bool.false_eq_true, if_false]
            rw [ih ks (s + 1) h2]
            congr 1
            cases ks.findIdx? (fun k' => decide (k' = k)) with
            | none => rfl
            | some i => simp only [Option.map_some, Option.bind_some, List.getElem?_cons_succ, show s + 1 + i = s + (i + 1) by omega]
    rw [run_findKey_eq (P := P) w hwide]
    have := key l ks 0 hk
    simp only [Nat.zero_add] at this
    exact this

section ops
variable {P : Program} {ops : Array Oper} {rest : List Oper} {B : Bs} {e : Env} {D : List Deferred} {H : Hp} {G : Imm} {K : Act → World → Prop}
  {ty : TypeId} {pos : String} {after : Array Edge} {d : Nat}
variable {κ : Type} [DecidableEq κ] [OneVal κ] {T kt et : TypeId}
theorem run_makeMap_here (t : TypeId) (w : World) : (Instr.makeMap t none).run P w = .ok (.map (some w.heap.size)) (w.alloc (.map #[] 0)) := rfl
theorem Wl.makeMap (t : Nat) (hn : Nat.ble (d + 1) B.n = true)
    (h : ∀ b, Wl P ops rest B ⟨(d, .map (some b)) :: e, D, (t, some b, mapObj ([] : List (κ × Int))) :: H, G⟩ K) :
    Wl P ops (⟨some d, .makeMap T none, ty, pos, after, none⟩ :: rest) B ⟨e, D, H, G⟩ K :=
  Wl.valueNew (v := fun b => .map (some b)) t hn (fun a w hh => by simp only [execOp, Option.map_none, Sem.run_bind, run_makeMap_here, Result.andThen_ok, Sem.run_pure]; rfl) h
/-- a map's type -/
structure MapT (P : Program) (T kt : TypeId) (κ : Type) [DecidableEq κ] [OneVal κ] : Prop where
  und : ∃ et, P.underlying T = some (.map kt et) ∧ ∀ w, (zeroValue et).run P w = .ok (.int .i64 0) w
  key : KeyT P kt κ
theorem Qy.lookup2 {x i : Operand} {r : Nat} {xs : List (κ × Int)} {k : κ} (t : Nat) (hT : MapT P T kt κ) (hx : e.ev x = some (.map (some r))) (hi : e.ev i = some (OneVal.val k)) (ht : H.get t = some (some r, mapObj xs)) :
    Qy P (.lookup T x i true) ty e H G (.tuple [.int .i64 ((mget xs k).getD 0), .bool (mget xs k).isSome].toArray) := fun a w _ _ _ _ hh => by
  obtain ⟨⟨et, hu, hz⟩, hk⟩ := hT
  have hb := hh.mem.own t r _ ht
  simp only [execOp, hh.eval hx, hh.eval hi, Instr.lookup, Sem.run_bind, run_underlying hu, Result.andThen_ok, MapKept.run_getObj_map (P := P) hb, Sem.run_pure, hk.check, hk.look]
  cases hm : mget xs k with
  | none =>
    rw [(mget_none xs k).1 hm]
    simp [hz]
  | some v =>
    obtain ⟨i, h1, _⟩ := mget_some xs k hm
    rw [h1]
    simp
theorem Qy.lookup1 {x i : Operand} {r : Nat} {xs : List (κ × Int)} {k : κ} (t : Nat) (hT : MapT P T kt κ) (hx : e.ev x = some (.map (some r))) (hi : e.ev i = some (OneVal.val k)) (ht : H.get t = some (some r, mapObj xs)) :
    Qy P (.lookup T x i false) ty e H G (.int .i64 ((mget xs k).getD 0)) := fun a w _ _ _ _ hh => by
  obtain ⟨⟨et, hu, hz⟩, hk⟩ := hT
  have hb := hh.mem.own t r _ ht
  simp only [execOp, hh.eval hx, hh.eval hi, Instr.lookup, Sem.run_bind, run_underlying hu, Result.andThen_ok, MapKept.run_getObj_map (P := P) hb, Sem.run_pure, hk.check, hk.look]
  cases hm : mget xs k with
  | none =>
    rw [(mget_none xs k).1 hm]
    simp [hz]
  | some v =>
    obtain ⟨i, h1, _⟩ := mget_some xs k hm
    rw [h1]
    simp
theorem upd_set {w : World} {r : Nat} {o : Obj} : Upd (· = r) w { w with heap := w.heap.setIfInBounds r o } :=
  ⟨rfl, rfl, rfl, by simp, fun k _ hk => by simp [Ne.symm hk]⟩
theorem Wl.mapUpdate {m i x : Operand} {r : Nat} {xs : List (κ × Int)} {k : κ} {v : Int} (t : Nat) (hT : MapT P T kt κ) (hx : e.ev m = some (.map (some r))) (hi : e.ev i = some (OneVal.val k)) (hv : e.ev x = some (.int .i64 v)) (ht : H.get t = some (some r, mapObj xs))
    (h : Wl P ops rest B ⟨e, D, (t, some r, mapObj (mput xs k v)) :: H, G⟩ K) : Wl P ops (⟨none, .mapUpdate T m i x, ty, pos, after, none⟩ :: rest) B ⟨e, D, H, G⟩ K :=
  Wl.writes (v := undef) (x := .skip) ht (.inl ⟨rfl, rfl⟩) (fun a w hh => by
    obtain ⟨⟨et, hu, hz⟩, hk⟩ := hT
    have hb := hh.mem.own t r _ ht
    have hlt : r < w.heap.size := (Array.getElem?_eq_some_iff.1 hb).1
    refine ⟨{ w with heap := w.heap.setIfInBounds r (mapObj (mput xs k v)) }, ?_, upd_set, by simp [hlt]⟩
    simp only [execOp, hh.eval hx, hh.eval hi, hh.eval hv, Instr.mapUpdate, Sem.run_bind, run_underlying hu, Result.andThen_ok, MapKept.run_getObj_map (P := P) hb, Sem.run_pure, hk.check, hk.look]
    cases hm : mget xs k with
    | none =>
      rw [(mget_none xs k).1 hm, mput_none xs k v hm]
      simp only [Option.bind_none, MapKept.run_setObj_map (P := P) _ hb, Result.andThen_ok]
      congr 3
      simp [mapObj, entries_append, entries]
    | some u =>
      obtain ⟨i, h1, h2, h3⟩ := mget_some xs k hm
      rw [h1, h3]
      have hg : (entries 0 xs)[i]? = some { key := OneVal.val k, val := .int .i64 u, born := 0 + i } := by rw [entries_get, h2]; rfl
      simp only [Option.bind_some, Option.map_some, List.getElem?_toArray, hg, Option.getD_some, Sem.run_bind, hk.stays, Result.andThen_ok, MapKept.run_setObj_map (P := P) _ hb]
      congr 3
      simp only [mapObj, List.length_set, entries_set xs i k u v h2]
      congr 1
      apply Array.ext'
      simp only [Array.toList_modify]
      apply List.ext_getElem?
      intro j
      simp only [List.getElem?_modify, entries_get]
      by_cases hij : i = j
      · subst hij; simp [h2]
      · simp [hij]) h
/-- 'm[k], .. = ..': the entry first, then what it is to hold; there is none yet -/
theorem Wl.mapEntry {m i : Operand} {r : Nat} {xs : List (κ × Int)} {k : κ} (t : Nat) (hn : Nat.ble (d + 1) B.n = true) (hT : MapT P T kt κ) (hx : e.ev m = some (.map (some r))) (hi : e.ev i = some (OneVal.val k)) (ht : H.get t = some (some r, mapObj xs))
    (hk0 : mget xs k = none) (h : Wl P ops rest B ⟨(d, .tuple [.int .i64 0, .int .i64 xs.length].toArray) :: e, D, (t, some r, mapObj (xs ++ [(k, 0)])) :: H, G⟩ K) :
    Wl P ops (⟨some d, .mapEntry T m i, ty, pos, after, none⟩ :: rest) B ⟨e, D, H, G⟩ K :=
  Wl.writes (v := .tuple [.int .i64 0, .int .i64 xs.length].toArray) (x := .value (.tuple [.int .i64 0, .int .i64 xs.length].toArray)) ht (.inr ⟨rfl, d, rfl, hn⟩) (fun a w hh => by
    obtain ⟨⟨et, hu, hz⟩, hk⟩ := hT
    have hb := hh.mem.own t r _ ht
    have hlt : r < w.heap.size := (Array.getElem?_eq_some_iff.1 hb).1
    refine ⟨{ w with heap := w.heap.setIfInBounds r (mapObj (xs ++ [(k, 0)])) }, ?_, upd_set, by simp [hlt]⟩
    simp only [execOp, hh.eval hx, hh.eval hi, Instr.mapEntry, Sem.run_bind, run_underlying hu, Result.andThen_ok, MapKept.run_getObj_map (P := P) hb, Sem.run_pure, hk.check, hk.look]
    rw [(mget_none xs k).1 hk0]
    simp only [Option.bind_none, Sem.run_bind, hz, Result.andThen_ok, MapKept.run_setObj_map (P := P) _ hb, Sem.run_pure, goInt]
    congr 3
    simp [mapObj, entries_append, entries]) h
/-- what the newest entry is to hold -/
theorem Wl.entryStore {m s x : Operand} {r : Nat} {xs : List (κ × Int)} {k : κ} {u v : Int} (t : Nat) (hx : e.ev m = some (.map (some r))) (hs : e.ev s = some (.int .i64 xs.length)) (hv : e.ev x = some (.int .i64 v))
    (ht : H.get t = some (some r, mapObj (xs ++ [(k, u)]))) (h : Wl P ops rest B ⟨e, D, (t, some r, mapObj (xs ++ [(k, v)])) :: H, G⟩ K) :
    Wl P ops (⟨none, .entryStore T m s x, ty, pos, after, none⟩ :: rest) B ⟨e, D, H, G⟩ K :=
  Wl.writes (v := undef) (x := .skip) ht (.inl ⟨rfl, rfl⟩) (fun a w hh => by
    have hb := hh.mem.own t r _ ht
    have hlt : r < w.heap.size := (Array.getElem?_eq_some_iff.1 hb).1
    refine ⟨{ w with heap := w.heap.setIfInBounds r (mapObj (xs ++ [(k, v)])) }, ?_, upd_set, by simp [hlt]⟩
    have hfind : (entries 0 (xs ++ [(k, u)])).toArray.findIdx? (fun e => (e.born : Int) == (xs.length : Int)) = some xs.length := by
      rw [List.findIdx?_toArray]
      rw [List.findIdx?_eq_some_iff_getElem]
      refine ⟨by rw [entries_length]; simp, ?_, ?_⟩
      · have := entries_get (xs ++ [(k, u)]) 0 xs.length
        have hl : xs.length < (entries 0 (xs ++ [(k, u)])).length := by rw [entries_length]; simp
        rw [List.getElem?_eq_getElem hl] at this
        simp at this
        simp [this]
      · intro j hj
        have := entries_get (xs ++ [(k, u)]) 0 j
        have hl : j < (entries 0 (xs ++ [(k, u)])).length := by rw [entries_length]; simp; omega
        rw [List.getElem?_eq_getElem hl] at this
        have hb : (entries 0 (xs ++ [(k, u)]))[j].born = j := by
          cases hq : (xs ++ [(k, u)])[j]? with
          | none => rw [hq] at this; simp at this
          | some y => rw [hq] at this; simp at this; rw [this]
        simp [hb]; omega
    simp only [execOp, hh.eval hx, hh.eval hs, hh.eval hv, Instr.entryStore, Sem.run_bind, MapKept.run_getObj_map (P := P) hb, Result.andThen_ok, asInt, asIntOf, Sem.run_pure]
    rw [hfind]
    simp only [MapKept.run_setObj_map (P := P) _ hb, Result.andThen_ok, Sem.run_pure]
    congr 3
    have h2 : (xs ++ [(k, u)])[xs.length]? = some (k, u) := by simp
    have h3 := entries_set (xs ++ [(k, u)]) xs.length k u v h2 0
    have h4 : (xs ++ [(k, u)]).set xs.length (k, v) = xs ++ [(k, v)] := by simp
    rw [h4] at h3
    simp only [mapObj, h3]
    simp) h
end ops
end Go.Sl
