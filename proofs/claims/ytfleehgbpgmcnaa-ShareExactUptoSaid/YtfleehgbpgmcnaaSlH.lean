/- Literals, cuts, equality of structs of numbers. -/
import Derived.Test.YtfleehgbpgmcnaaSlG
import Derived.Laws.StructEq
import Derived.Great.FillDense
import Derived.Laws.Slices
import Derived.Great.BuildSlice
set_option linter.unusedVariables false
namespace Go.Sl
open Go

/-! ### literals of structs and arrays -/
/-- what stands in the cells, the parts written one by one -/
def fillL (pl : List (Nat × Nat)) (cells : List Value) : List (Nat × Value) → List Value
  | [] => cells
  | (i, v) :: rest => match pl[i]? with
    | some (off, _) => fillL pl (cells.take off ++ (v.cells.toList ++ cells.drop (off + v.cells.toList.length))) rest
    | none => fillL pl cells rest
def fillOk (pl : List (Nat × Nat)) (n : Nat) : List (Nat × Value) → Bool
  | [] => true
  | (i, v) :: rest => (match pl[i]? with
    | some (off, size) => Nat.beq v.cells.toList.length size && Nat.ble (off + v.cells.toList.length) n
    | none => false) && fillOk pl n rest
theorem set_all (off : Nat) (v : Value) (cells : List Value) (h2 : off + v.cells.toList.length ≤ cells.length) :
    (v.cells.zipIdx.foldl (fun cs (x : Value × Nat) => cs.setIfInBounds (off + x.2) x.1) cells.toArray) = (cells.take off ++ (v.cells.toList ++ cells.drop (off + v.cells.toList.length))).toArray := by
  obtain ⟨g1, g2⟩ := Great.foldl_set off v.cells.toList 0 cells.toArray
  have e0 : v.cells.zipIdx.foldl (fun cs (x : Value × Nat) => cs.setIfInBounds (off + x.2) x.1) cells.toArray = (v.cells.toList.zipIdx 0).foldl (fun cs (x : Value × Nat) => cs.setIfInBounds (off + x.2) x.1) cells.toArray := by
    rw [← Array.foldl_toList]; simp
  rw [e0]
  apply Array.ext'
  apply List.ext_getElem?
  intro k
  rw [Array.getElem?_toList, g2 k]
  simp only [Nat.add_zero, List.size_toArray, List.getElem?_toArray]
  simp only [List.getElem?_append, List.length_take, List.getElem?_take, List.getElem?_drop]
  have hm : min off cells.length = off := by omega
  rw [hm]
  by_cases ha : k < off
  · rw [if_neg (by omega), if_pos ha, if_pos ha]
  · rw [if_neg ha]
    by_cases hb : k - off < v.cells.toList.length
    · rw [if_pos (by omega), if_pos hb]
    · rw [if_neg (by omega), if_neg hb]
      congr 1
      omega
theorem fill_step (place : Nat → Option (Nat × Nat)) {i off size : Nat} {v : Value} (rest : List (Nat × Value)) {cells : List Value} (hp : place i = some (off, size)) (h1 : v.cells.toList.length = size) (h2 : off + v.cells.toList.length ≤ cells.length) :
    Instr.fill place cells.toArray ((i, v) :: rest) = Instr.fill place (cells.take off ++ (v.cells.toList ++ cells.drop (off + v.cells.toList.length))).toArray rest := by
  have hsz : v.cells.size = size := by rw [← h1]; simp
  rw [Instr.fill, hp]
  rw [Array.length_toList, hsz] at h2
  simp only [hsz]
  rw [if_neg (by simp; omega)]
  rw [← set_all off v cells (by rw [Array.length_toList, hsz]; exact h2)]
theorem fill_eq (place : Nat → Option (Nat × Nat)) (pl : List (Nat × Nat)) (hp : ∀ i x, pl[i]? = some x → place i = some x) : ∀ (parts : List (Nat × Value)) (cells : List Value) (n : Nat), cells.length = n → fillOk pl n parts = true →
    Instr.fill place cells.toArray parts = some (fillL pl cells parts).toArray
  | [], _, _, _, _ => rfl
  | (i, v) :: rest, cells, n, hn, hok => by
    unfold fillOk at hok
    cases hpl : pl[i]? with
    | none => simp [hpl] at hok
    | some x =>
      obtain ⟨off, size⟩ := x
      simp only [hpl, Bool.and_eq_true] at hok
      obtain ⟨⟨h1, h2⟩, h3⟩ := hok
      have h1 : v.cells.toList.length = size := Nat.eq_of_beq_eq_true h1
      have h2 : off + v.cells.toList.length ≤ n := Nat.le_of_ble_eq_true h2
      rw [fill_step place rest (hp i _ hpl) h1 (by omega)]
      rw [fill_eq place pl hp rest _ n (by simp only [List.length_append, List.length_take, List.length_drop]; omega) h3]
      simp [fillL, hpl]
/-- a struct's places and first cells, closed -/
def StructOf (P : Program) (t : TypeId) (pl : List (Nat × Nat)) (zs : List Value) : Prop :=
  ∃ z fs, P.underlying t = some (.struct fs) ∧ (∀ w, (zeroValue t).run P w = .ok z w) ∧ z.cells = zs.toArray ∧ fs.toList.map (fun f => (f.offset, (P.info? f.type).map (·.size))) = pl.map fun x => (x.1, some x.2)
theorem StructOf.of {P : Program} {t : TypeId} {pl : List (Nat × Nat)} {zs : List Value} (fs : Array Field) (hu : P.underlying t = some (.struct fs)) (hz : ((P.info? t).bind (·.zero)).map (·.cells) = some zs.toArray)
    (hp : fs.toList.map (fun f => (f.offset, (P.info? f.type).map (·.size))) = pl.map fun x => (x.1, some x.2)) : StructOf P t pl zs := by
  cases hi : P.info? t with
  | none => simp [hi] at hz
  | some i =>
    cases hz' : i.zero with
    | none => simp [hi, hz'] at hz
    | some z => exact ⟨z, fs, hu, fun w => by simp [zeroValue, typeInfo, hi, hz'], by simpa [hi, hz'] using hz, hp⟩
theorem run_places {P : Program} (w : World) : ∀ (fs : List Field) (pl : List (Nat × Nat)), fs.map (fun f => (f.offset, (P.info? f.type).map (·.size))) = pl.map (fun x => (x.1, some x.2)) →
    (fs.mapM (fun f => do pure (f.offset, ← sizeOf f.type)) : Sem (List (Nat × Nat))).run P w = .ok pl w
  | [], [], _ => rfl
  | [], _ :: _, h => by simp at h
  | _ :: _, [], h => by simp at h
  | f :: fs, (o, s) :: pl, h => by
    simp only [List.map_cons, List.cons.injEq, Prod.mk.injEq] at h
    obtain ⟨⟨h1, h2⟩, h3⟩ := h
    have ih := run_places w fs pl h3
    rw [List.mapM_cons]
    simp only [Sem.run_bind, run_sizeOf w h2, Result.andThen_ok, Sem.run_pure, ih, h1]
def evParts (e : Env) : List (Nat × Operand) → Option (List (Nat × Value))
  | [] => some []
  | (i, x) :: xs => match e.ev x, evParts e xs with
    | some v, some vs => some ((i, v) :: vs)
    | _, _ => none
section
variable {P : Program} {ops : Array Oper} {rest : List Oper} {B : Bs} {e : Env} {D : List Deferred} {H : Hp} {G : Imm} {K : Act → World → Prop}
  {ty : TypeId} {pos : String} {after : Array Edge} {d : Nat}
theorem Look.parts {a : Act} {w : World} (h : Look e H G a w) : ∀ {xs : List (Nat × Operand)} {vs : List (Nat × Value)}, evParts e xs = some vs → xs.map (fun (i, x) => (i, a.eval x)) = vs
  | [], vs, hx => by simp [evParts] at hx; simp [← hx]
  | (i, x) :: xs, vs, hx => by
    unfold evParts at hx
    split at hx
    · rename_i v us h1 h2
      simp only [Option.some.injEq] at hx
      subst hx
      simp [h.eval h1, h.parts h2]
    · cases hx
theorem Qy.build {t : TypeId} {pl : List (Nat × Nat)} {zs cs : List Value} {parts : List (Nat × Operand)} {vs : List (Nat × Value)} (hT : StructOf P t pl zs) (hx : evParts e parts = some vs) (hok : fillOk pl zs.length vs = true)
    (hc : fillL pl zs vs = cs) : Qy P (.build t parts.toArray) ty e H G (.agg cs.toArray) := fun a w _ _ _ _ hh => by
  obtain ⟨z, fs, hu, hz, hzc, hp⟩ := hT
  have hpl := run_places (P := P) w fs.toList pl hp
  have hpl' : (fs.mapM (fun f => do pure (f.offset, ← sizeOf f.type)) : Sem (Array (Nat × Nat))).run P w = .ok pl.toArray w := by
    have e1 : (fs.mapM (fun f => do pure (f.offset, ← sizeOf f.type)) : Sem (Array (Nat × Nat))) = List.toArray <$> (fs.toList.mapM (fun f => do pure (f.offset, ← sizeOf f.type))) := by
      rw [Array.mapM_eq_mapM_toList]
    rw [e1, map_eq_pure_bind]
    simp only [Sem.run_bind, hpl, Result.andThen_ok, Sem.run_pure]
  have hf := fill_eq (fun i => pl[i]?) pl (fun i x h => h) vs zs zs.length rfl hok
  have hm : (parts.toArray.map fun (i, x) => (i, a.eval x)) = vs.toArray := by rw [← hh.parts hx]; simp
  subst hc
  simp only [execOp, hm, Instr.build, Sem.run_bind, hz w, Result.andThen_ok, run_underlying hu, hpl', hzc]
  simp [hf]
/-- .. of an array -/
def ArrayOf (P : Program) (t : TypeId) (n sz : Nat) (zs : List Value) : Prop :=
  ∃ z E, P.underlying t = some (.array n E) ∧ (∀ w, (zeroValue t).run P w = .ok z w) ∧ z.cells = zs.toArray ∧ (P.info? E).map (·.size) = some sz
theorem ArrayOf.of {P : Program} {t : TypeId} {n sz : Nat} {zs : List Value} (E : TypeId) (hu : P.underlying t = some (.array n E)) (hz : ((P.info? t).bind (·.zero)).map (·.cells) = some zs.toArray)
    (hp : (P.info? E).map (·.size) = some sz) : ArrayOf P t n sz zs := by
  cases hi : P.info? t with
  | none => simp [hi] at hz
  | some i =>
    cases hz' : i.zero with
    | none => simp [hi, hz'] at hz
    | some z => exact ⟨z, E, hu, fun w => by simp [zeroValue, typeInfo, hi, hz'], by simpa [hi, hz'] using hz, hp⟩
def evenPl (n sz : Nat) : List (Nat × Nat) := (List.range n).map fun i => (i * sz, sz)
theorem Qy.buildA {t : TypeId} {n sz : Nat} {zs cs : List Value} {parts : List (Nat × Operand)} {vs : List (Nat × Value)} (hT : ArrayOf P t n sz zs) (hx : evParts e parts = some vs) (hok : fillOk (evenPl n sz) zs.length vs = true)
    (hc : fillL (evenPl n sz) zs vs = cs) : Qy P (.build t parts.toArray) ty e H G (.agg cs.toArray) := fun a w _ _ _ _ hh => by
  obtain ⟨z, E, hu, hz, hzc, hp⟩ := hT
  have hf := fill_eq (fun i => some (i * sz, sz)) (evenPl n sz) (fun i x h => by
    simp only [evenPl, List.getElem?_map, Option.map_eq_some_iff] at h
    obtain ⟨j, hj, rfl⟩ := h
    obtain ⟨hlt, hj⟩ := List.getElem?_eq_some_iff.1 hj
    simp at hj; subst hj; rfl) vs zs zs.length rfl hok
  have hm : (parts.toArray.map fun (i, x) => (i, a.eval x)) = vs.toArray := by rw [← hh.parts hx]; simp
  subst hc
  simp only [execOp, hm, Instr.build, Sem.run_bind, hz w, Result.andThen_ok, run_underlying hu, run_sizeOf w hp, hzc]
  simp [hf]

/-! ### literals of slices -/
theorem fill_flat {α : Type} [Cells α] (ys : List α) : ∀ (xs : List α) (i : Nat) (vs : List (Nat × Value)) (cells : List Value), cells.length = (i + xs.length) * Cells.sz α →
    vs.map (fun v => (v.1, v.2.cells)) = (xs.zipIdx i).map (fun x => (x.2, (Cells.enc x.1).toArray)) →
    Instr.fill (fun i => some (i * Cells.sz α, Cells.sz α)) cells.toArray vs = some (cells.take (i * Cells.sz α) ++ flat xs).toArray
  | [], i, vs, cells, hl, hv => by
    simp only [List.zipIdx_nil, List.map_nil, List.map_eq_nil_iff] at hv
    subst hv
    simp only [List.length_nil, Nat.add_zero] at hl
    simp [Instr.fill, flat, ← hl]
  | x :: xs, i, vs, cells, hl, hv => by
    cases vs with
    | nil => simp at hv
    | cons v vs =>
      simp only [List.map_cons, List.zipIdx_cons, List.cons.injEq, Prod.mk.injEq] at hv
      obtain ⟨⟨h1, h2⟩, h3⟩ := hv
      obtain ⟨j, v⟩ := v
      simp only at h1 h2
      subst h1
      have e1 : (j + (x :: xs).length) * Cells.sz α = j * Cells.sz α + Cells.sz α + xs.length * Cells.sz α := by simp only [List.length_cons, Nat.add_mul, Nat.one_mul]; omega
      have hvl : v.cells.toList.length = Cells.sz α := by rw [h2]; simp [Cells.len]
      have step := fill_step (fun i => some (i * Cells.sz α, Cells.sz α)) (i := j) (v := v) vs (cells := cells) rfl hvl (by rw [hl, e1, hvl]; omega)
      rw [step]
      rw [fill_flat ys xs (j + 1) vs _ (by simp only [List.length_append, List.length_take, List.length_drop, hvl, Nat.add_mul, Nat.one_mul]; omega) h3]
      have e2 : (j + 1) * Cells.sz α = j * Cells.sz α + Cells.sz α := by simp only [Nat.add_mul, Nat.one_mul]
      have e3 : List.take ((j + 1) * Cells.sz α) (List.take (j * Cells.sz α) cells ++ (v.cells.toList ++ List.drop (j * Cells.sz α + v.cells.toList.length) cells)) = List.take (j * Cells.sz α) cells ++ Cells.enc x := by
        rw [e2, ← List.append_assoc, List.take_append_of_le_length (by simp only [List.length_append, List.length_take, hvl]; omega)]
        rw [List.take_of_length_le (by simp only [List.length_append, List.length_take, hvl]; omega), h2]
      rw [e3, flat_cons, List.append_assoc]
/-- a slice literal, every place written -/
theorem Wl.lit {α : Type} [Cells α] {T : TypeId} {E bytes n : Nat} {zs : List Value} {parts : List (Nat × Operand)} {vs : List (Nat × Value)} (t : Nat) (xs : List α) (hn : Nat.ble (d + 1) B.n = true) (hT : isSlice P T E (Cells.sz α)) (hE : ElemOf P E (Cells.sz α) bytes zs)
    (hx : evParts e parts = some vs) (hv : vs.map (fun v => (v.1, v.2.cells)) = (xs.zipIdx 0).map (fun x => (x.2, (Cells.enc x.1).toArray))) (hl : xs.length = n) (hp : Nat.ble 1 n = true) (hs : Nat.ble (n * Cells.sz α) 16777216 = true)
    (h : ∀ b, Wl P ops rest B ⟨(d, .slice (some ⟨b, 0, none⟩) xs.length n) :: e, D, (t, some b, Row E xs []) :: H, G⟩ K) :
    Wl P ops (⟨some d, .buildSlice T n parts.toArray, ty, pos, after, none⟩ :: rest) B ⟨e, D, H, G⟩ K := by
  obtain ⟨i, z, hi, hz1, hz2, hsz, hby, hzl, hs0⟩ := hE
  have hp := Nat.le_of_ble_eq_true hp
  have hs := Nat.le_of_ble_eq_true hs
  refine Wl.valueNew (v := fun b => .slice (some ⟨b, 0, none⟩) xs.length n) t hn (fun a w hh => ?_) h
  have hm : (parts.toArray.map fun (i, x) => (i, a.eval x)) = vs.toArray := by rw [← hh.look.parts hx]; simp
  have hf := fill_flat xs xs 0 vs (((Array.range (n * i.size)).map (z.cells[· % z.cells.size]!)).toList) (by simp [hsz, hl]) hv
  simp only [Array.toArray_toList, Nat.zero_mul, List.take_zero, List.nil_append] at hf
  have h1 := run_buildSlice (P := P) w T E n vs.toArray (flat xs).toArray i z hT.1 hi hz1 (by rw [hsz]; omega) (by rw [hsz]; have := Nat.mul_pos hp hs0; omega) (by rw [hsz]; rw [hsz] at hf; exact hf)
  subst hl
  simp only [execOp, hm, Sem.run_bind, h1, Result.andThen_ok, Sem.run_pure, Row, List.append_nil]
/-- an empty one -/
theorem Wl.lit0 {T : TypeId} {E sz : Nat} (t : Nat) (hn : Nat.ble (d + 1) B.n = true) (hT : isSlice P T E sz)
    (h : ∀ b, Wl P ops rest B ⟨(d, .slice (some ⟨b, 0, none⟩) 0 0) :: e, D, (t, some b, .cells #[] E (0, 0)) :: H, G⟩ K) :
    Wl P ops (⟨some d, .buildSlice T 0 #[], ty, pos, after, none⟩ :: rest) B ⟨e, D, H, G⟩ K :=
  Wl.valueNew (v := fun b => .slice (some ⟨b, 0, none⟩) 0 0) t hn (fun a w hh => by
    simp [execOp, Instr.buildSlice, run_underlying hT.1, run_sizeOf w hT.2, Instr.fill, newRow, show Array.range 0 = #[] from Array.eq_empty_of_size_eq_zero (by simp)]) h

/-! ### cuts -/
section cut
variable {T : TypeId} {x : Operand} {a : Option Addr} {n c E sz : Nat}
theorem Qy.cutH {hi : Operand} {k : IntKind} {m : Int} (hT : isSlice P T E sz) (hx : e.ev x = some (.slice a n c)) (hh : e.ev hi = some (.int k m)) (hb : 0 ≤ m ∧ m ≤ c) :
    Qy P (.slice T x none (some hi) none) ty e H G (.slice (subA a c 0 sz) m.toNat c) := fun ac w _ _ _ _ hk => by
  have hr := run_sizeOf (P := P) w hT.2
  have hu : P.underlying T = some (.slice (P.elem T)) := by simp [Program.elem, hT.1]
  have he : P.elem T = E := by simp [Program.elem, hT.1]
  have := run_slice_h (P := P) (w := w) T a n c hu k m hb.1 hb.2
  simp only [execOp, hk.eval hx, Option.map_some, Option.map_none, hk.eval hh, Sem.run_bind, run_sliceAt_slice (P := P) (w := w) T _ _ _ _ hu, this, he, hr, Result.andThen_ok, Sem.run_pure, sliced, subA, Nat.sub_zero]
theorem Qy.cutL {lo : Operand} {k : IntKind} {m : Int} (hT : isSlice P T E sz) (hx : e.ev x = some (.slice a n c)) (hh : e.ev lo = some (.int k m)) (hb : 0 ≤ m ∧ m ≤ n) (hc : n ≤ c) :
    Qy P (.slice T x (some lo) none none) ty e H G (.slice (subA a c m.toNat sz) (n - m.toNat) (c - m.toNat)) := fun ac w _ _ _ _ hk => by
  have hr := run_sizeOf (P := P) w hT.2
  have hu : P.underlying T = some (.slice (P.elem T)) := by simp [Program.elem, hT.1]
  have he : P.elem T = E := by simp [Program.elem, hT.1]
  have := run_slice_l (P := P) (w := w) T a n c hu k m hb.1 hb.2
  simp only [execOp, hk.eval hx, Option.map_some, Option.map_none, hk.eval hh, Sem.run_bind, run_sliceAt_slice (P := P) (w := w) T _ _ _ _ hu, this, he, hr, Result.andThen_ok, Sem.run_pure, sliced, subA]
theorem Qy.cutLH {lo hi : Operand} {k k' : IntKind} {m m' : Int} (hT : isSlice P T E sz) (hx : e.ev x = some (.slice a n c)) (hh : e.ev lo = some (.int k m)) (hh' : e.ev hi = some (.int k' m')) (h0 : 0 ≤ m) (h1 : m ≤ m') (h2 : m' ≤ c) :
    Qy P (.slice T x (some lo) (some hi) none) ty e H G (.slice (subA a c m.toNat sz) (m'.toNat - m.toNat) (c - m.toNat)) := fun ac w _ _ _ _ hk => by
  have hr := run_sizeOf (P := P) w hT.2
  have hu : P.underlying T = some (.slice (P.elem T)) := by simp [Program.elem, hT.1]
  have he : P.elem T = E := by simp [Program.elem, hT.1]
  have := run_slice_lh (P := P) (w := w) T a n c hu k k' m m' h0 h1 h2
  simp only [execOp, hk.eval hx, Option.map_some, Option.map_none, hk.eval hh, hk.eval hh', Sem.run_bind, run_sliceAt_slice (P := P) (w := w) T _ _ _ _ hu, this, he, hr, Result.andThen_ok, Sem.run_pure, sliced, subA]
theorem Qy.cutA (hT : isSlice P T E sz) (hx : e.ev x = some (.slice a n c)) :
    Qy P (.slice T x none none none) ty e H G (.slice (subA a c 0 sz) n c) := fun ac w _ _ _ _ hk => by
  have hr := run_sizeOf (P := P) w hT.2
  have hu : P.underlying T = some (.slice (P.elem T)) := by simp [Program.elem, hT.1]
  have he : P.elem T = E := by simp [Program.elem, hT.1]
  have := run_slice_all (P := P) (w := w) T a n c hu
  simp only [execOp, hk.eval hx, Option.map_none, Sem.run_bind, run_sliceAt_slice (P := P) (w := w) T _ _ _ _ hu, this, he, hr, Result.andThen_ok, Sem.run_pure, sliced, subA, Nat.sub_zero]
end cut

/-! ### structs of numbers: '==' -/
def fieldI64 (P : Program) (f : Field) : Bool × Nat := (f.name != "_" && (match P.underlying f.type with | some (.int .i64) => true | _ => false) && oneB P f.type, f.offset)
def AllInt (P : Program) (t n : Nat) : Prop := P.underlying t = some (.struct (P.fieldsOf t)) ∧ P.stoodInHeld t = false ∧ P.eqGuardType P.depth t = false ∧
  (P.fieldsOf t).toList.map (fieldI64 P) = (List.range n).map fun i => (true, i)
def ints (xs : List Int) : Array Value := (xs.map (Value.int .i64)).toArray
theorem run_eqInts {P : Program} (w : World) (xs ys : List Int) (n : Nat) (hx : xs.length = n) (hy : ys.length = n) : ∀ (fs : List Field) (s : Nat),
    fs.map (fieldI64 P) = (List.range' s (n - s)).map (fun i => (true, i)) → s ≤ n →
    (Op.eqFields 9999 (ints xs) (ints ys) fs).run P w = .ok (decide (xs.drop s = ys.drop s)) w
  | [], s, h, hs => by
    have h0 : n - s = 0 := by
      have := congrArg List.length h; simpa using this.symm
    simp only [Op.eqFields, Sem.run_pure]
    rw [List.drop_eq_nil_of_le (by omega), List.drop_eq_nil_of_le (by omega)]
    simp
  | f :: fs, s, h, hs => by
    have hlen : n - s = fs.length + 1 := by have := congrArg List.length h; simpa using this.symm
    have hsn : s < n := by omega
    rw [show n - s = (n - (s + 1)) + 1 by omega, List.range'_succ] at h
    simp only [List.map_cons, fieldI64, List.cons.injEq, Prod.mk.injEq, Bool.and_eq_true] at h
    obtain ⟨⟨⟨⟨h1, h2⟩, h3⟩, h4⟩, h5⟩ := h
    have ih := run_eqInts (P := P) w xs ys n hx hy fs (s + 1) h5 (by omega)
    have hname : f.name ≠ "_" := by simpa using h1
    have hint : P.underlying f.type = some (.int .i64) := by
      split at h2
      · assumption
      · cases h2
    have hpart : ∀ zs : List Int, zs.length = n → (part f.type (ints zs) f.offset).run P w = .ok (.int .i64 (zs[s]?.getD 0)) w := fun zs hz => by
      have hl : s < zs.length := by omega
      simp [part, run_isAgg_one w h3, h4, ints, hl]
    rw [Op.eqFields, if_pos hname]
    simp only [Sem.run_bind, hpart xs hx, hpart ys hy, Result.andThen_ok, run_equalIn_int (P := P) w 9998 f.type .i64 .i64 _ _ hint]
    have hxl : s < xs.length := by omega
    have hyl : s < ys.length := by omega
    have ex : xs.drop s = (xs[s]?.getD 0) :: xs.drop (s + 1) := by rw [List.drop_eq_getElem_cons hxl]; simp [hxl]
    have ey : ys.drop s = (ys[s]?.getD 0) :: ys.drop (s + 1) := by rw [List.drop_eq_getElem_cons hyl]; simp [hyl]
    rw [ex, ey]
    by_cases hq : xs[s]?.getD 0 = ys[s]?.getD 0
    · simp [hq, ih]
    · simp [hq]
theorem run_equal_ints {P : Program} {t n : Nat} (hT : AllInt P t n) (w : World) (xs ys : List Int) (hx : xs.length = n) (hy : ys.length = n) : (Op.equal t (.agg (ints xs)) (.agg (ints ys))).run P w = .ok (decide (xs = ys)) w := by
  obtain ⟨h1, h2, h3, h4⟩ := hT
  have := run_eqInts (P := P) w xs ys n hx hy (P.fieldsOf t).toList 0 (by rw [h4, Nat.sub_zero, List.range_eq_range']) (Nat.zero_le _)
  simp only [Op.equal, Op.maxDepth]
  rw [run_equalIn_agg (P := P) w 9999 t _ _ h1 h2, this]
  simp
theorem Qy.eqlI {t t' : TypeId} {x y : Operand} {n : Nat} (xs ys : List Int) (hT : AllInt P t n) (hx : e.ev x = some (.agg (ints xs))) (hy : e.ev y = some (.agg (ints ys))) (h1 : xs.length = n) (h2 : ys.length = n) :
    Qy P (.binOp .eql t x y t') ty e H G (.bool (decide (xs = ys))) := fun a w _ _ _ _ hh => by
  simp only [execOp, hh.eval hx, hh.eval hy, Sem.run_bind, run_eqGuard_agg (P := P) w .eql t x y _ _ hT.2.2.1, Result.andThen_ok, run_eql_struct]
  have := run_equal_ints hT w xs ys h1 h2
  simp only [Op.equal, Op.maxDepth] at this
  simp [this]
theorem Qy.neqI {t t' : TypeId} {x y : Operand} {n : Nat} (xs ys : List Int) (hT : AllInt P t n) (hx : e.ev x = some (.agg (ints xs))) (hy : e.ev y = some (.agg (ints ys))) (h1 : xs.length = n) (h2 : ys.length = n) :
    Qy P (.binOp .neq t x y t') ty e H G (.bool (decide (xs ≠ ys))) := fun a w _ _ _ _ hh => by
  simp only [execOp, hh.eval hx, hh.eval hy, Sem.run_bind, run_eqGuard_agg (P := P) w .neq t x y _ _ hT.2.2.1, Result.andThen_ok, run_neq_struct]
  have := run_equal_ints hT w xs ys h1 h2
  simp only [Op.equal, Op.maxDepth] at this
  simp [this]
/-- two instructions -/
theorem ints_instr (i : Instr) : ints [i.op, i.to, i.a, i.b, i.c] = (Cells.enc i).toArray := rfl
theorem instr_eq (i j : Instr) : ([i.op, i.to, i.a, i.b, i.c] = [j.op, j.to, j.a, j.b, j.c]) = (i = j) := by
  cases i; cases j; simp
theorem Qy.eqlInstr {t t' : TypeId} {x y : Operand} {i j : Instr} (hT : AllInt P t 5) (hx : e.ev x = some (.agg (Cells.enc i).toArray)) (hy : e.ev y = some (.agg (Cells.enc j).toArray)) :
    Qy P (.binOp .eql t x y t') ty e H G (.bool (decide (i = j))) := by
  have := Qy.eqlI (t' := t') (ty := ty) (H := H) (G := G) [i.op, i.to, i.a, i.b, i.c] [j.op, j.to, j.a, j.b, j.c] hT hx hy rfl rfl
  simpa only [instr_eq] using this
theorem Qy.neqInstr {t t' : TypeId} {x y : Operand} {i j : Instr} (hT : AllInt P t 5) (hx : e.ev x = some (.agg (Cells.enc i).toArray)) (hy : e.ev y = some (.agg (Cells.enc j).toArray)) :
    Qy P (.binOp .neq t x y t') ty e H G (.bool (decide (i ≠ j))) := by
  have := Qy.neqI (t' := t') (ty := ty) (H := H) (G := G) [i.op, i.to, i.a, i.b, i.c] [j.op, j.to, j.a, j.b, j.c] hT hx hy rfl rfl
  simpa only [instr_eq, ne_eq] using this
end
end Go.Sl
