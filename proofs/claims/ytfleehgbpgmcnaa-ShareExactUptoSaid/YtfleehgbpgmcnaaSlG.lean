/- Rows of the call's own: made, written, appended to. -/
import Derived.Test.YtfleehgbpgmcnaaSlF
set_option linter.unusedVariables false
namespace Go.Sl
open Go

/-- an element type: cells, bytes, what it is at first -/
def ElemOf (P : Program) (E sz bytes : Nat) (zs : List Value) : Prop := ∃ i z, P.info? E = some i ∧ i.zero = some z ∧ z.cells = zs.toArray ∧ i.size = sz ∧ i.bytes = bytes ∧ zs.length = sz ∧ 0 < sz
theorem ElemOf.of {P : Program} {E sz bytes : Nat} {zs : List Value} (h : (P.info? E).map (fun i => (i.zero.map (·.cells), i.size, i.bytes)) = some (some zs.toArray, sz, bytes)) (h1 : (Nat.beq zs.length sz && Nat.ble 1 sz) = true) : ElemOf P E sz bytes zs := by
  simp only [Bool.and_eq_true] at h1
  cases hi : P.info? E with
  | none => simp [hi] at h
  | some i =>
    simp only [hi, Option.map_some, Option.some.injEq, Prod.mk.injEq] at h
    obtain ⟨h2, h3, h4⟩ := h
    cases hz : i.zero with
    | none => simp [hz] at h2
    | some z => exact ⟨i, z, hi, hz, by simpa [hz] using h2, h3, h4, Nat.eq_of_beq_eq_true h1.1, Nat.le_of_ble_eq_true h1.2⟩

/-- a row of things, and what lies behind its end -/
def Row {α : Type} [Cells α] (E : TypeId) (xs : List α) (junk : List Value) : Obj := .cells (flat xs ++ junk).toArray E (0, 0)
/-- a slice of the call's own: where it begins, how much room it has -/
def OwnA {α : Type} [Cells α] (a : Option Addr) (c : Nat) (xs : List α) (junk : List Value) : Prop :=
  (a = none ∧ xs = [] ∧ junk = [] ∧ c = 0) ∨ (∃ b, a = some ⟨b, 0, none⟩ ∧ xs.length * Cells.sz α + junk.length = c * Cells.sz α ∧ xs.length ≤ c ∧ c ≤ maxLen)
theorem OwnA.nil {α : Type} [Cells α] : OwnA none 0 ([] : List α) [] := .inl ⟨rfl, rfl, rfl, rfl⟩

section zero
variable {α : Type} [Cells α] [Inhabited α]
theorem made_flat {zs : List Value} (hz : Cells.enc (default : α) = zs) (h0 : 0 < Cells.sz α) (n : Nat) : madeCells zs.toArray (n * Cells.sz α) = (flat (List.replicate n (default : α))).toArray := by
  have hzl : zs.length = Cells.sz α := by rw [← hz, Cells.len]
  apply Array.ext'
  apply List.ext_getElem?
  intro q
  by_cases hq : q < n * Cells.sz α
  · have h1 : q = (q / Cells.sz α) * Cells.sz α + q % Cells.sz α := by rw [Nat.mul_comm]; exact (Nat.div_add_mod q _).symm
    have h2 : q % Cells.sz α < Cells.sz α := Nat.mod_lt _ h0
    have h3 : q / Cells.sz α < n := (Nat.div_lt_iff_lt_mul h0).2 hq
    have h4 := flat_get (List.replicate n (default : α)) (q / Cells.sz α) (q % Cells.sz α) (by simpa using h3) h2
    rw [← h1] at h4
    rw [h4]
    have h5 : ((List.replicate n (default : α))[q / Cells.sz α]?).getD default = default := by simp [h3]
    rw [h5, hz]
    simp only [madeCells, Array.toList_map, Array.toList_range, List.getElem?_map, List.getElem?_range hq, Option.map_some]
    have h6 : q % zs.toArray.size < zs.length := by simp [hzl]; exact h2
    have h7 : zs.toArray[q % zs.toArray.size]! = zs[q % zs.length]'(by simpa using h6) := by
      simp only [List.size_toArray] at h6 ⊢
      rw [getElem!_pos zs.toArray _ (by simpa using h6)]
      simp
    rw [h7, List.getElem?_eq_getElem (by rw [hzl]; exact h2)]
    congr 1
    simp only [hzl]
  · rw [List.getElem?_eq_none (by simp [madeCells]; omega), List.getElem?_eq_none (by simp [flat_length]; omega)]
end zero

section
variable {P : Program} {ops : Array Oper} {rest : List Oper} {B : Bs} {e : Env} {D : List Deferred} {H : Hp} {G : Imm} {K : Act → World → Prop}
  {ty : TypeId} {pos : String} {after : Array Edge} {d : Nat}

/-- what is written of a block, said otherwise -/
theorem Hold.reH {a : Act} {w : World} (hh : Hold B ⟨e, D, H, G⟩ a w) {t : Nat} {k : Option Nat} {o o' : Obj} (ht : H.get t = some (k, o)) (ho : o = o') : Hold B ⟨e, D, (t, k, o') :: H, G⟩ a w := by
  subst ho
  have key : ∀ i x, Hp.get ((t, k, o) :: H) i = some x → H.get i = some x := fun i x hx => by
    rw [Hp.get_cons] at hx
    split at hx
    · rename_i h; subst h; rw [← hx]; exact ht
    · exact hx
  exact hh.weaken (fun _ _ h => h) key
theorem Wl.reH {l : List Oper} (t : Nat) {k : Option Nat} {o : Obj} (o' : Obj) (ht : H.get t = some (k, o)) (ho : o = o') (h : Wl P ops l B ⟨e, D, (t, k, o') :: H, G⟩ K) : Wl P ops l B ⟨e, D, H, G⟩ K := fun a w hh => h a w (hh.reH ht ho)
theorem Wc.reH {r : Option Nat} {c : Code} {Q : Exit → Act → World → Prop} (t : Nat) {k : Option Nat} {o : Obj} (o' : Obj) (ht : H.get t = some (k, o)) (ho : o = o') (h : Wc r P c B ⟨e, D, (t, k, o') :: H, G⟩ Q) : Wc r P c B ⟨e, D, H, G⟩ Q := fun a w hh => h a w (hh.reH ht ho)
theorem Ar.reH {x : Exit} {Q : Exit → Act → World → Prop} (t : Nat) {k : Option Nat} {o : Obj} (o' : Obj) (ht : H.get t = some (k, o)) (ho : o = o') (h : Ar Q x B ⟨e, D, (t, k, o') :: H, G⟩) : Ar Q x B ⟨e, D, H, G⟩ := fun a w hh => h a w (hh.reH ht ho)
/-- a tag with no block -/
theorem Hold.noBlock {a : Act} {w : World} (hh : Hold B ⟨e, D, H, G⟩ a w) (t : Nat) (o : Obj) : Hold B ⟨e, D, (t, none, o) :: H, G⟩ a w := by
  have key : ∀ i b o', Hp.get ((t, none, o) :: H) i = some (some b, o') → H.get i = some (some b, o') := fun i b o' hx => by
    rw [Hp.get_cons] at hx
    split at hx
    · simp at hx
    · exact hx
  exact ⟨hh.size, hh.defers, hh.env, ⟨fun t b o x => hh.mem.own t b o (key _ _ _ x), fun t t' b o o' x y => hh.mem.one t t' b o o' (key _ _ _ x) (key _ _ _ y), hh.mem.imm, fun t b o x => hh.mem.off t b o (key _ _ _ x)⟩,
    hh.upd, fun t b o x => hh.mine t b o (key _ _ _ x), hh.le, hh.new⟩
theorem Wc.nilRow {r : Option Nat} {c : Code} {Q : Exit → Act → World → Prop} (t : Nat) (o : Obj) (h : Wc r P c B ⟨e, D, (t, none, o) :: H, G⟩ Q) : Wc r P c B ⟨e, D, H, G⟩ Q := fun a w hh => h a w (hh.noBlock t o)
theorem Wl.nilRow {l : List Oper} (t : Nat) (o : Obj) (h : Wl P ops l B ⟨e, D, (t, none, o) :: H, G⟩ K) : Wl P ops l B ⟨e, D, H, G⟩ K := fun a w hh => h a w (hh.noBlock t o)

section row
variable {α : Type} [Cells α]
theorem row_arr {E : TypeId} {xs : List α} {junk : List Value} {b : Nat} (hG : G b = some (Row E xs junk)) : Arr G (some ⟨b, 0, none⟩) xs := by
  refine ⟨flat_length xs, .inr ⟨b, 0, rfl, fun i v hi => ?_⟩⟩
  have hl : i < (flat xs).length := (List.getElem?_eq_some_iff.1 hi).1
  simp only [Imm.cell, hG, Row, Nat.zero_add, List.getElem?_toArray]
  rw [List.getElem?_append_left hl]
  exact hi
theorem Hold.freezeRow {a : Act} {w : World} (hh : Hold B ⟨e, D, H, G⟩ a w) {t : Nat} {ad : Option Addr} {c : Nat} {E : TypeId} {xs : List α} {junk : List Value} (ht : H.get t = some (ad.map (·.block), Row E xs junk)) (ho : OwnA ad c xs junk) :
    ∃ G', G.le G' ∧ Arr G' ad xs ∧ Hold B ⟨e, D, (t, none, default) :: H, G'⟩ a w := by
  rcases ho with ⟨rfl, rfl, rfl, _⟩ | ⟨b, rfl, _⟩
  · exact ⟨G, Imm.le_refl _, Arr.nil G, hh.noBlock t default⟩
  · have ht' : H.get t = some (some b, Row E xs junk) := ht
    obtain ⟨h1, h2⟩ := hh.freeze ht'
    exact ⟨_, h2, row_arr (E := E) (junk := junk) (by simp [Imm.with]), h1⟩
variable {r : Option Nat} {cd : Code} {Q : Exit → Act → World → Prop} {x : Exit} {l : List Oper}
theorem Wl.freezeRow (t : Nat) {ad : Option Addr} {c : Nat} {E : TypeId} {xs : List α} {junk : List Value} (ht : H.get t = some (ad.map (·.block), Row E xs junk)) (ho : OwnA ad c xs junk)
    (h : ∀ G', G.le G' → Arr G' ad xs → Wl P ops l B ⟨e, D, (t, none, default) :: H, G'⟩ K) : Wl P ops l B ⟨e, D, H, G⟩ K := fun a w hh => let ⟨G', h1, h2, h3⟩ := hh.freezeRow ht ho; h G' h1 h2 a w h3
theorem Wc.freezeRow (t : Nat) {ad : Option Addr} {c : Nat} {E : TypeId} {xs : List α} {junk : List Value} (ht : H.get t = some (ad.map (·.block), Row E xs junk)) (ho : OwnA ad c xs junk)
    (h : ∀ G', G.le G' → Arr G' ad xs → Wc r P cd B ⟨e, D, (t, none, default) :: H, G'⟩ Q) : Wc r P cd B ⟨e, D, H, G⟩ Q := fun a w hh => let ⟨G', h1, h2, h3⟩ := hh.freezeRow ht ho; h G' h1 h2 a w h3
theorem Ar.freezeRow (t : Nat) {ad : Option Addr} {c : Nat} {E : TypeId} {xs : List α} {junk : List Value} (ht : H.get t = some (ad.map (·.block), Row E xs junk)) (ho : OwnA ad c xs junk)
    (h : ∀ G', G.le G' → Arr G' ad xs → Ar Q x B ⟨e, D, (t, none, default) :: H, G'⟩) : Ar Q x B ⟨e, D, H, G⟩ := fun a w hh => let ⟨G', h1, h2, h3⟩ := hh.freezeRow ht ho; h G' h1 h2 a w h3

/-! making -/
theorem Wl.make [Inhabited α] {T : TypeId} {x : Operand} {k : IntKind} {m : Int} {E bytes : Nat} {zs : List Value} (t : Nat) (hn : Nat.ble (d + 1) B.n = true) (hT : isSlice P T E (Cells.sz α)) (hE : ElemOf P E (Cells.sz α) bytes zs)
    (hz : Cells.enc (default : α) = zs) (hx : e.ev x = some (.int k m)) (h0 : 0 ≤ m) (hb : bytes * m ≤ 281474976710656 ∧ m ≤ 9223372036854775807)
    (h : ∀ b, Wl P ops rest B ⟨(d, .slice (some ⟨b, 0, none⟩) (List.replicate m.toNat (default : α)).length (List.replicate m.toNat (default : α)).length) :: e, D, (t, some b, Row E (List.replicate m.toNat (default : α)) []) :: H, G⟩ K) :
    Wl P ops (⟨some d, .makeSlice T x x, ty, pos, after, none⟩ :: rest) B ⟨e, D, H, G⟩ K := by
  obtain ⟨i, z, hi, hz1, hz2, hs, hby, hzl, hsz⟩ := hE
  have hr : (List.replicate m.toNat (default : α)).length = m.toNat := by simp
  refine Wl.valueNew (v := fun b => .slice (some ⟨b, 0, none⟩) (List.replicate m.toNat (default : α)).length (List.replicate m.toNat (default : α)).length) t hn (fun a w hh => ?_) h
  have h1 := run_make (P := P) w T E i z hT.1 hi hz1 k k m m h0 (Int.le_refl _) (by rw [hby]; exact hb.1) hb.2
  have h2 : madeCells z.cells (m.toNat * i.size) = (flat (List.replicate m.toNat (default : α)) ++ []).toArray := by rw [hz2, hs, made_flat hz hsz, List.append_nil]
  rw [h2] at h1
  simp only [execOp, hh.eval hx, Row, hr]
  simp [h1]
theorem OwnA.made [Inhabited α] {b : Nat} {xs : List α} (h : xs.length ≤ maxLen) : OwnA (some ⟨b, 0, none⟩) xs.length xs [] := .inr ⟨b, rfl, by simp, Nat.le_refl _, h⟩

/-! reading and writing a row of the call's own -/
theorem row_get [Inhabited α] {xs : List α} {junk : List Value} {m : Int} (hm : 0 ≤ m ∧ m < xs.length) (k : Nat) (hk : k < Cells.sz α) :
    (flat xs ++ junk)[0 + m.toNat * Cells.sz α + k]? = (Cells.enc (xs[m.toNat]?.getD default))[k]? := by
  have hlt : m.toNat < xs.length := by omega
  rw [Nat.zero_add, List.getElem?_append_left (by rw [flat_length]; have := Nat.mul_le_mul_right (Cells.sz α) (show m.toNat + 1 ≤ xs.length by omega); rw [Nat.add_mul] at this; omega)]
  exact flat_get xs m.toNat k hlt hk
theorem Qy.loadF [Inhabited α] {T : TypeId} {x : Operand} {b : Nat} {E : TypeId} {xs : List α} {junk : List Value} {m : Int} {v : Value} (t k : Nat) (h1 : oneB P T = true) (hx : e.ev x = some (.pointer (some ⟨b, 0 + m.toNat * Cells.sz α + k, none⟩)))
    (ht : H.get t = some (some b, Row E xs junk)) (hm : 0 ≤ m ∧ m < xs.length) (hk : Nat.ble (k + 1) (Cells.sz α) = true) (hv : (Cells.enc (xs[m.toNat]?.getD default))[k]? = some v) : Qy P (.load T x) ty e H G v :=
  Qy.load t h1 hx ht ((row_get hm k (Nat.le_of_ble_eq_true hk)).trans hv)
theorem Qy.loadsF [Inhabited α] {T : TypeId} {x : Operand} {b : Nat} {E : TypeId} {xs : List α} {junk : List Value} {m : Int} (t : Nat) (h1 : aggB P T (Cells.sz α) = true) (hx : e.ev x = some (.pointer (some ⟨b, 0 + m.toNat * Cells.sz α, none⟩)))
    (ht : H.get t = some (some b, Row E xs junk)) (hm : 0 ≤ m ∧ m < xs.length) : Qy P (.load T x) ty e H G (.agg (Cells.enc (xs[m.toNat]?.getD default)).toArray) := fun a w _ _ _ _ hh => by
  have hc : ∀ j v, (Cells.enc (xs[m.toNat]?.getD default))[j]? = some v → w.cell? ⟨b, 0 + m.toNat * Cells.sz α + j, none⟩ = some v := fun j v hj => by
    rw [cell_of_block (hh.mem.own t b _ ht)]
    have hl : j < Cells.sz α := by rw [← Cells.len (xs[m.toNat]?.getD default)]; exact (List.getElem?_eq_some_iff.1 hj).1
    exact (row_get hm j hl).trans hj
  have hr := run_loadAt_agg h1 (Cells.len _) hc
  simp only [execOp, hh.eval hx, Sem.run_bind, hr, Result.andThen_ok, Sem.run_pure]
theorem flat_set : ∀ (xs : List α) (i : Nat) (y : α), i < xs.length → (flat xs).take (i * Cells.sz α) ++ Cells.enc y ++ (flat xs).drop (i * Cells.sz α + Cells.sz α) = flat (xs.set i y)
  | [], i, y, h => by simp at h
  | x :: xs, 0, y, _ => by
    rw [flat_cons, Nat.zero_mul, Nat.zero_add, List.take_zero, List.nil_append, List.drop_left' (Cells.len x), List.set_cons_zero, flat_cons]
  | x :: xs, i + 1, y, h => by
    have ih := flat_set xs i y (by simpa using h)
    rw [flat_cons, List.set_cons_succ, flat_cons, ← ih]
    have h1 : (i + 1) * Cells.sz α = (Cells.enc x).length + i * Cells.sz α := by rw [Cells.len, Nat.add_mul]; omega
    rw [h1, List.take_length_add_append, Nat.add_assoc, List.drop_length_add_append, List.append_assoc, List.append_assoc, List.append_assoc]
/-- an element is written, whole -/
theorem Wl.setF {T : TypeId} {x y : Operand} {b : Nat} {E : TypeId} {xs : List α} {junk : List Value} {m : Int} {v : Value} {z : α} (t : Nat) (hs : (P.info? T).map (·.size) = some (Cells.sz α))
    (hx : e.ev x = some (.pointer (some ⟨b, 0 + m.toNat * Cells.sz α, none⟩))) (hy : e.ev y = some v) (hv : v.cells = (Cells.enc z).toArray) (ht : H.get t = some (some b, Row E xs junk)) (hm : 0 ≤ m ∧ m < xs.length)
    (h : Wl P ops rest B ⟨e, D, (t, some b, Row E (xs.set m.toNat z) junk) :: H, G⟩ K) : Wl P ops (⟨none, .store T x y, ty, pos, after, none⟩ :: rest) B ⟨e, D, H, G⟩ K :=
  Wl.writes (v := undef) (x := .skip) ht (.inl ⟨rfl, rfl⟩) (fun a w hh => by
    have hlt : m.toNat < xs.length := by omega
    have hle : m.toNat * Cells.sz α + Cells.sz α ≤ (flat xs).length := by rw [flat_length, ← Nat.succ_mul]; exact Nat.mul_le_mul_right _ hlt
    have hb := hh.mem.own t b _ ht
    have hst := run_storeAt (P := P) (T := T) (off := 0 + m.toNat * Cells.sz α) (cs := flat xs ++ junk) (vs := Cells.enc z) (v := v) (by rw [Cells.len]; exact hs) hv (Cells.one z) hb (by rw [Cells.len, List.length_append]; omega)
    refine ⟨_, by simp only [execOp, hh.eval hx, hh.eval hy, Sem.run_bind, hst, Result.andThen_ok, Sem.run_pure]; rfl, setRow_upd w b _, ?_⟩
    rw [setRow_heap w b _ _ E _ hb]
    rw [Cells.len, Nat.zero_add, List.take_append_of_le_length (by omega), List.drop_append_of_le_length (by omega), ← List.append_assoc, flat_set xs m.toNat z hlt]
    simp [Row]) h

/-! appending -/
/-- the things to be appended can be read -/
def Src (H : Hp) (G : Imm) (a : Option Addr) (ys : List α) : Prop := ∀ w, HoldH H G w → (a = none ∧ ys = []) ∨ ∃ ad, a = some ad ∧ ∀ j v, (flat ys)[j]? = some v → w.cell? (ad.add j) = some v
theorem Src.lit {b : Nat} {bt : TypeId} {fz : Nat × Nat} {cs : List Value} {ys : List α} (t : Nat) (ht : H.get t = some (some b, .cells cs.toArray bt fz)) (hc : cs = flat ys) : Src H G (some ⟨b, 0, none⟩) ys := fun w hw =>
  .inr ⟨_, rfl, fun j v hj => by rw [add_lit, Nat.zero_add, cell_of_block (hw.own _ b _ ht), hc]; exact hj⟩
theorem Src.one {b : Nat} {bt : TypeId} {fz : Nat × Nat} {y : α} (t : Nat) (ht : H.get t = some (some b, .cells (Cells.enc y).toArray bt fz)) : Src H G (some ⟨b, 0, none⟩) [y] := Src.lit t ht (by simp [flat])
theorem Src.row {b : Nat} {E : TypeId} {ys : List α} {junk : List Value} (t : Nat) (ht : H.get t = some (some b, Row E ys junk)) : Src H G (some ⟨b, 0, none⟩) ys := fun w hw =>
  .inr ⟨_, rfl, fun j v hj => by
    rw [add_lit, Nat.zero_add, cell_of_block (hw.own _ b _ ht), List.getElem?_append_left (List.getElem?_eq_some_iff.1 hj).1]; exact hj⟩
theorem Src.arr {a : Option Addr} {ys : List α} (h : Arr G a ys) : Src H G a ys := fun w hw => by
  rcases h.2 with h2 | ⟨b, o, rfl, hr⟩
  · have h3 : ys = [] := List.eq_nil_of_length_eq_zero h2
    subst h3
    cases a with
    | none => exact .inl ⟨rfl, rfl⟩
    | some ad => exact .inr ⟨ad, rfl, fun j v hj => by simp [flat] at hj⟩
  · exact .inr ⟨_, rfl, fun j v hj => by rw [add_lit]; exact hw.cellG (hr j v hj)⟩

theorem take_append_row {xs : List α} {junk : List Value} : (flat xs ++ junk).take (xs.length * Cells.sz α) = flat xs := by rw [← flat_length]; exact List.take_left

theorem Hold.ownNew {a : Act} {w w' : World} (hh : Hold B ⟨e, D, H, G⟩ a w) (t : Nat) {ob : Obj} (hu : Upd (fun _ => False) w w') (hs : w'.heap.size = w.heap.size + 1) (hb : w'.heap[w.heap.size]? = some ob) :
    Hold B ⟨e, D, (t, some w.heap.size, ob) :: H, G⟩ a w' := by
  have hG : G w.heap.size = none := by
    cases hg : G w.heap.size with
    | none => rfl
    | some x => exact absurd (hh.mem.ltG hg) (Nat.lt_irrefl _)
  have hg := hh.grow hu
  refine ⟨hg.size, hg.defers, hg.env, ⟨?_, ?_, hg.mem.imm, ?_⟩, hg.upd, ?_, hg.le, hg.new⟩
  · intro t' b o' x
    rw [Hp.get_cons] at x
    split at x
    · simp only [Option.some.injEq, Prod.mk.injEq] at x; obtain ⟨rfl, rfl⟩ := x; exact hb
    · exact hg.mem.own t' b o' x
  · intro t1 t2 b o1 o2 x y
    rw [Hp.get_cons] at x y
    split at x <;> split at y
    · omega
    · simp only [Option.some.injEq, Prod.mk.injEq] at x; obtain ⟨rfl, rfl⟩ := x; exact absurd (hh.mem.lt y) (Nat.lt_irrefl _)
    · simp only [Option.some.injEq, Prod.mk.injEq] at y; obtain ⟨rfl, rfl⟩ := y; exact absurd (hh.mem.lt x) (Nat.lt_irrefl _)
    · exact hg.mem.one _ _ _ _ _ x y
  · intro t' b o' x
    rw [Hp.get_cons] at x
    split at x
    · simp only [Option.some.injEq, Prod.mk.injEq] at x; obtain ⟨rfl, rfl⟩ := x; exact hG
    · exact hg.mem.off t' b o' x
  · intro t' b o' x
    rw [Hp.get_cons] at x
    split at x
    · simp only [Option.some.injEq, Prod.mk.injEq] at x; obtain ⟨rfl, rfl⟩ := x; exact .inl hh.upd.size
    · exact hg.mine t' b o' x

/-- what an append comes to -/
theorem run_append {w : World} (hw : HoldH H G w) {T E bytes : Nat} {zs : List Value} (hT : isSlice P T E (Cells.sz α)) (hE : ElemOf P E (Cells.sz α) bytes zs) {t : Nat} {a ad : Option Addr} {c c2 : Nat} {xs ys : List α} {junk : List Value}
    (ht : H.get t = some (a.map (·.block), Row E xs junk)) (ho : OwnA a c xs junk) (hsrc : Src H G ad ys) (hb : (xs.length + ys.length) * bytes ≤ 140737488355328) (hl : xs.length + ys.length ≤ maxLen) :
    ∃ a' c' junk' w', (Builtin.append_ #[T, T] ty #[.slice a xs.length c, .slice ad ys.length c2]).run P w = .ok (.slice a' (xs ++ ys).length c') w' ∧ OwnA a' c' (xs ++ ys) junk' ∧
      ((a' = none ∧ a = none ∧ w' = w) ∨
       (∃ b, a' = some ⟨b, 0, none⟩ ∧ a = a' ∧ Upd (· = b) w w' ∧ w'.heap[b]? = some (Row E (xs ++ ys) junk')) ∨
       (a' = some ⟨w.heap.size, 0, none⟩ ∧ Upd (fun _ => False) w w' ∧ w'.heap.size = w.heap.size + 1 ∧ w'.heap[w.heap.size]? = some (Row E (xs ++ ys) junk'))) := by
  obtain ⟨i, z, hi, hz1, hz2, hs, hby, hzl, hsz⟩ := hE
  have hm63 : xs.length + ys.length ≤ 9223372036854775807 := by simp only [maxLen] at hl; omega
  have hlen : (xs ++ ys).length = xs.length + ys.length := List.length_append
  have hyl : (flat ys).length = ys.length * i.size := by rw [flat_length, hs]
  have hxl : (flat xs).length = xs.length * i.size := by rw [flat_length, hs]
  have junkLen : ∀ k, (Builtin.zeroCells z.cells k).toList.length = k * Cells.sz α := fun k => by
    rw [Array.length_toList, size_zeroCells, hz2]; simp [hzl]
  have fresh : ∀ old, old < xs.length + ys.length → ∃ junk', OwnA (some ⟨w.heap.size, 0, none⟩) (grownCap w (xs.length + ys.length) old E) (xs ++ ys) junk' ∧
      (w.drew.alloc (.cells ((flat xs).toArray ++ (flat ys).toArray ++ Builtin.zeroCells z.cells (grownCap w (xs.length + ys.length) old E - (xs.length + ys.length))) E)).heap[w.heap.size]? = some (Row E (xs ++ ys) junk') := fun old hold => by
    have hge := grownCap_ge w (xs.length + ys.length) old E
    have hcm : grownCap w (xs.length + ys.length) old E ≤ maxLen := grownCap_le_maxLen w _ old E hl
    refine ⟨(Builtin.zeroCells z.cells (grownCap w (xs.length + ys.length) old E - (xs.length + ys.length))).toList, .inr ⟨_, rfl, ?_, by rw [hlen]; exact hge, hcm⟩, ?_⟩
    · rw [junkLen, hlen, ← Nat.add_mul]; congr 1; omega
    · rw [show w.heap.size = w.drew.heap.size from rfl, alloc_new]
      congr 1
      simp [Row, flat_append]
  have hupd : ∀ o, Upd (fun _ => False) w (w.drew.alloc o) := fun o => (Upd.refl _ w).drew.alloc o
  rcases hsrc w hw with ⟨rfl, rfl⟩ | ⟨src, rfl, hsr⟩
  · -- nothing to append
    simp only [List.append_nil, List.length_nil, Nat.add_zero] at hb hl fresh hlen hm63 ⊢
    rcases ho with ⟨rfl, rfl, rfl, rfl⟩ | ⟨b, rfl, hj, hc, hcm⟩
    · refine ⟨none, 0, [], w, ?_, OwnA.nil, .inl ⟨rfl, rfl, rfl⟩⟩
      simp [Builtin.append_, run_underlying hT.1, sizeOf, typeInfo, hi, Builtin.lenOf, Builtin.firstCells]
    · have hblk := hw.own t b _ ht
      refine ⟨some ⟨b, 0, none⟩, c, junk, w, ?_, .inr ⟨b, rfl, hj, hc, hcm⟩, .inr (.inl ⟨b, rfl, rfl, Upd.refl _ _, hblk⟩)⟩
      simp [Builtin.append_, run_underlying hT.1, sizeOf, typeInfo, hi, Builtin.lenOf, Builtin.firstCells, hc, storeCells]
  · rcases ho with ⟨rfl, rfl, rfl, rfl⟩ | ⟨b, rfl, hj, hc, hcm⟩
    · -- from nil
      simp only [List.length_nil, Nat.zero_add, List.nil_append] at hb hl fresh hlen hm63 ⊢
      by_cases h0 : ys.length = 0
      · have hy : ys = [] := List.eq_nil_of_length_eq_zero h0
        subst hy
        refine ⟨none, 0, [], w, ?_, OwnA.nil, .inl (by simp)⟩
        simp [Builtin.append_, run_underlying hT.1, sizeOf, typeInfo, hi, Builtin.lenOf, Builtin.firstCells, loadCells, loadCellsFrom]
      · have hr := run_append_nil (P := P) w T ty E i z hT.1 hi hz1 src ys.length c2 (flat ys) hyl hsr (by omega) (by omega) (by rw [hby]; omega)
        obtain ⟨junk', h1, h2⟩ := fresh 0 (by omega)
        refine ⟨_, _, junk', _, hr, h1, .inr (.inr ⟨rfl, hupd _, by simp, ?_⟩)⟩
        simpa [flat] using h2
    · have hblk := hw.own t b _ ht
      have hcsz : (flat xs ++ junk).toArray.size = c * i.size := by simp [flat_length, hs, hj]
      by_cases hroom : xs.length + ys.length ≤ c
      · have hfit : xs.length * i.size + (flat ys).length ≤ (flat xs ++ junk).toArray.size := by rw [hcsz, hyl, ← Nat.add_mul]; exact Nat.mul_le_mul_right _ hroom
        have hr := run_append_room (P := P) w T ty E i hT.1 hi b xs.length c (flat xs ++ junk).toArray hblk src ys.length c2 (flat ys) hyl hsr (by simpa using flat_all ys) hroom hfit
        have e1 : ((flat xs ++ junk).toArray.toList.take (xs.length * i.size) ++ flat ys ++ (flat xs ++ junk).toArray.toList.drop (xs.length * i.size + (flat ys).length)) = flat (xs ++ ys) ++ junk.drop (flat ys).length := by
          rw [hs, take_append_row, flat_append]
          congr 1
          rw [← flat_length, List.drop_length_add_append]
        rw [e1] at hr
        refine ⟨_, _, junk.drop (flat ys).length, _, by rw [hlen]; exact hr, .inr ⟨b, rfl, ?_, by rw [hlen]; exact hroom, hcm⟩, .inr (.inl ⟨b, rfl, rfl, setRow_upd w b _, ?_⟩)⟩
        · rw [List.length_drop, hlen, flat_length]
          have h2 : xs.length * Cells.sz α + ys.length * Cells.sz α ≤ c * Cells.sz α := by rw [← Nat.add_mul]; exact Nat.mul_le_mul_right _ hroom
          rw [Nat.add_mul]; omega
        · rw [setRow_heap w b _ _ E _ hblk]; rfl
      · have hcell : ∀ j v, (flat xs)[j]? = some v → w.cell? ((⟨b, 0, none⟩ : Addr).add j) = some v := fun j v hv => by
          rw [add_lit, Nat.zero_add, cell_of_block hblk, List.getElem?_append_left (List.getElem?_eq_some_iff.1 hv).1]; exact hv
        have hr := run_append_grow (P := P) w T ty E i z hT.1 hi hz1 ⟨b, 0, none⟩ xs.length c (flat xs) hxl hcell src ys.length c2 (flat ys) hyl hsr (by omega) (by omega) (growslice_fits (by omega) (by rw [hby]; exact hb))
        obtain ⟨junk', h1, h2⟩ := fresh c (by omega)
        exact ⟨_, _, junk', _, by rw [hlen]; exact hr, h1, .inr (.inr ⟨rfl, hupd _, by simp, h2⟩)⟩
/-- 'append(s, ys...)' to a slice of the call's own -/
theorem Wl.append {s x : Operand} {T E bytes : Nat} {zs : List Value} {a ad : Option Addr} {c c2 : Nat} {xs ys : List α} {junk : List Value} (t : Nat) (hn : Nat.ble (d + 1) B.n = true) (hT : isSlice P T E (Cells.sz α)) (hE : ElemOf P E (Cells.sz α) bytes zs)
    (hs : e.ev s = some (.slice a xs.length c)) (hx : e.ev x = some (.slice ad ys.length c2)) (ht : H.get t = some (a.map (·.block), Row E xs junk)) (ho : OwnA a c xs junk) (hsrc : Src H G ad ys)
    (hb : (xs.length + ys.length) * bytes ≤ 140737488355328) (hl : xs.length + ys.length ≤ maxLen)
    (h : ∀ a' c' junk', OwnA a' c' (xs ++ ys) junk' → Wl P ops rest B ⟨(d, .slice a' (xs ++ ys).length c') :: e, D, (t, a'.map (·.block), Row E (xs ++ ys) junk') :: H, G⟩ K) :
    Wl P ops (⟨some d, .call { callee := .builtin .append, args := #[s, x], argTypes := #[T, T] }, ty, pos, after, none⟩ :: rest) B ⟨e, D, H, G⟩ K := by
  intro ac w hh
  obtain ⟨a', c', junk', w', hrun, ho', hcase⟩ := run_append (c2 := c2) (ty := ty) hh.mem hT hE ht ho hsrc hb hl
  unfold lstWp
  rw [if_pos (by simp [Region.wanted])]
  unfold opWp
  have hex : (execOp ac.eval ⟨some d, .call { callee := .builtin .append, args := #[s, x], argTypes := #[T, T] }, ty, pos, after, none⟩).run P w = .ok (.value (.slice a' (xs ++ ys).length c')) w' := by
    simp only [execOp, resolve, invoke, builtin, Sem.run_bind, Sem.run_pure, Result.andThen_ok, List.map_toArray, List.map_cons, List.map_nil, hh.eval hs, hh.eval hx, hrun]
  rw [hex]
  refine h a' c' junk' ho' _ _ (Hold.put ?_ hn _)
  rcases hcase with ⟨rfl, rfl, rfl⟩ | ⟨b, rfl, rfl, hu, hbk⟩ | ⟨rfl, hu, hsz, hbk⟩
  · exact hh.noBlock t _
  · exact hh.set (t := t) (b := b) ht hu hbk
  · exact hh.ownNew t hu hsz hbk
end row
end
end Go.Sl
