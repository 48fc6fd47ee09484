/- Lists of one kind of thing in slices. -/
import Derived.Test.YtfleehgbpgmcnaaSlD
set_option linter.unusedVariables false
namespace Go.Sl
open Go

/-- a kind of thing that takes some cells -/
class Cells (α : Type) where
  sz : Nat
  enc : α → List Value
  len : ∀ x, (enc x).length = sz
  one : ∀ x, (enc x).all (·.oneCell') = true
instance : Cells Int := ⟨1, fun n => [.int .i64 n], fun _ => rfl, fun _ => rfl⟩
instance : Cells Bool := ⟨1, fun b => [.bool b], fun _ => rfl, fun _ => rfl⟩
structure U32 where
  v : Int
  deriving DecidableEq
instance : Inhabited U32 := ⟨⟨0⟩⟩
instance : Cells U32 := ⟨1, fun n => [.int .u32 n.v], fun _ => rfl, fun _ => rfl⟩
structure Instr where
  op : Int
  to : Int
  a : Int
  b : Int
  c : Int
  deriving DecidableEq
instance : Inhabited Instr := ⟨⟨0, 0, 0, 0, 0⟩⟩
instance : Cells Instr := ⟨5, fun i => [.int .i64 i.op, .int .i64 i.to, .int .i64 i.a, .int .i64 i.b, .int .i64 i.c], fun _ => rfl, fun _ => rfl⟩

def flat {α : Type} [Cells α] (xs : List α) : List Value := xs.flatMap Cells.enc
section
variable {α : Type} [Cells α]
theorem flat_nil : flat ([] : List α) = [] := rfl
theorem flat_cons (x : α) (xs : List α) : flat (x :: xs) = Cells.enc x ++ flat xs := rfl
theorem flat_append (xs ys : List α) : flat (xs ++ ys) = flat xs ++ flat ys := by simp [flat]
theorem flat_length (xs : List α) : (flat xs).length = xs.length * Cells.sz α := by
  induction xs with
  | nil => simp [flat]
  | cons x xs ih => rw [flat_cons, List.length_append, ih, Cells.len, List.length_cons, Nat.add_mul]; omega
theorem flat_get [Inhabited α] : ∀ (xs : List α) (i k : Nat), i < xs.length → k < Cells.sz α → (flat xs)[i * Cells.sz α + k]? = (Cells.enc (xs[i]?.getD default))[k]?
  | [], i, k, h, _ => by simp at h
  | x :: xs, 0, k, _, hk => by
    rw [flat_cons, Nat.zero_mul, Nat.zero_add, List.getElem?_append_left (by rw [Cells.len]; exact hk)]
    rfl
  | x :: xs, i + 1, k, h, hk => by
    rw [flat_cons, List.getElem?_append_right (by rw [Cells.len, Nat.add_mul]; omega), Cells.len, show (i + 1) * Cells.sz α + k - Cells.sz α = i * Cells.sz α + k by rw [Nat.add_mul]; omega,
      flat_get xs i k (by simpa using h) hk]
    rfl
theorem flat_all (xs : List α) : (flat xs).all (·.oneCell') = true := by
  induction xs with
  | nil => rfl
  | cons x xs ih => rw [flat_cons, List.all_append, Cells.one, ih]; rfl

/-- the slice reads as the list -/
def Arr (G : Imm) (a : Option Addr) (xs : List α) : Prop := SlG G a xs.length (Cells.sz α) (flat xs)
variable {G G' : Imm} {a : Option Addr} {xs : List α}
theorem Arr.up (h : Arr G a xs) (hl : G.le G') : Arr G' a xs := SlG.le hl h
theorem Arr.nil (G : Imm) : Arr G none ([] : List α) := ⟨by simp [flat], .inl rfl⟩
theorem Arr.cellK [Inhabited α] (h : Arr G a xs) {m : Int} (hm : 0 ≤ m ∧ m < xs.length) (k : Nat) (hk : k < Cells.sz α) :
    G.cell (ab a) (ao a + m.toNat * Cells.sz α + k) = (Cells.enc (xs[m.toNat]?.getD default))[k]? := by
  have hlt : m.toNat < xs.length := by omega
  have hr := SlG.row h (by omega)
  have hg := flat_get xs m.toNat k hlt hk
  have hl : k < (Cells.enc (xs[m.toNat]?.getD default)).length := by rw [Cells.len]; exact hk
  rw [List.getElem?_eq_getElem hl] at hg ⊢
  rw [Nat.add_assoc]
  exact hr _ _ hg
/-- one of an element's cells -/
theorem Arr.cell [Inhabited α] (h : Arr G a xs) {m : Int} (hm : 0 ≤ m ∧ m < xs.length) (k : Nat) (hk : Nat.ble (k + 1) (Cells.sz α) = true) {v : Value} (hv : (Cells.enc (xs[m.toNat]?.getD default))[k]? = some v) :
    G.cell (ab a) (ao a + m.toNat * Cells.sz α + k) = some v := (h.cellK hm k (Nat.le_of_ble_eq_true hk)).trans hv
/-- a whole element -/
theorem Arr.elem [Inhabited α] (h : Arr G a xs) {m : Int} (hm : 0 ≤ m ∧ m < xs.length) : G.row (ab a) (ao a + m.toNat * Cells.sz α) (Cells.enc (xs[m.toNat]?.getD default)) := fun i v hi => by
  have hl : i < Cells.sz α := by rw [← Cells.len (xs[m.toNat]?.getD default)]; exact (List.getElem?_eq_some_iff.1 hi).1
  exact (h.cellK hm i hl).trans hi
theorem Arr.addr (h : Arr G a xs) (hn : 0 < xs.length) : a = some ⟨ab a, ao a, none⟩ := SlG.addr h hn
theorem Qy.at {P : Program} {e : Env} {H : Hp} {ty : TypeId} {T : TypeId} {x i : Operand} {c : Nat} {k : IntKind} {m : Int} {E : Nat} (hT : isSlice P T E (Cells.sz α)) (hx : e.ev x = some (.slice a xs.length c))
    (hi : e.ev i = some (.int k m)) (hs : Arr G a xs) (hb : 0 ≤ m ∧ m < xs.length) : Qy P (.indexAddr T x i) ty e H G (.pointer (some ⟨ab a, ao a + m.toNat * Cells.sz α, none⟩)) :=
  Qy.indexAddrG hT hx hi hs hb
end
end Go.Sl
