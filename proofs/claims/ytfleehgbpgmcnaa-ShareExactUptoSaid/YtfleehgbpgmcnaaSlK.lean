/- A block of the call's own of which only the size is known, behind a slice of its whole room. -/
import Derived.Test.YtfleehgbpgmcnaaSlJ
set_option linter.unusedVariables false
namespace Go.Sl
open Go
section
variable {P : Program} {ops : Array Oper} {rest : List Oper} {B : Bs} {e : Env} {D : List Deferred} {H : Hp} {G : Imm} {K : Act → World → Prop} {ty : TypeId} {pos : String} {after : Array Edge}
def Blk (a : Option Addr) (c sz : Nat) (cs : List Value) : Prop := cs.length = c * sz ∧ ((a = none ∧ c = 0) ∨ ∃ b, a = some ⟨b, 0, none⟩)
theorem OwnA.blkOf {α : Type} [Cells α] {a : Option Addr} {c : Nat} {xs : List α} {junk : List Value} (h : OwnA a c xs junk) : Blk a c (Cells.sz α) (flat xs ++ junk) := by
  rcases h with ⟨rfl, rfl, rfl, rfl⟩ | ⟨b, rfl, h2, _⟩
  · exact ⟨by simp [flat], .inl ⟨rfl, rfl⟩⟩
  · exact ⟨by rw [List.length_append, flat_length]; exact h2, .inr ⟨b, rfl⟩⟩
theorem Blk.addr {a : Option Addr} {c sz : Nat} {cs : List Value} (h : Blk a c sz cs) (hc : 0 < c) : a = some ⟨ab a, 0, none⟩ := by
  rcases h.2 with ⟨_, h0⟩ | ⟨b, rfl⟩
  · omega
  · rfl
theorem Qy.indexAddrK {T : TypeId} {x i : Operand} {a : Option Addr} {c sz : Nat} {cs : List Value} {k : IntKind} {m : Int} {E : Nat} (hT : isSlice P T E sz) (hx : e.ev x = some (.slice a c c)) (hi : e.ev i = some (.int k m)) (hb : Blk a c sz cs) (hm : 0 ≤ m ∧ m < c) :
    Qy P (.indexAddr T x i) ty e H G (.pointer (some ⟨ab a, 0 + m.toNat * sz, none⟩)) := by
  have ha := hb.addr (by omega)
  rw [ha] at hx
  exact Qy.indexAddr hT hx hi hm
theorem Wl.storeK {T : TypeId} {x y : Operand} {a : Option Addr} {c sz : Nat} {m : Int} {cs vs : List Value} {bt : TypeId} {v : Value} (t : Nat) (hs : (P.info? T).map (·.size) = some sz)
    (hx : e.ev x = some (.pointer (some ⟨ab a, 0 + m.toNat * sz, none⟩))) (hy : e.ev y = some v) (hv : v.cells = vs.toArray) (hk : vs.length = sz) (h1 : vs.all (·.oneCell') = true) (ht : H.get t = some (a.map (·.block), .cells cs.toArray bt (0, 0))) (hb : Blk a c sz cs) (hm : 0 ≤ m ∧ m < c)
    (h : ∀ cs' : List Value, Blk a c sz cs' → Wl P ops rest B ⟨e, D, (t, a.map (·.block), .cells cs'.toArray bt (0, 0)) :: H, G⟩ K) : Wl P ops (⟨none, .store T x y, ty, pos, after, none⟩ :: rest) B ⟨e, D, H, G⟩ K := by
  have ha := hb.addr (by omega)
  have hbl : a.map (·.block) = some (ab a) := by rw [ha]; rfl
  rw [hbl] at ht h
  refine Wl.storeR t hs hx hy hv hk h1 ht ?_ fun cs' hl => h cs' ⟨by rw [hl]; exact hb.1, hb.2⟩
  rw [hb.1, Nat.zero_add]
  have h2 : m.toNat + 1 ≤ c := by omega
  have := Nat.mul_le_mul_right sz h2
  rw [Nat.succ_mul] at this
  exact this
end
end Go.Sl
