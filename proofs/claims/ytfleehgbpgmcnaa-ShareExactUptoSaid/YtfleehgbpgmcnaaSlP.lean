/- Parts of an element in a block of which only the size is known; clear. -/
import Derived.Test.YtfleehgbpgmcnaaSlO
set_option linter.unusedVariables false
namespace Go.Sl
open Go
section
variable {P : Program} {ops : Array Oper} {rest : List Oper} {B : Bs} {e : Env} {D : List Deferred} {H : Hp} {G : Imm} {K : Act → World → Prop} {ty : TypeId} {pos : String} {after : Array Edge} {d : Nat}
theorem Qy.indexAddrKn {T : TypeId} {x i : Operand} {a : Option Addr} {n c sz : Nat} {cs : List Value} {k : IntKind} {m : Int} {E : Nat} (hT : isSlice P T E sz) (hx : e.ev x = some (.slice a n c)) (hi : e.ev i = some (.int k m)) (hb : Blk a c sz cs) (hn : n ≤ c) (hm : 0 ≤ m ∧ m < n) :
    Qy P (.indexAddr T x i) ty e H G (.pointer (some ⟨ab a, 0 + m.toNat * sz, none⟩)) := by
  have ha := hb.addr (by omega)
  rw [ha] at hx
  exact Qy.indexAddr hT hx hi hm
theorem Wl.storeKj {T : TypeId} {x y : Operand} {a : Option Addr} {c sz : Nat} {m : Int} {cs vs : List Value} {bt : TypeId} {v : Value} (t j k : Nat) (hs : (P.info? T).map (·.size) = some k)
    (hx : e.ev x = some (.pointer (some ⟨ab a, 0 + m.toNat * sz + j, none⟩))) (hy : e.ev y = some v) (hv : v.cells = vs.toArray) (hk : vs.length = k) (h1 : vs.all (·.oneCell') = true) (ht : H.get t = some (a.map (·.block), .cells cs.toArray bt (0, 0))) (hb : Blk a c sz cs) (hm : 0 ≤ m ∧ m < c) (hj : j + k ≤ sz)
    (h : ∀ cs' : List Value, Blk a c sz cs' → Wl P ops rest B ⟨e, D, (t, a.map (·.block), .cells cs'.toArray bt (0, 0)) :: H, G⟩ K) : Wl P ops (⟨none, .store T x y, ty, pos, after, none⟩ :: rest) B ⟨e, D, H, G⟩ K := by
  have ha := hb.addr (by omega)
  have hbl : a.map (·.block) = some (ab a) := by rw [ha]; rfl
  rw [hbl] at ht h
  refine Wl.storeR t hs hx hy hv hk h1 ht ?_ fun cs' hl => h cs' ⟨by rw [hl]; exact hb.1, hb.2⟩
  rw [hb.1, Nat.zero_add]
  have h2 : m.toNat + 1 ≤ c := by omega
  have := Nat.mul_le_mul_right sz h2
  rw [Nat.succ_mul] at this
  omega
/-- clear(x), x being a row of the call's own -/
theorem Wl.clearO {α : Type} [Cells α] [Inhabited α] {T : TypeId} {x : Operand} {a : Option Addr} {c : Nat} {E bytes : Nat} {zs : List Value} {xs : List α} {junk : List Value} (t : Nat) (hT : isSlice P T E (Cells.sz α)) (hE : ElemOf P E (Cells.sz α) bytes zs) (hz : Cells.enc (default : α) = zs)
    (hx : e.ev x = some (.slice a xs.length c)) (ht : H.get t = some (a.map (·.block), Row E xs junk)) (ho : OwnA a c xs junk)
    (h : OwnA a c (List.replicate xs.length (default : α)) junk → Wl P ops rest B ⟨e, D, (t, a.map (·.block), Row E (List.replicate xs.length (default : α)) junk) :: H, G⟩ K) :
    Wl P ops (⟨none, .call { callee := .builtin .clear, args := #[x], argTypes := #[T] }, ty, pos, after, none⟩ :: rest) B ⟨e, D, H, G⟩ K := by
  have hlen : (List.replicate xs.length (default : α)).length = xs.length := by simp
  have h' := h (by
    rcases ho with ⟨h1, h2, h3, h4⟩ | ⟨b, h1, h2, h3, h4⟩
    · subst h2; exact .inl ⟨h1, rfl, h3, h4⟩
    · exact .inr ⟨b, h1, by rw [hlen]; exact h2, by rw [hlen]; exact h3, h4⟩)
  by_cases h0 : xs = []
  · subst h0
    intro a0 w hh
    unfold lstWp
    rw [if_pos (by simp [Region.wanted])]
    unfold opWp
    have hrun : (execOp a0.eval ⟨none, .call { callee := .builtin .clear, args := #[x], argTypes := #[T] }, ty, pos, after, none⟩).run P w = .ok (.value (.tuple #[])) w := by
      have hev : a0.eval x = .slice a 0 c := hh.eval hx
      cases a <;> simp [execOp, resolve, invoke, builtin, Builtin.clear_, hev, run_underlying hT.1]
    rw [hrun]
    exact h' _ _ (hh.reH ht rfl)
  · have hpos : 0 < xs.length := List.length_pos_iff.2 h0
    have ha := ho.addr hpos
    have hbl := ho.blk hpos
    rw [hbl] at ht h'
    rw [ha] at hx
    obtain ⟨i, z, hi, hz1, hz2, hs, hby, hzl, hsz⟩ := hE
    obtain ⟨n, hn⟩ : ∃ n, xs.length = n + 1 := ⟨xs.length - 1, by omega⟩
    intro a0 w hh
    unfold lstWp
    rw [if_pos (by simp [Region.wanted])]
    unfold opWp
    have hb := hh.mem.own t (ab a) _ ht
    have hev : a0.eval x = .slice (some ⟨ab a, 0, none⟩) xs.length c := hh.eval hx
    have hzc : (Builtin.zeroCells z.cells xs.length).toList = flat (List.replicate xs.length (default : α)) := by
      have h1 : z.cells.size = Cells.sz α := by rw [hz2]; simpa using hzl
      have h2 : Builtin.zeroCells z.cells xs.length = madeCells zs.toArray (xs.length * Cells.sz α) := by
        have h3 : zs.toArray.size = Cells.sz α := by simpa using hzl
        unfold Builtin.zeroCells madeCells
        rw [hz2, h3]
      rw [h2, made_flat hz hsz]
    have hfl : (flat (List.replicate xs.length (default : α))).length = (flat xs).length := by rw [flat_length, flat_length, hlen]
    have hst := run_storeCells_at P (ab a) 0 E (flat (List.replicate xs.length (default : α))) 0 (flat xs ++ junk).toArray w hb (by simp [hfl]) (by simpa using flat_all _)
    have hrun : (execOp a0.eval ⟨none, .call { callee := .builtin .clear, args := #[x], argTypes := #[T] }, ty, pos, after, none⟩).run P w = .ok (.value (.tuple #[])) (w.setRow (ab a) (flat (List.replicate xs.length (default : α)) ++ junk).toArray) := by
      have hzv : (zeroValue E).run P w = .ok z w := by simp [zeroValue, typeInfo, hi, hz1]
      simp only [Nat.add_zero] at hst
      rw [hn] at hev
      simp only [execOp, resolve, invoke, builtin, Builtin.clear_, Sem.run_bind, Sem.run_pure, Result.andThen_ok, List.map_toArray, List.map_cons, List.map_nil, hev]
      simp [run_underlying hT.1, hzv]
      rw [← hn, hzc, hst]
      simp [hfl]
    rw [hrun]
    refine h' _ _ (hh.set ht (setRow_upd w (ab a) _) ?_)
    rw [setRow_heap w (ab a) _ _ E _ hb]
    rfl
end
end Go.Sl
