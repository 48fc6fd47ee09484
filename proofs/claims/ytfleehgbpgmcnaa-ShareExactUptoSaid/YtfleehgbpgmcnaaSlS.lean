import Derived.Test.YtfleehgbpgmcnaaSlR
set_option maxRecDepth 100000
namespace Go.Sl
open Go
section
variable {P : Program} {B : Bs} {D : List Deferred}
/-- a loop under which more and more is frozen -/
theorem Wc.loopG {ι : Type} {r : Option Nat} {c : Code} {Q : Exit → Act → World → Prop} {e : Env} {H : Hp} {G : Imm} (I : ι → Env × Hp) (g : ι → Imm) (φ : ι → Prop) (μ : ι → Nat) (i0 : ι) (h0 : φ i0) (hg : G = g i0)
    (he : e.sub (I i0).1) (hH : H.sub (I i0).2)
    (hb : ∀ i, φ i → Wc r P c B ⟨(I i).1, D, (I i).2, g i⟩ (Exit.then (Again B (fun i => ⟨(I i).1, D, (I i).2, g i⟩) φ μ (μ i)) Q)) : Wc r P (.loop c) B ⟨e, D, H, G⟩ Q :=
  Wc.loopS (fun i => ⟨(I i).1, D, (I i).2, g i⟩) φ μ i0 h0 (fun _ _ h => by rw [hg] at h; exact h.sub he hH) hb
end
/-- numbers in a row -/
def Nums (G : Imm) (l : List IV) (zs : List Int) : Prop := l.length = zs.length ∧ ∀ i : Nat, i < l.length → Num G (l[i]?.getD default) (zs[i]?.getD 0)
theorem Nums.up {G G' : Imm} {l : List IV} {zs : List Int} (h : Nums G l zs) (hl : G.le G') : Nums G' l zs := ⟨h.1, fun i hi => (h.2 i hi).up hl⟩
theorem Nums.nil (G : Imm) : Nums G [] [] := ⟨rfl, fun i hi => by simp at hi⟩
theorem Nums.at {G : Imm} {l : List IV} {zs : List Int} (h : Nums G l zs) {m : Int} (hm : 0 ≤ m ∧ m < l.length) : Num G (l[m.toNat]?.getD default) (zs[m.toNat]?.getD 0) := h.2 _ (by omega)
theorem Nums.snoc {G : Imm} {l : List IV} {zs : List Int} (h : Nums G l zs) {x : IV} {z : Int} (hx : Num G x z) : Nums G (l ++ [x]) (zs ++ [z]) := by
  refine ⟨by simp [h.1], fun i hi => ?_⟩
  rw [List.length_append, List.length_singleton] at hi
  by_cases hc : i < l.length
  · rw [List.getElem?_append_left hc, List.getElem?_append_left (by rw [← h.1]; exact hc)]
    exact h.2 i hc
  · have e : i = l.length := by omega
    subst e
    rw [List.getElem?_concat_length, h.1, List.getElem?_concat_length]
    exact hx
/-- all smaller than m digits -/
def Below (m : Nat) (zs : List Int) : Prop := ∀ z ∈ zs, (z.natAbs : Int) < pw m
theorem Below.at {m : Nat} {zs : List Int} (h : Below m zs) (i : Nat) : ((zs[i]?.getD 0).natAbs : Int) < pw m := by
  cases hx : zs[i]? with
  | none => exact pw_pos m
  | some z => exact h z (List.mem_of_getElem? hx)
theorem Below.mono {m k : Nat} {zs : List Int} (h : Below m zs) (hk : m ≤ k) : Below k zs := fun z hz => Int.lt_of_lt_of_le (h z hz) (pw_le hk)
end Go.Sl
