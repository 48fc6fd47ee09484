/- What a call hands back as rows of its own, taken as what stays. -/
import Derived.Test.YtfleehgbpgmcnaaSlN
set_option linter.unusedVariables false
namespace Go.Sl
open Go
theorem HoldH.freezeRow {α : Type} [Cells α] {H : Hp} {G : Imm} {w : World} (hh : HoldH H G w) {t : Nat} {ad : Option Addr} {c : Nat} {E : TypeId} {xs : List α} {junk : List Value} (ht : H.get t = some (ad.map (·.block), Row E xs junk)) (ho : OwnA ad c xs junk) :
    ∃ G', G.le G' ∧ Arr G' ad xs ∧ HoldH ((t, none, default) :: H) G' w ∧ ∀ b, G' b ≠ none → G b = none → ∃ o, H.get t = some (some b, o) := by
  have hB : Hold ⟨0, w, fun b => H.has b, G⟩ ⟨[], [], H, G⟩ { tmps := #[], defers := [] } w :=
    ⟨rfl, rfl, fun i v h => by simp [Env.get] at h, hh, Upd.refl _ _, fun t b o h => .inr ⟨t, o, h⟩, Imm.le_refl _, fun b h h0 => (h h0).elim⟩
  rcases ho with ⟨rfl, rfl, rfl, _⟩ | ⟨b, rfl, hrest⟩
  · exact ⟨G, Imm.le_refl _, Arr.nil G, (hB.noBlock t default).mem, fun b h h0 => (h h0).elim⟩
  · have ht' : H.get t = some (some b, Row E xs junk) := ht
    obtain ⟨h1, h2⟩ := hB.freeze ht'
    refine ⟨_, h2, row_arr (E := E) (junk := junk) (by simp [Imm.with]), h1.mem, fun b' hb h0 => ?_⟩
    have hb' : (if b' = b then some (Row E xs junk) else G b') ≠ none := hb
    split at hb'
    · rename_i h; subst h; exact ⟨_, ht'⟩
    · exact (hb' h0).elim
theorem Does.frz1 {α : Type} [Cells α] {P : Program} {f : FuncId} {args : List Value} {G : Imm} {E : TypeId} {q : Value → Option Addr → Nat → List α → Prop}
    (h : Does P f args G [] (fun v G' Ho => ∃ (a : Option Addr) (c : Nat) (xs : List α) (j : List Value), q v a c xs ∧ OwnA a c xs j ∧ Ho = [(0, a.map (·.block), Row E xs j)] ∧ G' = G)) :
    Does P f args G [] (fun v G' Ho => ∃ (a : Option Addr) (c : Nat) (xs : List α), q v a c xs ∧ Arr G' a xs ∧ Ho = []) := by
  intro w hw
  refine (h w hw).mono fun x w' ⟨v, G', Ho, h1, h2, h3, h4, h5, h6, a, c, xs, j, hq, ho, hHo, hG⟩ => ?_
  subst hHo hG
  obtain ⟨G1, g1, g2, g3, g4⟩ := h2.freezeRow (t := 0) rfl ho
  have hnil : ∀ t b o, Hp.get [] t = some (some b, o) → False := fun t b o hx => by simp [Hp.get] at hx
  refine ⟨v, G1, [], h1, ⟨fun t b o hx => (hnil t b o hx).elim, fun t t' b o o' hx => (hnil t b o hx).elim, g3.imm, fun t b o hx => (hnil t b o hx).elim⟩, g1, h4, fun b hb h0 => ?_, fun t b o hx => (hnil t b o hx).elim, a, c, xs, hq, g2, rfl⟩
  obtain ⟨o, ho'⟩ := g4 b hb h0
  exact h6 0 b o ho'
theorem Does.frz2 {α β : Type} [Cells α] [Cells β] {P : Program} {f : FuncId} {args : List Value} {G : Imm} {E E' : TypeId} {q : Value → Option Addr → Nat → List α → Option Addr → Nat → List β → Prop}
    (h : Does P f args G [] (fun v G' Ho => ∃ (a : Option Addr) (c : Nat) (xs : List α) (j : List Value) (b : Option Addr) (d : Nat) (ys : List β) (j' : List Value), q v a c xs b d ys ∧ OwnA a c xs j ∧ OwnA b d ys j' ∧ Ho = [(0, a.map (·.block), Row E xs j), (1, b.map (·.block), Row E' ys j')] ∧ G' = G)) :
    Does P f args G [] (fun v G' Ho => ∃ (a : Option Addr) (c : Nat) (xs : List α) (b : Option Addr) (d : Nat) (ys : List β), q v a c xs b d ys ∧ Arr G' a xs ∧ Arr G' b ys ∧ Ho = []) := by
  intro w hw
  refine (h w hw).mono fun x w' ⟨v, G', Ho, h1, h2, h3, h4, h5, h6, a, c, xs, j, b, d, ys, j', hq, ho, ho', hHo, hG⟩ => ?_
  subst hHo hG
  obtain ⟨G1, g1, g2, g3, g4⟩ := h2.freezeRow (t := 0) rfl ho
  obtain ⟨G2, k1, k2, k3, k4⟩ := g3.freezeRow (t := 1) (ad := b) (E := E') (xs := ys) (junk := j') rfl ho'
  have hnil : ∀ t b o, Hp.get [] t = some (some b, o) → False := fun t b o hx => by simp [Hp.get] at hx
  refine ⟨v, G2, [], h1, ⟨fun t b o hx => (hnil t b o hx).elim, fun t t' b o o' hx => (hnil t b o hx).elim, k3.imm, fun t b o hx => (hnil t b o hx).elim⟩, Imm.le_trans g1 k1, h4, fun bb hb h0 => ?_, fun t b o hx => (hnil t b o hx).elim, a, c, xs, b, d, ys, hq, g2.up k1, k2, rfl⟩
  by_cases hg1 : G1 bb = none
  · obtain ⟨o, ho2⟩ := k4 bb hb hg1
    have ho3 : Hp.get [(0, a.map (·.block), Row E xs j), (1, b.map (·.block), Row E' ys j')] 1 = some (some bb, o) := by
      rw [Hp.get_cons, if_neg (by decide)] at ho2; exact ho2
    exact h6 1 bb o ho3
  · obtain ⟨o, ho2⟩ := g4 bb hg1 h0
    exact h6 0 bb o ho2
end Go.Sl
