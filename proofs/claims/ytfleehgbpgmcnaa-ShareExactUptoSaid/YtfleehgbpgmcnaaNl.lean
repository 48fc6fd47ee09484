import Derived.Test.YtfleehgbpgmcnaaNk
import Derived.Test.YtfleehgbpgmcnaaAa
set_option maxRecDepth 100000
set_option linter.unusedVariables false
namespace Go.Proofs.Ytfleehgbpgmcnaa
open Go Go.Sl

set_option maxHeartbeats 4000000
/-- the handle of a row of numbers -/
def RowS (G : Imm) (s : SV) (zs : List Int) : Prop := ∃ l : List IV, l.length = s.n ∧ s.n ≤ s.c ∧ Arr G s.a l ∧ Nums G l zs
theorem RowS.up {G G' : Imm} {s : SV} {zs : List Int} (h : RowS G s zs) (hl : G.le G') : RowS G' s zs := by
  obtain ⟨l, h1, h2, h3, h4⟩ := h
  exact ⟨l, h1, h2, h3.up hl, h4.up hl⟩
theorem RowOf.handle {G : Imm} {v : Value} {zs : List Int} (h : RowOf G v zs) : ∃ s : SV, v = .slice s.a s.n s.c ∧ RowS G s zs := by
  obtain ⟨o, c, l, rfl, h1, h2, h3⟩ := h
  exact ⟨⟨o, l.length, c⟩, rfl, l, rfl, h3, h1, h2⟩
/-- rows of numbers -/
def Grid (G : Imm) (l : List SV) (rs : List (List Int)) : Prop := l.length = rs.length ∧ ∀ i : Nat, i < l.length → RowS G (l[i]?.getD default) (rs[i]?.getD [])
theorem Grid.up {G G' : Imm} {l : List SV} {rs : List (List Int)} (h : Grid G l rs) (hl : G.le G') : Grid G' l rs := ⟨h.1, fun i hi => (h.2 i hi).up hl⟩
theorem Grid.nil (G : Imm) : Grid G [] [] := ⟨rfl, fun i hi => by simp at hi⟩
theorem Grid.at {G : Imm} {l : List SV} {rs : List (List Int)} (h : Grid G l rs) {m : Int} (hm : 0 ≤ m ∧ m < l.length) : RowS G (l[m.toNat]?.getD default) (rs[m.toNat]?.getD []) := h.2 _ (by omega)
theorem Grid.snoc {G : Imm} {l : List SV} {rs : List (List Int)} (h : Grid G l rs) {s : SV} {zs : List Int} (hx : RowS G s zs) : Grid G (l ++ [s]) (rs ++ [zs]) := by
  refine ⟨by simp [h.1], fun i hi => ?_⟩
  rw [List.length_append, List.length_singleton] at hi
  by_cases hc : i < l.length
  · rw [List.getElem?_append_left hc, List.getElem?_append_left (by rw [← h.1]; exact hc)]
    exact h.2 i hc
  · have e : i = l.length := by omega
    subst e
    rw [List.getElem?_concat_length, h.1, List.getElem?_concat_length]
    exact hx
theorem Grid.set {G : Imm} {l : List SV} {rs : List (List Int)} (h : Grid G l rs) (k : Nat) {s : SV} {zs : List Int} (hx : RowS G s zs) : Grid G (l.set k s) (rs.set k zs) := by
  refine ⟨by rw [List.length_set, List.length_set]; exact h.1, fun i hi => ?_⟩
  rw [List.length_set] at hi
  have hi2 : i < rs.length := by rw [← h.1]; exact hi
  rw [List.getElem?_set, List.getElem?_set]
  by_cases hk : k = i
  · subst hk; rw [if_pos rfl, if_pos rfl, if_pos hi, if_pos hi2]; exact hx
  · rw [if_neg hk, if_neg hk]; exact h.2 i hi
/-- what an instruction multiplies or divides by -/
def cst (i : Sl.Instr) : Int := if i.op = 5 ∨ i.op = 6 then i.c else p2 i.c.toNat
theorem cst_c {i : Sl.Instr} (h : i.op = 5 ∨ i.op = 6) : cst i = i.c := if_pos h
theorem cst_p {i : Sl.Instr} (h : ¬ (i.op = 5 ∨ i.op = 6)) : cst i = p2 i.c.toNat := if_neg h
attribute [local irreducible] valL pw cmpZ p2
theorem c88 (G : Imm) (i : Sl.Instr) (hc1 : i.op = 5 ∨ i.op = 6 → -9223372036854775808 ≤ i.c ∧ i.c ≤ 9223372036854775807) (hc2 : ¬ (i.op = 5 ∨ i.op = 6) → 0 ≤ i.c ∧ i.c ≤ 64) :
    Does Try.prog 88 [.agg (Cells.enc i).toArray] G [] (fun v G' Ho => ∃ r : IV, v = .agg (Cells.enc r).toArray ∧ Num G' r (cst i) ∧ Ho = []) := by
  refine Does.enter Try.func88 rfl Try.ntmps88 rfl (fun w => ?_)
  by_cases h5 : i.op = 5
  · have hc1 := hc1 (.inl h5)
    refine Wc.seq ?_
    refine Wc.region rfl ?_
    refine Wl.box 0 rfl rfl rfl (fun b1 => ?_)
    refine Wl.alloc 1 rfl T.zero43 (fun b2 => ?_)
    refine Wl.done ?_
    refine Ar.next ?_
    refine Wc.seq ?_
    refine Wc.seq ?_
    refine Wc.region rfl ?_
    refine Wl.q rfl (Qy.fieldAddr T.fa34_0 rfl) ?_
    refine Wl.q rfl (Qy.load 0 T.one3 rfl rfl rfl) ?_
    refine Wl.q rfl (Qy.eql rfl rfl) ?_
    refine Wl.q rfl (Qy.move rfl) ?_
    refine Wl.yes 6 rfl (by first | assumption | omega) ?_
    refine Wl.pass rfl rfl rfl ?_
    refine Wl.pass rfl rfl rfl ?_
    refine Wl.pass rfl rfl rfl ?_
    refine Wl.q rfl (Qy.pick rfl rfl) ?_
    refine Wl.done ?_
    refine Ar.next ?_
    refine Wc.condT rfl ?_
    refine Wc.seq ?_
    refine Wc.region rfl ?_
    refine Wl.q rfl (Qy.fieldAddr T.fa34_4 rfl) ?_
    refine Wl.q rfl (Qy.load 0 T.one3 rfl rfl rfl) ?_
    refine Wl.call 2 rfl T.fn20 rfl (num_of _ _ hc1) (tags_of trivial) (fun v1 G1 Ho1 hle1 hp => ?_)
    obtain ⟨ri1, rfl, hri1, rfl⟩ := hp
    refine Wl.storeAll 1 T.size43 rfl rfl rfl rfl rfl rfl ?_
    refine Wl.done ?_
    refine Ar.next ?_
    refine Wc.ret ?_
    refine Ar.passRet ?_
    refine Ar.out1 (.inr rfl) (Ho := []) rfl (.agg 1 rfl rfl T.agg43) trivial ?_
    exact ⟨ri1, rfl, by rw [cst_c (.inl h5)]; exact hri1, rfl⟩
  · by_cases h6 : i.op = 6
    · have hc1 := hc1 (.inr h6)
      refine Wc.seq ?_
      refine Wc.region rfl ?_
      refine Wl.box 0 rfl rfl rfl (fun b1 => ?_)
      refine Wl.alloc 1 rfl T.zero43 (fun b2 => ?_)
      refine Wl.done ?_
      refine Ar.next ?_
      refine Wc.seq ?_
      refine Wc.seq ?_
      refine Wc.region rfl ?_
      refine Wl.q rfl (Qy.fieldAddr T.fa34_0 rfl) ?_
      refine Wl.q rfl (Qy.load 0 T.one3 rfl rfl rfl) ?_
      refine Wl.q rfl (Qy.eql rfl rfl) ?_
      refine Wl.q rfl (Qy.move rfl) ?_
      refine Wl.no 6 rfl (by first | assumption | omega) ?_
      refine Wl.want rfl rfl ?_
      refine Wl.q rfl (Qy.fieldAddr T.fa34_0 rfl) ?_
      refine Wl.want rfl rfl ?_
      refine Wl.q rfl (Qy.load 0 T.one3 rfl rfl rfl) ?_
      refine Wl.want rfl rfl ?_
      refine Wl.q rfl (Qy.eql rfl rfl) ?_
      refine Wl.q rfl (Qy.pick rfl rfl) ?_
      refine Wl.done ?_
      refine Ar.next ?_
      refine Wc.condP rfl (by first | assumption | omega) ?_
      refine Wc.seq ?_
      refine Wc.region rfl ?_
      refine Wl.q rfl (Qy.fieldAddr T.fa34_4 rfl) ?_
      refine Wl.q rfl (Qy.load 0 T.one3 rfl rfl rfl) ?_
      refine Wl.call 2 rfl T.fn20 rfl (num_of _ _ hc1) (tags_of trivial) (fun v1 G1 Ho1 hle1 hp => ?_)
      obtain ⟨ri1, rfl, hri1, rfl⟩ := hp
      refine Wl.storeAll 1 T.size43 rfl rfl rfl rfl rfl rfl ?_
      refine Wl.done ?_
      refine Ar.next ?_
      refine Wc.ret ?_
      refine Ar.passRet ?_
      refine Ar.out1 (.inr rfl) (Ho := []) rfl (.agg 1 rfl rfl T.agg43) trivial ?_
      exact ⟨ri1, rfl, by rw [cst_c (.inr h6)]; exact hri1, rfl⟩
    · have hcp := cst_p (i := i) (by omega)
      obtain ⟨c, hc⟩ : ∃ c : Nat, i.c = (c : Int) := ⟨i.c.toNat, by have := hc2 (by omega); omega⟩
      have hc9 : c ≤ 16777216 := by have := hc2 (by omega); omega
      rw [hc, Int.toNat_natCast] at hcp
      clear hc1 hc2
      obtain ⟨o, t, a, b, cc⟩ := i
      simp only at hc h5 h6
      subst hc
      refine Wc.seq ?_
      refine Wc.region rfl ?_
      refine Wl.box 0 rfl rfl rfl (fun b1 => ?_)
      refine Wl.alloc 1 rfl T.zero43 (fun b2 => ?_)
      refine Wl.done ?_
      refine Ar.next ?_
      refine Wc.seq ?_
      refine Wc.seq ?_
      refine Wc.region rfl ?_
      refine Wl.q rfl (Qy.fieldAddr T.fa34_0 rfl) ?_
      refine Wl.q rfl (Qy.load 0 T.one3 rfl rfl rfl) ?_
      refine Wl.q rfl (Qy.eql rfl rfl) ?_
      refine Wl.q rfl (Qy.move rfl) ?_
      refine Wl.no 6 rfl (by first | assumption | omega) ?_
      refine Wl.want rfl rfl ?_
      refine Wl.q rfl (Qy.fieldAddr T.fa34_0 rfl) ?_
      refine Wl.want rfl rfl ?_
      refine Wl.q rfl (Qy.load 0 T.one3 rfl rfl rfl) ?_
      refine Wl.want rfl rfl ?_
      refine Wl.q rfl (Qy.eql rfl rfl) ?_
      refine Wl.q rfl (Qy.pick rfl rfl) ?_
      refine Wl.done ?_
      refine Ar.next ?_
      refine Wc.condN rfl (by first | assumption | omega) ?_
      refine Wc.skip ?_
      refine Ar.next ?_
      refine Wc.seq ?_
      refine Wc.region rfl ?_
      refine Wl.q rfl (Qy.fieldAddr T.fa34_4 rfl) ?_
      refine Wl.q rfl (Qy.load 0 T.one3 rfl rfl rfl) ?_
      refine Wl.call 2 rfl T.fn98 rfl (c98 _ c hc9) (tags_of trivial) (fun v1 G1 Ho1 hle1 hp => ?_)
      obtain ⟨ri1, rfl, hri1, rfl⟩ := hp
      refine Wl.storeAll 1 T.size43 rfl rfl rfl rfl rfl rfl ?_
      refine Wl.done ?_
      refine Ar.next ?_
      refine Wc.ret ?_
      refine Ar.out1 (.inr rfl) (Ho := []) rfl (.agg 1 rfl rfl T.agg43) trivial ?_
      exact ⟨ri1, rfl, by rw [hcp]; exact hri1, rfl⟩
theorem row_scale (G : Imm) (x : IV) (z : Int) (s : SV) (xs : List Int) (hx : Num G x z) (hs : RowS G s xs) (m : Nat) (hk : 5 + m ≤ 134217728)
    (bx : (z.natAbs : Int) < pw 5) (bxs : Below m xs) (h1 : s.n ≤ 1048576) :
    Does Try.prog 85 [.slice s.a s.n s.c, .agg (Cells.enc x).toArray] G [] (fun v G' Ho => ∃ s' : SV, v = .slice s'.a s'.n s'.c ∧ RowS G' s' (xs.map (fun a => z * a)) ∧ Ho = []) := by
  obtain ⟨sa, sn, sc⟩ := s
  obtain ⟨l, hl, hc, hA, hN⟩ := hs
  simp only at hl hc hA h1
  subst hl
  refine (c85 G x z sa sc l xs hx hA hN 5 m hk bx bxs h1).mono fun v G' Ho _ ⟨h, e⟩ => ?_
  obtain ⟨s', e1, e2⟩ := h.handle
  exact ⟨s', e1, e2, e⟩
theorem row_add (G : Imm) (s t : SV) (xs ys : List Int) (hs : RowS G s xs) (ht : RowS G t ys) (hl : xs.length = ys.length) (m : Nat) (hm : 1 + m ≤ 134217728) (bxs : Below m xs) (bys : Below m ys) (h1 : s.n ≤ 1048576) :
    Does Try.prog 86 [.slice s.a s.n s.c, .slice t.a t.n t.c] G [] (fun v G' Ho => ∃ s' : SV, v = .slice s'.a s'.n s'.c ∧ RowS G' s' (List.zipWith (fun a b => a + 1 * b) xs ys) ∧ Ho = []) := by
  obtain ⟨sa, sn, sc⟩ := s
  obtain ⟨ta, tn, tc⟩ := t
  obtain ⟨l, hl1, hc, hA, hN⟩ := hs
  obtain ⟨l', hl2, hc', hA', hN'⟩ := ht
  simp only at hl1 hc hA h1 hl2 hc' hA'
  subst hl1 hl2
  have e1 := hN.1
  have e2 := hN'.1
  refine (c86 G sa ta sc tc l l' xs ys hA hA' hN hN' (by omega) m hm bxs bys h1).mono fun v G' Ho _ ⟨h, e⟩ => ?_
  obtain ⟨s', e1, e2⟩ := h.handle
  exact ⟨s', e1, e2, e⟩
theorem row_sub (G : Imm) (s t : SV) (xs ys : List Int) (hs : RowS G s xs) (ht : RowS G t ys) (hl : xs.length = ys.length) (m : Nat) (hm : 1 + m ≤ 134217728) (bxs : Below m xs) (bys : Below m ys) (h1 : s.n ≤ 1048576) :
    Does Try.prog 87 [.slice s.a s.n s.c, .slice t.a t.n t.c] G [] (fun v G' Ho => ∃ s' : SV, v = .slice s'.a s'.n s'.c ∧ RowS G' s' (List.zipWith (fun a b => a + (-1) * b) xs ys) ∧ Ho = []) := by
  obtain ⟨sa, sn, sc⟩ := s
  obtain ⟨ta, tn, tc⟩ := t
  obtain ⟨l, hl1, hc, hA, hN⟩ := hs
  obtain ⟨l', hl2, hc', hA', hN'⟩ := ht
  simp only at hl1 hc hA h1 hl2 hc' hA'
  subst hl1 hl2
  have e1 := hN.1
  have e2 := hN'.1
  refine (c87 G sa ta sc tc l l' xs ys hA hA' hN hN' (by omega) m hm bxs bys h1).mono fun v G' Ho _ ⟨h, e⟩ => ?_
  obtain ⟨s', e1, e2⟩ := h.handle
  exact ⟨s', e1, e2, e⟩
theorem row_over (G : Imm) (y : IV) (zy : Int) (s : SV) (xs : List Int) (hy : Num G y zy) (hs : RowS G s xs) (m : Nat) (hm : m ≤ 134217728) (by' : (zy.natAbs : Int) < pw 5) (bxs : Below m xs) (hy0 : zy ≠ 0) (h1 : s.n ≤ 1048576) :
    Does Try.prog 89 [.slice s.a s.n s.c, .agg (Cells.enc y).toArray] G [] (fun v G' Ho => ∃ rv, v = .tuple #[rv, .bool (decide (AllDiv zy xs))] ∧ (AllDiv zy xs → ∃ s' : SV, rv = .slice s'.a s'.n s'.c ∧ RowS G' s' (xs.map (· / zy))) ∧ Ho = []) := by
  obtain ⟨sa, sn, sc⟩ := s
  obtain ⟨l, hl, hc, hA, hN⟩ := hs
  simp only at hl hc hA h1
  subst hl
  refine (c89 G y zy sa sc l xs hy hA hN m hm (Nat.le_trans (Num.len hy by') (by decide)) bxs hy0 h1).mono fun v G' Ho _ ⟨rv, h, h2, e⟩ => ?_
  exact ⟨rv, h, fun ha => (h2 ha).handle, e⟩
/-- one instruction over all columns -/
def doI (i : Sl.Instr) (rs : List (List Int)) : Option (List Int) :=
  let a := rs[i.a.toNat]?.getD []
  if i.op = 2 then some (a.map (fun x => -1 * x))
  else if i.op = 3 then some (List.zipWith (fun x y => x + 1 * y) a (rs[i.b.toNat]?.getD []))
  else if i.op = 4 then some (List.zipWith (fun x y => x + (-1) * y) a (rs[i.b.toNat]?.getD []))
  else if i.op = 5 ∨ i.op = 7 then some (a.map (fun x => cst i * x))
  else if i.op = 6 ∨ i.op = 8 then (if AllDiv (cst i) a then some (a.map (· / cst i)) else none)
  else some a
/-- rows of one length, none too large -/
def Even (m N : Nat) (rs : List (List Int)) : Prop := ∀ zs ∈ rs, zs.length = N ∧ Below m zs
theorem Even.at {m N : Nat} {rs : List (List Int)} (h : Even m N rs) {k : Int} (hk : 0 ≤ k ∧ k < rs.length) : (rs[k.toNat]?.getD []).length = N ∧ Below m (rs[k.toNat]?.getD []) := by
  have h1 : k.toNat < rs.length := by omega
  rw [List.getElem?_eq_getElem h1]
  exact h _ (List.getElem_mem h1)
theorem RowS.len {G : Imm} {s : SV} {zs : List Int} (h : RowS G s zs) : s.n = zs.length := by
  obtain ⟨l, h1, _, _, h4⟩ := h
  rw [← h1]; exact h4.1
end Go.Proofs.Ytfleehgbpgmcnaa
