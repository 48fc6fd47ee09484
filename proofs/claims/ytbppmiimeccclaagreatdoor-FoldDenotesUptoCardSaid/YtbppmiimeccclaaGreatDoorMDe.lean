/- Parts of the proof (part 5): what the rows' text needs of the texts that lead to it. -/
import Derived.Test.YtbppmiimeccclaaGreatDoorMDd
set_option linter.unusedVariables false
set_option linter.unusedSimpArgs false
set_option linter.unusedSectionVars false
set_option maxRecDepth 100000
set_option linter.unusedVariables false
namespace Go.Proofs.YtbppmiimeccclaaGreatDoor
open Go Go.Sl
def BigQs (G : Imm) (l : List QV) (qs : List QZ) : Prop := l.length = qs.length ∧ ∀ i : Nat, i < l.length → BigQ G (l[i]?.getD default) (qs[i]?.getD (0, 0))
theorem BigQs.up {G G' : Imm} {l : List QV} {qs : List QZ} (h : BigQs G l qs) (hl : G.le G') : BigQs G' l qs := ⟨h.1, fun i hi => (h.2 i hi).up hl⟩
def QRow (G : Imm) (s : SV) (zs : List QZ) : Prop := ∃ l : List QV, l.length = s.n ∧ s.n ≤ s.c ∧ Arr G s.a l ∧ BigQs G l zs
theorem QRow.up {G G' : Imm} {s : SV} {zs : List QZ} (h : QRow G s zs) (hl : G.le G') : QRow G' s zs := by
  obtain ⟨l, h1, h2, h3, h4⟩ := h
  exact ⟨l, h1, h2, h3.up hl, h4.up hl⟩
def QGrid (G : Imm) (r : List SV) (rs : List (List QZ)) : Prop := r.length = rs.length ∧ ∀ i : Nat, i < r.length → QRow G (r[i]?.getD default) (rs[i]?.getD [])
theorem QGrid.up {G G' : Imm} {r : List SV} {rs : List (List QZ)} (h : QGrid G r rs) (hl : G.le G') : QGrid G' r rs := ⟨h.1, fun i hi => (h.2 i hi).up hl⟩
theorem QGrid.set {G : Imm} {r : List SV} {rs : List (List QZ)} (h : QGrid G r rs) {s : SV} {x : List QZ} (hs : QRow G s x) (k : Nat) : QGrid G (r.set k s) (rs.set k x) := by
  refine ⟨by rw [List.length_set, List.length_set]; exact h.1, fun i hi => ?_⟩
  rw [List.length_set] at hi
  have hrl := h.1
  rw [List.getElem?_set, List.getElem?_set]
  by_cases e : k = i
  · subst e
    rw [if_pos rfl, if_pos rfl, if_pos hi, if_pos (by omega)]
    exact hs
  · rw [if_neg e, if_neg e]
    exact h.2 i hi
def EvenQ (N : Nat) (rs : List (List QZ)) : Prop := ∀ zs ∈ rs, zs.length = N ∧ ∀ q ∈ zs, OkQ 2100 q
theorem EvenQ.at {N : Nat} {rs : List (List QZ)} (h : EvenQ N rs) {k : Nat} (hk : k < rs.length) : (rs[k]?.getD []).length = N ∧ ∀ q ∈ rs[k]?.getD [], OkQ 2100 q := by
  rw [List.getElem?_eq_getElem hk]; exact h _ (List.getElem_mem hk)
theorem EvenQ.set {N : Nat} {rs : List (List QZ)} (h : EvenQ N rs) {z : List QZ} (hz : z.length = N ∧ ∀ q ∈ z, OkQ 2100 q) (k : Nat) : EvenQ N (rs.set k z) := fun zs hm => by
  rcases List.mem_or_eq_of_mem_set hm with h1 | h1
  · exact h zs h1
  · rw [h1]; exact hz
theorem doQ_b {i : Sl.Instr} (h : ¬ (i.op = 3 ∨ i.op = 4)) (x y : QZ) : doQ i x y = doQ i x (0, 0) := by
  have h3 : ¬ i.op = 3 := fun e => h (.inl e)
  have h4 : ¬ i.op = 4 := fun e => h (.inr e)
  unfold doQ
  simp only [h3, h4, if_false]
theorem rowQ_len {i : Sl.Instr} {a b : List QZ} (h : a.length = b.length) : (rowQ i a b).length = a.length := by
  unfold rowQ
  split
  · rw [List.length_zipWith, h, Nat.min_self]
  · rw [List.length_map]
theorem rowQ_at {i : Sl.Instr} {a b : List QZ} (h : a.length = b.length) {t : Nat} (ht : t < a.length) : (rowQ i a b)[t]?.getD (0, 0) = doQ i (a[t]?.getD (0, 0)) (b[t]?.getD (0, 0)) := by
  have e1 : a[t]? = some (a[t]'ht) := List.getElem?_eq_getElem ht
  have e2 : b[t]? = some (b[t]'(by omega)) := List.getElem?_eq_getElem (by omega)
  unfold rowQ
  split
  · rw [List.getElem?_zipWith, e1, e2]; rfl
  · rename_i hn
    rw [List.getElem?_map, e1, e2, doQ_b hn]; rfl
theorem lt_low {m : Nat} {n d : Int} (h1 : Lt m n) (h2 : Lt m d) (h0 : 0 < d) : Lt (m + 1) (lowQ n d).1 ∧ Lt (m + 1) (lowQ n d).2 := by
  have hm : 1 ≤ m + 1 := by omega
  refine ⟨(quot_lt h1).mono (by omega), ?_⟩
  have h3 := low_pos (n := n) h0
  have h4 : Lt m (d / (Int.gcd n d : Int)) := quot_lt h2
  refine Lt.mono (Lt.le h4 ?_) (show m ≤ m + 1 by omega)
  have h5 : (lowQ n d).2 = d / (Int.gcd n d : Int) - 1 := rfl
  rw [h5] at h3 ⊢
  omega
theorem do_lt {i : Sl.Instr} {a b : QZ} (ha : OkQ 2100 a) (hb : OkQ 2100 b) (hk : i.op = 5 ∨ i.op = 6 ∨ i.op = 7 ∨ i.op = 8 → Lt 2100 (cst i)) : Lt 99999 (doQ i a b).1 ∧ Lt 99999 (doQ i a b).2 := by
  have sc := fun {q : QZ} (h : OkQ 2100 q) => (h.2.1.succ (m := 2100) (by decide) : Lt 2101 (q.2 + 1))
  have hp : ∀ x y : QZ, 0 ≤ x.2 → 0 ≤ y.2 → 0 < (x.2 + 1) * (y.2 + 1) := fun x y h1 h2 => Int.mul_pos (by omega) (by omega)
  have hadd : ∀ x y : QZ, OkQ 2100 x → OkQ 2100 y → Lt 99999 (addQ x y).1 ∧ Lt 99999 (addQ x y).2 := fun x y hx hy => by
    have a1 := ((hx.1.mono (show 2100 ≤ 2101 by decide)).mul (sc hy)).add ((hy.1.mono (show 2100 ≤ 2101 by decide)).mul (sc hx))
    have a2 := ((sc hx).mul (sc hy)).mono (show 2101 + 2101 ≤ 2101 + 2101 + 1 by decide)
    have h := lt_low a1 a2 (hp _ _ hx.2.2 hy.2.2)
    exact ⟨h.1.mono (by decide), h.2.mono (by decide)⟩
  have hmul : ∀ x y : QZ, OkQ 2100 x → OkQ 2100 y → Lt 99999 (mulQ x y).1 ∧ Lt 99999 (mulQ x y).2 := fun x y hx hy => by
    have a1 := (hx.1.mul hy.1).mono (show 2100 + 2100 ≤ 2101 + 2101 by decide)
    have a2 := (sc hx).mul (sc hy)
    have h := lt_low a1 a2 (hp _ _ hx.2.2 hy.2.2)
    exact ⟨h.1.mono (by decide), h.2.mono (by decide)⟩
  have hover : ∀ x y : QZ, OkQ 2100 x → OkQ 2100 y → Lt 99999 (overQ x y).1 ∧ Lt 99999 (overQ x y).2 := fun x y hx hy => by
    have a1 := (hx.1.mono (show 2100 ≤ 2101 by decide)).mul (sc hy)
    have a2 := (sc hx).mul (hy.1.mono (show 2100 ≤ 2101 by decide))
    unfold overQ makeQ
    split
    · exact ⟨Lt.mono (m := 0) (show ((0 : Int).natAbs : Int) < pb 0 by decide) (by decide), Lt.mono (m := 0) (show ((0 : Int).natAbs : Int) < pb 0 by decide) (by decide)⟩
    · split
      · have h := lt_low a1.neg a2.neg (by omega)
        exact ⟨h.1.mono (by decide), h.2.mono (by decide)⟩
      · have h := lt_low a1 a2 (by omega)
        exact ⟨h.1.mono (by decide), h.2.mono (by decide)⟩
  have hself : ∀ x : QZ, OkQ 2100 x → Lt 99999 x.1 ∧ Lt 99999 x.2 := fun x hx => ⟨hx.1.mono (by decide), hx.2.1.mono (by decide)⟩
  have hneg : OkQ 2100 (negQ b) := ⟨hb.1.neg, hb.2⟩
  unfold doQ
  split
  · exact hself (negQ a) ⟨ha.1.neg, ha.2⟩
  · split
    · exact hadd _ _ ha hb
    · split
      · exact hadd _ _ ha hneg
      · split
        · rename_i h; exact hmul _ _ ha (whole_ok (hk (by omega)))
        · split
          · rename_i h; exact hover _ _ ha (whole_ok (hk (by omega)))
          · exact hself a ha
end Go.Proofs.YtbppmiimeccclaaGreatDoor
set_option maxRecDepth 100000
set_option linter.unusedVariables false
namespace Go.Proofs.YtbppmiimeccclaaGreatDoor
open Go Go.Sl
set_option maxHeartbeats 4000000
attribute [local irreducible] valB pb cmpZ lstWp lowQ Lt bitsZ p2 cst wideQ doQ
theorem c63d (G : Imm) (x : QV) (q : QZ) (hx : BigQ G x q) (h1 : Lt 99999 q.1) (h2 : Lt 99999 q.2) :
    Does Tryz.prog 63 [.agg (Cells.enc x).toArray] G [] (fun v G' Ho => v = .bool (decide (wideQ q = true)) ∧ Ho = []) := by
  have h := c63 G x q hx h1 h2
  rw [show decide (wideQ q = true) = wideQ q from Bool.decide_eq_true]; exact h
theorem c95 (G : Imm) (a : Option Addr) (c : Nat) (l : List QV) (qs : List QZ) (ha : Arr G a l) (hq : BigQs G l qs) (hlt : ∀ q ∈ qs, Lt 99999 q.1 ∧ Lt 99999 q.2) (hl : l.length ≤ 1048576) :
    Does Tryz.prog 95 [.slice a l.length c, .func (.func 63) #[] #[]] G [] (fun v G' Ho => ∃ k : Int, v = .int .i64 k ∧ (0 ≤ k ↔ qs.any wideQ = true) ∧ Ho = []) := by
  have hlen := hq.1
  refine Does.enter Tryz.func95 rfl Tryz.ntmps95 rfl (fun w => ?_)
  refine Wc.gc 14 [] ?_
  refine Wc.loopG (ι := Nat × Imm) (fun (i, Gx) => ([(8, .int .i64 (i : Int)), (7, Go.Value.int Go.IntKind.i64 (↑(List.length l) : Int)), (0, Go.Value.slice a (List.length l) c), (1, Go.Value.func (Go.Fn.func 63) #[] #[])], [])) (fun (i, Gx) => Gx) (fun (i, Gx) => i ≤ l.length ∧ G.le Gx ∧ ∀ t : Nat, t < i → wideQ (qs[t]?.getD (0, 0)) = false) (fun (i, Gx) => l.length - i) ((0, G)) (⟨Nat.zero_le _, Imm.le_refl _, fun t ht => by omega⟩) rfl ⟨rfl, rfl, rfl, rfl, trivial⟩ trivial (fun ⟨i, Gx⟩ => fun (hk : i ≤ l.length ∧ G.le Gx ∧ ∀ t : Nat, t < i → wideQ (qs[t]?.getD (0, 0)) = false) => ?_)
  obtain ⟨hi0, hgx, hno⟩ := hk
  replace ha := ha.up hgx
  replace hq := hq.up hgx
  rcases Nat.lt_or_ge i l.length with hil | hil
  · have hmem : qs[i]?.getD (0, 0) ∈ qs := by rw [List.getElem?_eq_getElem (by omega)]; exact List.getElem_mem _
    obtain ⟨hl1, hl2⟩ := hlt _ hmem
    have hx : BigQ Gx (l[((i : Nat) : Int).toNat]?.getD default) (qs[i]?.getD (0, 0)) := hq.2 i hil
    by_cases hw : wideQ (qs[i]?.getD (0, 0)) = true
    · refine Wc.gl 22 [1] ?_
      refine Wl.q rfl (Qy.at (α := QV) T.sl59 rfl rfl (by assumption) (by omega)) ?_
      refine Wl.q rfl (Qy.loadsG T.agg92 rfl (Arr.elem (by assumption) (by omega)) rfl) ?_
      refine Wl.callV (fst := []) (cap := []) 0 rfl T.fn63 rfl rfl (c63d _ _ _ (by assumption) (by assumption) (by assumption)) (tags_of trivial) (fun v1 G1 Ho1 hle1 hp => ?_)
      obtain ⟨rfl, rfl⟩ := hp
      replace ha := ha.up hle1
      replace hq := hq.up hle1
      replace hx := hx.up hle1
      refine Wl.ga 15 [1] ?_
      refine Ar.e1 ?_
      refine ⟨(i : Int), rfl, ⟨fun _ => List.any_eq_true.2 ⟨_, hmem, hw⟩, fun _ => by omega⟩, rfl⟩
    · refine Wc.gl 22 [1] ?_
      refine Wl.q rfl (Qy.at (α := QV) T.sl59 rfl rfl (by assumption) (by omega)) ?_
      refine Wl.q rfl (Qy.loadsG T.agg92 rfl (Arr.elem (by assumption) (by omega)) rfl) ?_
      refine Wl.callV (fst := []) (cap := []) 0 rfl T.fn63 rfl rfl (c63d _ _ _ (by assumption) (by assumption) (by assumption)) (tags_of trivial) (fun v1 G1 Ho1 hle1 hp => ?_)
      obtain ⟨rfl, rfl⟩ := hp
      replace ha := ha.up hle1
      replace hq := hq.up hle1
      replace hx := hx.up hle1
      refine Wl.ga 10 [0] ?_
      refine Ar.again ((i + 1, G1)) ?_ ?_ rfl ⟨rfl, rfl, rfl, rfl, trivial⟩ trivial
      · refine ⟨by omega, Imm.le_trans hgx hle1, fun t ht => ?_⟩
        rcases Nat.lt_or_ge t i with h1 | h1
        · exact hno t h1
        · rw [show t = i by omega]; exact Bool.not_eq_true _ ▸ hw
      · show l.length - (i + 1) < l.length - i
        omega
  · refine Wc.ga 18 [0] ?_
    refine Ar.e1 ?_
    refine ⟨-1, rfl, ⟨fun h => absurd h (by decide), fun h => ?_⟩, rfl⟩
    obtain ⟨q, hqm, hqw⟩ := List.any_eq_true.1 h
    obtain ⟨t, ht, rfl⟩ := List.mem_iff_getElem.1 hqm
    have := hno t (by omega)
    rw [List.getElem?_eq_getElem ht] at this
    rw [show (some (qs[t]'ht)).getD (0, 0) = qs[t]'ht from rfl, hqw] at this
    cases this
theorem c62 (G : Imm) (a : Option Addr) (c : Nat) (l : List QV) (qs : List QZ) (ha : Arr G a l) (hq : BigQs G l qs) (hlt : ∀ q ∈ qs, Lt 99999 q.1 ∧ Lt 99999 q.2) (hl : l.length ≤ 1048576) :
    Does Tryz.prog 62 [.slice a l.length c, .func (.func 63) #[] #[]] G [] (fun v G' Ho => v = .bool (decide (qs.any wideQ = true)) ∧ Ho = []) := by
  refine Does.enter Tryz.func62 rfl Tryz.ntmps62 rfl (fun w => ?_)
  refine Wc.gl 9 [] ?_
  refine Wl.k 0 rfl (c95 _ _ _ _ _ (by assumption) (by assumption) (by assumption) (by assumption)) (fun v1 G1 Ho1 hle1 hp => ?_)
  obtain ⟨k1, rfl, hk1, rfl⟩ := hp
  replace ha := ha.up hle1
  replace hq := hq.up hle1
  refine Wl.ga 5 [] ?_
  refine Ar.e1 ?_
  exact ⟨by rw [decide_eq_decide.2 hk1], rfl⟩
theorem c39 (G : Imm) (k : Int) (s : Option Addr) (n c : Nat) : Does Tryz.prog 39 [.int .i64 k, .slice s n c] G [] (fun v G' Ho => v = .bool true ∧ G' = G ∧ Ho = []) := by
  refine Does.enter Tryz.func39 rfl Tryz.ntmps39 rfl (fun w => ?_)
  refine Wc.ga 11 [] ?_
  refine Ar.e1 ?_
  exact ⟨rfl, rfl, rfl⟩
end Go.Proofs.YtbppmiimeccclaaGreatDoor
set_option maxRecDepth 100000
set_option linter.unusedVariables false
namespace Go.Proofs.YtbppmiimeccclaaGreatDoor
open Go Go.Sl
set_option maxHeartbeats 4000000
theorem runG_none {D : Type} [Inhabited D] (st : Sl.Instr → List D → Option D) (l l' : List Sl.Instr) (rs : List D) (h : runG st l rs = none) : runG st (l ++ l') rs = none := by
  induction l generalizing rs with
  | nil => cases h
  | cons i l ih =>
    show (st i rs).bind (fun x => runG st (l ++ l') (rs.set i.to.toNat x)) = none
    have h' : (st i rs).bind (fun x => runG st l (rs.set i.to.toNat x)) = none := h
    cases hs : st i rs with
    | none => rfl
    | some x =>
      rw [hs] at h'
      exact ih _ h'
theorem code_take {l : List Sl.Instr} {i : Nat} (h : i < l.length) : l.take (i + 1) = l.take i ++ [l[((i : Nat) : Int).toNat]?.getD default] := by
  rw [List.take_add_one, Int.toNat_natCast, List.getElem?_eq_getElem h]; rfl
theorem runG_next {D : Type} [Inhabited D] {st : Sl.Instr → List D → Option D} {l : List Sl.Instr} {rs r : List D} {i : Nat} {x : D} (hi : i < l.length) (h : runG st (l.take i) rs = some r) (hx : st (l[((i : Nat) : Int).toNat]?.getD default) r = some x) :
    runG st (l.take (i + 1)) rs = some (r.set (l[((i : Nat) : Int).toNat]?.getD default).to.toNat x) := by
  rw [code_take hi, runG_snoc, h]
  show (st _ r).map _ = _
  rw [hx]; rfl
theorem runG_stop {D : Type} [Inhabited D] {st : Sl.Instr → List D → Option D} {l : List Sl.Instr} {rs r : List D} {i : Nat} (hi : i < l.length) (h : runG st (l.take i) rs = some r) (hx : st (l[((i : Nat) : Int).toNat]?.getD default) r = none) :
    runG st l rs = none := by
  have h1 : runG st (l.take (i + 1)) rs = none := by
    rw [code_take hi, runG_snoc, h]
    show (st _ r).map _ = _
    rw [hx]; rfl
  have h2 := runG_none st (l.take (i + 1)) (l.drop (i + 1)) rs h1
  rwa [List.take_append_drop] at h2
theorem stepQ_def (i : Sl.Instr) (rs : List (List QZ)) : stepQ i rs = if (rowQ i (rs[i.a.toNat]?.getD []) (rs[i.b.toNat]?.getD [])).any wideQ = true then none else some (rowQ i (rs[i.a.toNat]?.getD []) (rs[i.b.toNat]?.getD [])) := rfl
theorem Lt.of {m : Nat} {z : Int} (h : (z.natAbs : Int) < pb m) : Lt m z := h
attribute [local irreducible] valB pb cmpZ lstWp lowQ Lt bitsZ p2 cst wideQ doQ stepQ
theorem c37 (G : Imm) (p : PV) (ac ao : Option Addr) (cc co : Nat) (o : Option Addr) (d : Nat) (r : List SV) (j : List Value) (rs : List (List QZ)) (N : Nat) (hc : Arr G ac p.code) (hob : OwnA o d r j) (hg : QGrid G r rs) (hev : EvenQ N rs) (hN0 : 1 ≤ N) (hN : N ≤ 1048576)
    (hlen : p.code.length ≤ 16384) (hr : (r.length : Int) = p.regs) (hrr : r.length ≤ 128) (hmay : ∀ i ∈ p.code, mayOk i p.regs = true) :
    Does Tryz.prog 37 [.agg #[.int .i64 p.ins, .int .i64 p.regs, .slice ac p.code.length cc, .slice ao p.outs.length co], .slice o r.length d, .func (.func 39) #[] #[]] G [(0, o.map (·.block), Row 59 r j)]
      (fun v G' Ho => (∃ (r' : List SV) (rs' : List (List QZ)), r'.length = r.length ∧ runG stepQ p.code rs = some rs' ∧ v = .tuple #[.slice o r'.length d, .bool true] ∧ OwnA o d r' j ∧ QGrid G' r' rs' ∧ EvenQ N rs' ∧ Ho = [(0, o.map (·.block), Row 59 r' j)]) ∨
        (runG stepQ p.code rs = none ∧ v = .tuple #[.slice none 0 0, .bool false] ∧ Ho = [])) := by
  refine Does.enter Tryz.func37 rfl Tryz.ntmps37 rfl (fun w => ?_)
  refine Wc.gl 2 [] ?_
  refine Wl.box 1 rfl rfl rfl (fun b1 => ?_)
  refine Wl.gc 14 [1] ?_
  refine Wc.loopG (ι := Nat × Imm × List SV × List (List QZ)) (fun (i, Gx, r2, rs2) => ([(18, .int .i64 (i : Int)), (1, .slice o r2.length d), (17, Go.Value.int Go.IntKind.i64 (↑(List.length (Go.Proofs.YtbppmiimeccclaaGreatDoor.PV.code p)) : Int)), (16, Go.Value.slice ac (List.length (Go.Proofs.YtbppmiimeccclaaGreatDoor.PV.code p)) cc), (2, Go.Value.func (Go.Fn.func 39) #[] #[])], [(0, o.map (·.block), Row 59 r2 j), (1, Option.some b1, Go.Obj.cells #[Go.Value.int Go.IntKind.i64 (Go.Proofs.YtbppmiimeccclaaGreatDoor.PV.ins p), Go.Value.int Go.IntKind.i64 (Go.Proofs.YtbppmiimeccclaaGreatDoor.PV.regs p), Go.Value.slice ac (List.length (Go.Proofs.YtbppmiimeccclaaGreatDoor.PV.code p)) cc, Go.Value.slice ao (List.length (Go.Proofs.YtbppmiimeccclaaGreatDoor.PV.outs p)) co] 25)])) (fun (i, Gx, r2, rs2) => Gx) (fun (i, Gx, r2, rs2) => i ≤ p.code.length ∧ G.le Gx ∧ r2.length = r.length ∧ OwnA o d r2 j ∧ QGrid Gx r2 rs2 ∧ EvenQ N rs2 ∧ runG stepQ (p.code.take i) rs = some rs2) (fun (i, Gx, r2, rs2) => p.code.length - i) ((0, G, r, rs)) (⟨Nat.zero_le _, Imm.le_refl _, rfl, hob, hg, hev, rfl⟩) rfl ⟨rfl, rfl, rfl, rfl, rfl, trivial⟩ ⟨rfl, rfl, trivial⟩ (fun ⟨i, Gx, r2, rs2⟩ => fun (hk : i ≤ p.code.length ∧ G.le Gx ∧ r2.length = r.length ∧ OwnA o d r2 j ∧ QGrid Gx r2 rs2 ∧ EvenQ N rs2 ∧ runG stepQ (p.code.take i) rs = some rs2) => ?_)
  obtain ⟨hi0, hgx, hr2, ho2, hg2, hb2, hrun⟩ := hk
  replace hc := hc.up hgx
  have hrl := hg2.1
  rcases Nat.lt_or_ge i p.code.length with hic | hic
  · have hmem : (p.code[((i : Nat) : Int).toNat]?.getD default) ∈ p.code := by
      rw [Int.toNat_natCast, List.getElem?_eq_getElem hic]; exact List.getElem_mem hic
    have hmi := hmay _ hmem
    obtain ⟨m1, m2, m3, m4, m5, m6, m7, m8⟩ := may_facts hmi
    have hbz : (p.code[((i : Nat) : Int).toNat]?.getD default).op = 3 ∨ (p.code[((i : Nat) : Int).toNat]?.getD default).op = 4 ∨ (p.code[((i : Nat) : Int).toNat]?.getD default).b = 0 := by
      unfold mayOk at hmi
      rw [Bool.and_eq_true, Bool.and_eq_true, decide_eq_true_eq] at hmi
      exact hmi.1.1.2.2.2.2
    have hnext := fun (x : List QZ) => runG_next (st := stepQ) (x := x) hic hrun
    have hstop := runG_stop (st := stepQ) hic hrun
    obtain ⟨I, hI⟩ : ∃ I, I = p.code[((i : Nat) : Int).toNat]?.getD default := ⟨_, rfl⟩
    have mb : 0 ≤ I.b ∧ I.b < r2.length := by
      rw [hI]
      rcases hbz with h | h | h
      · have := m4 (.inl h); omega
      · have := m4 (.inr h); omega
      · omega
    rw [← hI] at m1 m2 m3 m4 m5 m6 m7 m8 hnext hstop
    have mt : 0 ≤ I.to ∧ I.to < r2.length := by omega
    have ma : 0 ≤ I.a ∧ I.a < r2.length := by omega
    have hcc : -9223372036854775808 ≤ I.c ∧ I.c ≤ 9223372036854775807 := by
      by_cases h : I.op = 5 ∨ I.op = 6
      · exact m7 h
      · have := m8 h; omega
    have hkc : I.op = 5 ∨ I.op = 6 ∨ I.op = 7 ∨ I.op = 8 → Lt 2100 (cst I) ∧ cst I ≠ 0 := fun h => by
      have h9 := m6 (by omega) (by omega) (by omega) (by omega)
      exact ⟨Lt.mono (Lt.of (m := 3) (Int.lt_of_lt_of_le h9.2 pw5_pb3)) (by decide), h9.1⟩
    have h78 : I.op = 7 ∨ I.op = 8 → 0 ≤ I.c ∧ I.c ≤ 64 := fun h => m8 (by omega)
    obtain ⟨la, ea1, ea2, ea3, ea4⟩ := hg2.2 I.a.toNat (by omega)
    obtain ⟨lb, eb1, eb2, eb3, eb4⟩ := hg2.2 I.b.toNat (by omega)
    obtain ⟨na, ma9⟩ := hb2.at (k := I.a.toNat) (by omega)
    obtain ⟨nb, mb9⟩ := hb2.at (k := I.b.toNat) (by omega)
    have hla : (r2[I.a.toNat]?.getD default).n = N := by rw [← ea1, ea4.1, na]
    have hlb : (r2[I.b.toNat]?.getD default).n = N := by rw [← eb1, eb4.1, nb]
    refine Wc.gl 14 [1] ?_
    refine Wl.q rfl (Qy.at (α := Sl.Instr) T.sl22 rfl rfl (by assumption) (by omega)) ?_
    refine Wl.q rfl (Qy.loadsG T.agg46 rfl (Arr.elem (by assumption) (by omega)) rfl) ?_
    refine Wl.alloc 2 rfl T.zero46 (fun b2 => ?_)
    refine Wl.gl 7 [2, 2] ?_
    rw [← hI]
    refine Wl.k 20 rfl (c61 _ I m1 hcc hkc h78) (fun v1 G1 Ho1 hle1 hp => ?_)
    obtain ⟨⟨fw, caps, rfl, hfn, hF⟩, rfl⟩ := hp
    have hle1' : Gx.le G1 := hle1
    replace hc := hc.up hle1'
    replace hg2 := hg2.up hle1'
    replace ea3 := ea3.up hle1'
    replace ea4 := ea4.up hle1'
    replace eb3 := eb3.up hle1'
    replace eb4 := eb4.up hle1'
    refine Wl.gc 4 [] ?_
    refine Wc.draw [1, 0, 2] [] T.mixed rfl ?_
    refine Gm.c 0 [] [] ?_
    refine Gm.c 1 [] [] ?_
    refine Gm.c 2 [2] [2] ?_
    refine Gm.u 3 [] rfl (Qy.indexAddrO (α := SV) T.sl55 rfl rfl (by assumption) (by omega)) ?_
    refine Gm.u 4 [0] rfl (Qy.loadO 0 0 T.one59 rfl rfl (by assumption) (by omega) rfl rfl) ?_
    refine Gm.c 5 [] [] ?_
    refine Gm.c 6 [] [] ?_
    refine Gm.c 7 [2] [2] ?_
    refine Gm.u 8 [] rfl (Qy.indexAddrO (α := SV) T.sl55 rfl rfl (by assumption) (by omega)) ?_
    refine Gm.u 9 [0] rfl (Qy.loadO 0 0 T.one59 rfl rfl (by assumption) (by omega) rfl rfl) ?_
    refine Gm.c 10 [] [] ?_
    refine Gm.c 11 [] [] ?_
    refine Gm.fin ?_
    refine Ar.gl 5 [] ?_
    refine Wl.make (α := QV) 3 rfl T.sl59 T.el92 rfl rfl (by omega) (by omega) (fun b3 => ?_)
    refine Wl.gc 12 [] ?_
    obtain ⟨A, hA⟩ : ∃ A, A = r2[I.a.toNat]?.getD default := ⟨_, rfl⟩
    obtain ⟨Z, hZ⟩ : ∃ Z, Z = r2[I.b.toNat]?.getD default := ⟨_, rfl⟩
    obtain ⟨qa, hqa⟩ : ∃ qa, qa = rs2[I.a.toNat]?.getD [] := ⟨_, rfl⟩
    obtain ⟨qb, hqb⟩ : ∃ qb, qb = rs2[I.b.toNat]?.getD [] := ⟨_, rfl⟩
    have hstep : stepQ I rs2 = if (rowQ I qa qb).any wideQ = true then none else some (rowQ I qa qb) := by rw [hqa, hqb]; exact stepQ_def I rs2
    rw [← hA, ← hZ]
    rw [← hA] at hla ea1 ea2 ea3
    rw [← hZ] at hlb eb1 eb2 eb3
    rw [← hqa] at ea4 na ma9
    rw [← hqb] at eb4 nb mb9
    refine Wc.re 39 rfl (show _ = Value.int .i64 (N : Int) by rw [List.length_replicate, Int.toNat_natCast, hla]) ?_
    refine Wc.re 11 rfl (show _ = Value.slice A.a la.length A.c by rw [ea1]) ?_
    refine Wc.re 12 rfl (show _ = Value.slice Z.a lb.length Z.c by rw [eb1]) ?_
    refine Wc.re 13 rfl (show _ = Value.slice (some ⟨b3, 0, none⟩) (List.replicate N (default : QV)).length N by rw [Int.toNat_natCast, hla, List.length_replicate]) ?_
    refine Wc.reH 3 (Row 92 (List.replicate N (default : QV)) []) rfl (by rw [Int.toNat_natCast, hla]) ?_
    have hown : ∀ rr : List QV, rr.length = N → OwnA (some ⟨b3, 0, none⟩) N rr [] := fun rr h => .inr ⟨b3, rfl, by rw [h]; rfl, by omega, by simp only [maxLen]; omega⟩
    refine Wc.loopG (ι := Nat × Imm × List QV) (fun (t, Gy, rr) => ([(40, .int .i64 (t : Int)), (17, .int .i64 (p.code.length : Int)), (16, .slice ac p.code.length cc), (13, .slice (some ⟨b3, 0, none⟩) rr.length N), (12, Go.Value.slice (Go.Sl.SV.a Z) (List.length lb) (Go.Sl.SV.c Z)), (11, Go.Value.slice (Go.Sl.SV.a A) (List.length la) (Go.Sl.SV.c A)), (39, Go.Value.int Go.IntKind.i64 (↑N : Int)), (10, Go.Value.func (Go.Fn.func fw) #[] (List.toArray caps)), (8, Go.Value.int Go.IntKind.i64 (↑i : Int)), (9, Go.Value.pointer (Option.some (Go.Addr.mk b2 0 Option.none))), (18, Go.Value.int Go.IntKind.i64 (↑i : Int)), (1, Go.Value.slice o (List.length r2) d), (2, Go.Value.func (Go.Fn.func 39) #[] #[])], [(3, some b3, Row 92 rr []), (2, Option.some b2, Go.Obj.cells (List.toArray (Go.Sl.Cells.enc I)) 46), (0, Option.map (fun x => Go.Addr.block x) o, Go.Sl.Row (α := Go.Sl.SV) 59 (r2) (j)), (1, Option.some b1, Go.Obj.cells #[Go.Value.int Go.IntKind.i64 (Go.Proofs.YtbppmiimeccclaaGreatDoor.PV.ins p), Go.Value.int Go.IntKind.i64 (Go.Proofs.YtbppmiimeccclaaGreatDoor.PV.regs p), Go.Value.slice ac (List.length (Go.Proofs.YtbppmiimeccclaaGreatDoor.PV.code p)) cc, Go.Value.slice ao (List.length (Go.Proofs.YtbppmiimeccclaaGreatDoor.PV.outs p)) co] 25)])) (fun (t, Gy, rr) => Gy) (fun (t, Gy, rr) => t ≤ N ∧ G1.le Gy ∧ rr.length = N ∧ ∀ q : Nat, q < t → BigQ Gy (rr[q]?.getD default) (doQ I (qa[q]?.getD (0, 0)) (qb[q]?.getD (0, 0)))) (fun (t, Gy, rr) => N - t) ((0, G1, List.replicate N (default : QV))) (⟨Nat.zero_le _, Imm.le_refl _, List.length_replicate, fun q hq => by omega⟩) rfl ⟨rfl, rfl, rfl, rfl, rfl, rfl, rfl, rfl, rfl, rfl, rfl, rfl, rfl, trivial⟩ ⟨rfl, rfl, rfl, rfl, trivial⟩ (fun ⟨t, Gy, rr⟩ => fun (hk : t ≤ N ∧ G1.le Gy ∧ rr.length = N ∧ ∀ q : Nat, q < t → BigQ Gy (rr[q]?.getD default) (doQ I (qa[q]?.getD (0, 0)) (qb[q]?.getD (0, 0)))) => ?_)
    obtain ⟨ht0, hgy, hrrN, hdone⟩ := hk
    replace ea3 := ea3.up hgy
    replace ea4 := ea4.up hgy
    replace eb3 := eb3.up hgy
    replace eb4 := eb4.up hgy
    have hor := hown rr hrrN
    rcases Nat.lt_or_ge t N with htN | htN
    · have hxa : BigQ Gy (la[((t : Nat) : Int).toNat]?.getD default) (qa[t]?.getD (0, 0)) := ea4.2 t (by omega)
      have hxb : BigQ Gy (lb[((t : Nat) : Int).toNat]?.getD default) (qb[t]?.getD (0, 0)) := eb4.2 t (by omega)
      have hoa : OkQ 2100 (qa[t]?.getD (0, 0)) := ma9 _ (by rw [List.getElem?_eq_getElem (by omega)]; exact List.getElem_mem _)
      have hoz : OkQ 2100 (qb[t]?.getD (0, 0)) := mb9 _ (by rw [List.getElem?_eq_getElem (by omega)]; exact List.getElem_mem _)
      refine Wc.gc 17 [1] ?_
      refine Wc.draw [1, 0, 2, 3] [(3, 13), (2, 13), (0, 13), (1, 13), (3, 11), (2, 11), (0, 11), (1, 11)] T.mixed rfl ?_
      refine Gm.c 0 [] [] ?_
      refine Gm.c 1 [] [] ?_
      refine Gm.c 2 [] [] ?_
      refine Gm.c 3 [] [] ?_
      refine Gm.c 4 [] [] ?_
      refine Gm.u 5 [] rfl (Qy.at (α := QV) T.sl59 rfl rfl (by assumption) (by omega)) ?_
      refine Gm.u 6 [] rfl (Qy.loadsG T.agg92 rfl (Arr.elem (by assumption) (by omega)) rfl) ?_
      refine Gm.c 7 [] [] ?_
      refine Gm.c 8 [] [] ?_
      refine Gm.u 9 [] rfl (Qy.at (α := QV) T.sl59 rfl rfl (by assumption) (by omega)) ?_
      refine Gm.u 10 [] rfl (Qy.loadsG T.agg92 rfl (Arr.elem (by assumption) (by omega)) rfl) ?_
      refine Gm.o1 11 ?_
      refine Wl.callV (fst := []) (cap := caps) 30 rfl hfn rfl rfl (hF _ _ _ _ _ hgy hxa hxb hoa hoz) (tags_of trivial) (fun v2 G2 Ho2 hle2 hp => ?_)
      obtain ⟨rq, rfl, hrq, rfl⟩ := hp
      have hle2' : Gy.le G2 := hle2
      refine Wl.on0 ?_
      refine Gm.u 12 [] rfl (Qy.indexAddrO (α := QV) T.sl59 rfl rfl (by assumption) (by omega)) ?_
      refine Gm.one 13 trivial (by first | exact Imm.le_refl _ | repeat (first | assumption | refine Imm.le_trans ?_ (by assumption))) (by kernel_rfl) rfl ?_
      refine Wl.setO (z := rq) (m := ((t : Nat) : Int)) 3 T.size92 rfl rfl rfl hor (by omega) rfl (fun ho4 => ?_)
      rw [Int.toNat_natCast] at ho4 ⊢
      refine Wl.on0 ?_
      refine Gm.doneA (by kernel_rfl) trivial (by first | exact Imm.le_refl _ | repeat (first | assumption | refine Imm.le_trans ?_ (by assumption))) ?_
      refine Ar.ga 6 [] ?_
      refine Ar.re 13 rfl (show _ = Value.slice (some ⟨b3, 0, none⟩) (rr.set t rq).length N by rw [List.length_set]) ?_
      refine Ar.again ((t + 1, G2, rr.set t rq)) ?_ ?_ rfl ⟨rfl, rfl, rfl, rfl, rfl, rfl, rfl, rfl, rfl, rfl, rfl, rfl, rfl, trivial⟩ ⟨rfl, rfl, rfl, rfl, trivial⟩
      · refine ⟨by omega, Imm.le_trans hgy hle2', by rw [List.length_set]; exact hrrN, fun q hq => ?_⟩
        rw [List.getElem?_set]
        by_cases e : t = q
        · subst e; rw [if_pos rfl, if_pos (by omega)]; exact hrq
        · rw [if_neg e]; exact (hdone q (by omega)).up hle2'
      · show N - (t + 1) < N - t
        omega
    · have htt : t = N := by omega
      subst htt
      refine Wc.gl 16 [0] ?_
      have hab : qa.length = qb.length := by omega
      have hrl9 := rowQ_len (i := I) hab
      have hlt9 : ∀ q ∈ rowQ I qa qb, Lt 99999 q.1 ∧ Lt 99999 q.2 := fun q hq => by
        obtain ⟨u, hu, rfl⟩ := List.mem_iff_getElem.1 hq
        have e := rowQ_at (i := I) hab (t := u) (by omega)
        rw [List.getElem?_eq_getElem hu] at e
        rw [show (rowQ I qa qb)[u]'hu = _ from e]
        exact do_lt (ma9 _ (by rw [List.getElem?_eq_getElem (by omega)]; exact List.getElem_mem _)) (mb9 _ (by rw [List.getElem?_eq_getElem (by omega)]; exact List.getElem_mem _)) (fun h => (hkc h).1)
      have hnn9 : ∀ q ∈ rowQ I qa qb, 0 ≤ q.2 := fun q hq => by
        obtain ⟨u, hu, rfl⟩ := List.mem_iff_getElem.1 hq
        have e := rowQ_at (i := I) hab (t := u) (by omega)
        rw [List.getElem?_eq_getElem hu] at e
        rw [show (rowQ I qa qb)[u]'hu = _ from e]
        exact do_pos (ma9 _ (by rw [List.getElem?_eq_getElem (by omega)]; exact List.getElem_mem _)).2.2 (mb9 _ (by rw [List.getElem?_eq_getElem (by omega)]; exact List.getElem_mem _)).2.2
      refine Wl.freezeRow 3 rfl hor (fun G3 hle3 hA3 => ?_)
      have hle3' : Gy.le G3 := hle3
      have hBs : BigQs G3 rr (rowQ I qa qb) := ⟨by omega, fun q hq => by rw [rowQ_at hab (by omega)]; exact (hdone q (by omega)).up hle3'⟩
      refine Wl.k 40 rfl (c62 _ _ _ rr _ hA3 hBs hlt9 (by omega)) (fun v3 G4 Ho3 hle4 hp => ?_)
      obtain ⟨rfl, rfl⟩ := hp
      replace hA3 := hA3.up hle4
      replace hBs := hBs.up hle4
      by_cases hw : (rowQ I qa qb).any wideQ = true
      · refine Wl.ll0 1 [] ?_
        refine Wl.yes 59 rfl (by first | assumption | omega) ?_
        refine Wl.ga 22 [1] ?_
        refine Ar.e2 ?_
        exact .inr ⟨hstop (by rw [hstep, if_pos hw]), rfl, rfl⟩
      · have hz := hnext _ (by rw [hstep, if_neg hw])
        refine Wl.ll0 1 [] ?_
        refine Wl.no 59 rfl (by first | assumption | omega) ?_
        refine Wl.ll0 7 [] ?_
        refine Wl.callV (fst := []) (cap := []) 4 rfl T.fn39 rfl rfl (c39 _ _ _ _ _) (tags_of trivial) (fun v2 G2 Ho2 hle2 hp => ?_)
        obtain ⟨rfl, rfl, rfl⟩ := hp
        refine Wl.gl 13 [0, 2] ?_
        refine Wl.q rfl (Qy.indexAddrO (α := SV) T.sl55 rfl rfl (by assumption) (by omega)) ?_
        refine Wl.re 69 rfl (show _ = Value.slice (some ⟨b3, 0, none⟩) t t by rw [hrrN]) ?_
        refine Wl.setO (z := (⟨some ⟨b3, 0, none⟩, t, t⟩ : SV)) (m := I.to) 0 T.size59 rfl rfl rfl ho2 mt rfl (fun ho5 => ?_)
        refine Wl.ga 7 [] ?_
        refine Ar.re 1 rfl (show _ = Value.slice o (r2.set I.to.toNat (⟨some ⟨b3, 0, none⟩, t, t⟩ : SV)).length d by rw [List.length_set]) ?_
        have hle9 : G1.le G2 := Imm.le_trans hgy (Imm.le_trans hle3' hle4)
        have hrow : QRow G2 (⟨some ⟨b3, 0, none⟩, t, t⟩ : SV) (rowQ I qa qb) := ⟨rr, hrrN, Nat.le_refl _, hA3, hBs⟩
        have hok : (rowQ I qa qb).length = t ∧ ∀ q ∈ rowQ I qa qb, OkQ 2100 q := ⟨by omega, fun q hq => wide_ok (by
          cases hq9 : wideQ q with
          | false => rfl
          | true => exact absurd (List.any_eq_true.2 ⟨q, hq, hq9⟩) hw) (hnn9 q hq)⟩
        refine Ar.again ((i + 1, G2, r2.set I.to.toNat (⟨some ⟨b3, 0, none⟩, t, t⟩ : SV), rs2.set I.to.toNat (rowQ I qa qb))) ?_ ?_ rfl ⟨rfl, rfl, rfl, rfl, rfl, trivial⟩ ⟨rfl, rfl, trivial⟩
        · exact ⟨by omega, Imm.le_trans hgx (Imm.le_trans hle1' hle9), by rw [List.length_set]; exact hr2, ho5, (hg2.up hle9).set hrow _, hb2.set hok _, hz⟩
        · show p.code.length - (i + 1) < p.code.length - i
          omega
  · have hii : i = p.code.length := by omega
    subst hii
    rw [List.take_length] at hrun
    refine Wc.ga 20 [0] ?_
    refine Ar.out2 (.inr rfl) (Ho := [(0, o.map (·.block), Row 59 r2 j)]) rfl (.tmp rfl) (.tmp rfl) ⟨rfl, trivial⟩ ?_
    exact .inl ⟨r2, rs2, hr2, hrun, rfl, ho2, hg2, hb2, rfl⟩
end Go.Proofs.YtbppmiimeccclaaGreatDoor
set_option maxRecDepth 100000
set_option linter.unusedVariables false
namespace Go.Proofs.YtbppmiimeccclaaGreatDoor
open Go Go.Sl
set_option maxHeartbeats 4000000
theorem units_at {p : PV} {k : Nat} (h : k < p.regs.toNat) : (unitsQ p)[k]?.getD [] = (List.range p.ins.toNat).map fun j => if k = j then ((1, 0) : QZ) else (0, 0) := by
  unfold unitsQ
  rw [List.getElem?_map, List.getElem?_range h]; rfl
theorem unit_row {p : PV} {k j : Nat} (h : k < p.regs.toNat) (hj : j < p.ins.toNat) : ((unitsQ p)[k]?.getD [])[j]?.getD (0, 0) = if k = j then ((1, 0) : QZ) else (0, 0) := by
  rw [units_at h, List.getElem?_map, List.getElem?_range hj]; rfl
theorem units_even {p : PV} : EvenQ p.ins.toNat (unitsQ p) := fun zs hz => by
  unfold unitsQ at hz
  obtain ⟨k, hk, rfl⟩ := List.mem_map.1 hz
  refine ⟨by rw [List.length_map, List.length_range], fun q hq => ?_⟩
  obtain ⟨j, hj, rfl⟩ := List.mem_map.1 hq
  have h0 : Lt 2100 0 := Lt.mono (m := 0) (show ((0 : Int).natAbs : Int) < pb 0 by decide) (by decide)
  split
  · exact ⟨Lt.one (by decide), h0, Int.le_refl _⟩
  · exact ⟨h0, h0, Int.le_refl _⟩
theorem bigq_zero (G : Imm) : BigQ G (default : QV) (0, 0) := ⟨Big.zero G, Big.zero G⟩
theorem row_zero {G : Imm} {p : PV} {k N : Nat} (hk : k < p.regs.toNat) (hN : p.ins.toNat = N) (hkN : ¬ k < N) : BigQs G (List.replicate N (default : QV)) ((unitsQ p)[k]?.getD []) := by
  refine ⟨by rw [units_at hk, List.length_map, List.length_range, List.length_replicate, hN], fun i hi => ?_⟩
  rw [List.length_replicate] at hi
  rw [unit_row hk (by omega), if_neg (by omega), List.getElem?_replicate, if_pos hi]
  exact bigq_zero G
theorem row_one {G : Imm} {p : PV} {k N : Nat} {x : QV} (hk : k < p.regs.toNat) (hN : p.ins.toNat = N) (hkN : k < N) (hx : BigQ G x (1, 0)) : BigQs G ((List.replicate N (default : QV)).set k x) ((unitsQ p)[k]?.getD []) := by
  refine ⟨by rw [units_at hk, List.length_map, List.length_range, List.length_set, List.length_replicate, hN], fun i hi => ?_⟩
  rw [List.length_set, List.length_replicate] at hi
  rw [unit_row hk (by omega), List.getElem?_set]
  by_cases e : k = i
  · subst e
    rw [if_pos rfl, if_pos rfl, if_pos (by rw [List.length_replicate]; exact hi)]
    exact hx
  · rw [if_neg e, if_neg e, List.getElem?_replicate, if_pos hi]
    exact bigq_zero G
theorem qrow_snoc {G : Imm} {q : List SV} {os : List (List QZ)} {i : Nat} {s : SV} (h : ∀ t : Nat, t < i → QRow G (q[t]?.getD default) (os[t]?.getD [])) (hq : q.length = i) (hs : QRow G s (os[i]?.getD [])) : ∀ t : Nat, t < i + 1 → QRow G ((q ++ [s])[t]?.getD default) (os[t]?.getD []) := fun t ht => by
  rcases Nat.lt_or_ge t i with h1 | h1
  · rw [List.getElem?_append_left (by omega)]; exact h t h1
  · have e : t = i := by omega
    subst e
    rw [List.getElem?_append_right (by omega), hq, Nat.sub_self]; exact hs
attribute [local irreducible] valB pb cmpZ lstWp lowQ Lt bitsZ p2 cst wideQ doQ stepQ unitsQ
theorem c38 (G : Imm) (p : PV) (ac ao : Option Addr) (cc co : Nat) (f1 : 1 ≤ p.ins) (f2 : p.ins ≤ p.regs) (f3 : p.regs ≤ 128) :
    Does Tryz.prog 38 [.agg #[.int .i64 p.ins, .int .i64 p.regs, .slice ac p.code.length cc, .slice ao p.outs.length co]] G []
      (fun v G' Ho => ∃ (o : Option Addr) (r : List SV) (d : Nat) (j : List Value), v = .slice o r.length d ∧ QGrid G' r (unitsQ p) ∧ OwnA o d r j ∧ (r.length : Int) = p.regs ∧ Ho = [(0, o.map (·.block), Row 59 r j)]) := by
  obtain ⟨R, hR⟩ : ∃ R : Nat, p.regs = (R : Int) := ⟨p.regs.toNat, by omega⟩
  obtain ⟨N, hN⟩ : ∃ N : Nat, p.ins = (N : Int) := ⟨p.ins.toNat, by omega⟩
  have hN' : p.ins.toNat = N := by omega
  have hR' : p.regs.toNat = R := by omega
  refine Does.enter Tryz.func38 rfl Tryz.ntmps38 rfl (fun w => ?_)
  rw [hR, hN]
  refine Wc.nilRow 0 (Row 59 ([] : List SV) []) ?_
  refine Wc.gl 2 [] ?_
  refine Wl.box 1 rfl rfl rfl (fun b1 => ?_)
  refine Wl.gc 17 [1] ?_
  refine Wc.loopG (ι := Nat × Imm × List SV × (Option Addr × Nat × List Value)) (fun (k, Gx, q, (o, d, j)) => ([(8, .int .i64 (k : Int)), (3, .slice o q.length d), (7, Go.Value.int Go.IntKind.i64 (↑R : Int)), (2, Go.Value.slice Option.none 0 0), (1, Go.Value.pointer (Option.some (Go.Addr.mk b1 0 Option.none)))], [(0, o.map (·.block), Row 59 q j), (1, Option.some b1, Go.Obj.cells #[Go.Value.int Go.IntKind.i64 (↑N : Int), Go.Value.int Go.IntKind.i64 (↑R : Int), Go.Value.slice ac (List.length (Go.Proofs.YtbppmiimeccclaaGreatDoor.PV.code p)) cc, Go.Value.slice ao (List.length (Go.Proofs.YtbppmiimeccclaaGreatDoor.PV.outs p)) co] 25)])) (fun (k, Gx, q, (o, d, j)) => Gx) (fun (k, Gx, q, (o, d, j)) => k ≤ R ∧ G.le Gx ∧ q.length = k ∧ (∀ t : Nat, t < k → QRow Gx (q[t]?.getD default) ((unitsQ p)[t]?.getD [])) ∧ OwnA o d q j) (fun (k, Gx, q, (o, d, j)) => R - k) ((0, G, [], (none, 0, []))) (⟨Nat.zero_le _, Imm.le_refl _, rfl, fun t ht => by omega, OwnA.nil⟩) rfl ⟨rfl, rfl, rfl, rfl, rfl, trivial⟩ ⟨rfl, rfl, trivial⟩ (fun ⟨k, Gx, q, (o, d, j)⟩ => fun (hk : k ≤ R ∧ G.le Gx ∧ q.length = k ∧ (∀ t : Nat, t < k → QRow Gx (q[t]?.getD default) ((unitsQ p)[t]?.getD [])) ∧ OwnA o d q j) => ?_)
  obtain ⟨hk0, hgx, hqk, hrows, hoq⟩ := hk
  rcases Nat.lt_or_ge k R with hkR | hkR
  · by_cases hkN : k < N
    · refine Wc.gl 21 [1, 1] ?_
      refine Wl.make (α := QV) 2 rfl T.sl59 T.el92 rfl rfl (by omega) (by omega) (fun b2 => ?_)
      refine Wl.gl 16 [1, 1] ?_
      refine Wl.k 3 rfl (v57 _) (fun v1 G1 Ho1 hle1 hp => ?_)
      obtain ⟨ri1, rfl, hri1, rfl⟩ := hp
      refine Wl.k 3 rfl (c64 _ _ _ (by assumption)) (fun v2 G2 Ho2 hle2 hp => ?_)
      obtain ⟨rr2, rfl, hrr2, rfl, rfl⟩ := hp
      replace hri1 := hri1.up hle2
      rw [Int.toNat_natCast, List.length_replicate]
      obtain ⟨r0, hr0⟩ : ∃ r0, r0 = List.replicate N (default : QV) := ⟨_, rfl⟩
      have lr0 : r0.length = N := by rw [hr0, List.length_replicate]
      have hor : OwnA (some ⟨b2, 0, none⟩) N r0 [] := .inr ⟨b2, rfl, by rw [lr0]; rfl, by rw [lr0]; exact Nat.le_refl _, by simp only [maxLen]; omega⟩
      rw [← hr0]
      refine Wl.re 18 rfl (show _ = Value.slice (some ⟨b2, 0, none⟩) r0.length N by rw [lr0]) ?_
      refine Wl.q rfl (Qy.indexAddrO (α := QV) T.sl59 rfl rfl (by assumption) (by omega)) ?_
      refine Wl.setO (z := rr2) (m := ((k : Nat) : Int)) 2 T.size92 rfl rfl rfl hor (by omega) rfl (fun ho4 => ?_)
      rw [Int.toNat_natCast] at ho4 ⊢
      refine Wl.gl 5 [] ?_
      refine Wl.lit (α := SV) 3 [⟨_, _, _⟩] rfl T.sl55 T.el59 rfl rfl rfl rfl rfl (fun b3 => ?_)
      refine Wl.append (α := SV) 0 rfl T.sl55 T.el59 rfl rfl rfl (by first | assumption | exact OwnA.nil | exact OwnA.made (by simp)) (Src.row 3 rfl) (by first | omega | (simp only [List.length_append, List.length_cons, List.length_nil, maxLen]; omega)) (by first | omega | (simp only [List.length_append, List.length_cons, List.length_nil, maxLen]; omega)) (fun a1 c1 junk1 ho1 => ?_)
      refine Wl.ga 8 [] ?_
      refine Ar.freezeRow 2 rfl ho4 (fun G3 hle3 hA3 => ?_)
      refine Ar.again ((k + 1, G3, q ++ [⟨some ⟨b2, 0, none⟩, N, N⟩], (a1, c1, junk1))) ?_ ?_ rfl ⟨rfl, rfl, rfl, rfl, rfl, trivial⟩ ⟨rfl, rfl, trivial⟩
      · have hg3 : Gx.le G3 := Imm.le_trans hle1 hle3
        refine ⟨by omega, Imm.le_trans hgx hg3, by rw [List.length_append, hqk]; rfl, qrow_snoc (fun t ht => (hrows t ht).up hg3) hqk ?_, by assumption⟩
        exact ⟨_, by rw [List.length_set, lr0], Nat.le_refl _, hA3, by rw [hr0]; exact row_one (by omega) hN' hkN (hrr2.up hle3)⟩
      · show R - (k + 1) < R - k
        omega
    · refine Wc.gl 21 [1, 1] ?_
      refine Wl.make (α := QV) 2 rfl T.sl59 T.el92 rfl rfl (by omega) (by omega) (fun b2 => ?_)
      refine Wl.gl 18 [1, 0] ?_
      refine Wl.lit (α := SV) 3 [⟨_, _, _⟩] rfl T.sl55 T.el59 rfl rfl rfl rfl rfl (fun b3 => ?_)
      refine Wl.append (α := SV) 0 rfl T.sl55 T.el59 rfl rfl rfl (by first | assumption | exact OwnA.nil | exact OwnA.made (by simp)) (Src.row 3 rfl) (by first | omega | (simp only [List.length_append, List.length_cons, List.length_nil, maxLen]; omega)) (by first | omega | (simp only [List.length_append, List.length_cons, List.length_nil, maxLen]; omega)) (fun a1 c1 junk1 ho1 => ?_)
      refine Wl.ga 8 [] ?_
      have hor : OwnA (some ⟨b2, 0, none⟩) N (List.replicate N (default : QV)) [] := .inr ⟨b2, rfl, by rw [List.length_replicate]; rfl, by rw [List.length_replicate]; exact Nat.le_refl _, by simp only [maxLen]; omega⟩
      rw [Int.toNat_natCast, List.length_replicate] at ho1 ⊢
      refine Ar.freezeRow 2 rfl hor (fun G3 hle3 hA3 => ?_)
      refine Ar.again ((k + 1, G3, q ++ [⟨some ⟨b2, 0, none⟩, N, N⟩], (a1, c1, junk1))) ?_ ?_ rfl ⟨rfl, rfl, rfl, rfl, rfl, trivial⟩ ⟨rfl, rfl, trivial⟩
      · have hg3 : Gx.le G3 := hle3
        refine ⟨by omega, Imm.le_trans hgx hg3, by rw [List.length_append, hqk]; rfl, qrow_snoc (fun t ht => (hrows t ht).up hg3) hqk ?_, by assumption⟩
        exact ⟨_, List.length_replicate, Nat.le_refl _, hA3, row_zero (by omega) hN' hkN⟩
      · show R - (k + 1) < R - k
        omega
  · have hkk : k = R := by omega
    subst hkk
    have hul : (unitsQ p).length = k := by rw [units_len]; exact hR'
    refine Wc.ga 19 [0] ?_
    refine Ar.out1 (.inr rfl) (Ho := [(0, o.map (·.block), Row 59 q j)]) rfl (.tmp rfl) ⟨rfl, trivial⟩ ?_
    exact ⟨o, q, d, j, rfl, ⟨by omega, fun t ht => hrows t (by omega)⟩, hoq, by omega, rfl⟩
end Go.Proofs.YtbppmiimeccclaaGreatDoor
set_option maxRecDepth 100000
set_option linter.unusedVariables false
namespace Go.Proofs.YtbppmiimeccclaaGreatDoor
open Go Go.Sl
set_option maxHeartbeats 4000000
attribute [local irreducible] valB pb cmpZ lstWp lowQ Lt bitsZ p2 cst wideQ doQ stepQ unitsQ
theorem c65 (G : Imm) (a : Option Addr) (c : Nat) (l : List QV) (ha : Arr G a l) (h0 : 0 < l.length) (hl : l.length ≤ 1048576) :
    Does Tryz.prog 65 [.slice a l.length c] G [] (fun v G' Ho => ∃ s d, v = .slice s l.length d ∧ Arr G' s l ∧ l.length ≤ d ∧ Ho = []) := by
  have hne : ¬ a = none := by rw [ha.addr h0]; exact fun h => by cases h
  refine Does.enter Tryz.func65 rfl Tryz.ntmps65 rfl (fun w => ?_)
  refine Wc.gl 9 [] ?_
  refine Wl.q rfl (Qy.eqlSliceNil T.sl59 rfl rfl) ?_
  refine Wl.gl 7 [0] ?_
  refine Wl.lit0 0 rfl T.sl59 (fun b1 => ?_)
  refine Wl.ll0 1 [] ?_
  refine Wl.reH 0 (Row 92 ([] : List QV) []) rfl rfl ?_
  refine Wl.append (α := QV) (xs := []) (ys := l) (junk := []) 0 rfl T.sl59 T.el92 rfl rfl rfl (.inr ⟨b1, rfl, rfl, Nat.le_refl _, Nat.zero_le _⟩) (Src.arr ha) (by rw [List.length_nil]; omega) (by rw [List.length_nil]; simp only [maxLen]; omega) (fun a1 c1 junk1 ho1 => ?_)
  rw [List.nil_append] at ho1 ⊢
  have hc1 := ho1.le
  refine Wl.ga 4 [] ?_
  refine Ar.freezeRow 0 rfl ho1 (fun G1 hle1 hA1 => ?_)
  refine Ar.e1 ?_
  exact ⟨a1, c1, rfl, hA1, hc1, rfl⟩
def outsQ (p : PV) (rs : List (List QZ)) : List (List QZ) := p.outs.map fun r => rs[r.toNat]?.getD []
theorem outsQ_at {p : PV} {rs : List (List QZ)} {i : Nat} (hi : i < p.outs.length) : (outsQ p rs)[i]?.getD [] = rs[(p.outs[((i : Nat) : Int).toNat]?.getD default).toNat]?.getD [] := by
  unfold outsQ
  rw [List.getElem?_map, Int.toNat_natCast, List.getElem?_eq_getElem hi]; rfl
theorem c40 (G : Imm) (p : PV) (ac ao ra : Option Addr) (cc co rc : Nat) (r : List SV) (rs : List (List QZ)) (N : Nat) (ho : Arr G ao p.outs) (hra : Arr G ra r) (hg : QGrid G r rs) (hev : EvenQ N rs) (hN0 : 1 ≤ N) (hN : N ≤ 1048576) (hr : (r.length : Int) = p.regs)
    (f6 : p.outs.length ≤ 128) (f7 : ∀ x ∈ p.outs, 0 ≤ x ∧ x < p.regs) :
    Does Tryz.prog 40 [.agg #[.int .i64 p.ins, .int .i64 p.regs, .slice ac p.code.length cc, .slice ao p.outs.length co], .slice ra r.length rc] G []
      (fun v G' Ho => ∃ (o : Option Addr) (q : List SV) (d : Nat), v = .slice o q.length d ∧ Arr G' o q ∧ q.length ≤ d ∧ QGrid G' q (outsQ p rs) ∧ Ho = []) := by
  have hrl := hg.1
  refine Does.enter Tryz.func40 rfl Tryz.ntmps40 rfl (fun w => ?_)
  refine Wc.nilRow 0 (Row 59 ([] : List SV) []) ?_
  refine Wc.gl 2 [] ?_
  refine Wl.box 1 rfl rfl rfl (fun b1 => ?_)
  refine Wl.gc 18 [1] ?_
  refine Wc.loopG (ι := Nat × Imm × List SV × (Option Addr × Nat × List Value)) (fun (i, Gx, q, (o, d, j)) => ([(11, .int .i64 (i : Int)), (5, .slice o q.length d), (10, Go.Value.int Go.IntKind.i64 (↑(List.length (Go.Proofs.YtbppmiimeccclaaGreatDoor.PV.outs p)) : Int)), (9, Go.Value.slice ao (List.length (Go.Proofs.YtbppmiimeccclaaGreatDoor.PV.outs p)) co), (4, Go.Value.slice Option.none 0 0), (1, Go.Value.slice ra (List.length r) rc)], [(0, o.map (·.block), Row 59 q j), (1, Option.some b1, Go.Obj.cells #[Go.Value.int Go.IntKind.i64 (Go.Proofs.YtbppmiimeccclaaGreatDoor.PV.ins p), Go.Value.int Go.IntKind.i64 (Go.Proofs.YtbppmiimeccclaaGreatDoor.PV.regs p), Go.Value.slice ac (List.length (Go.Proofs.YtbppmiimeccclaaGreatDoor.PV.code p)) cc, Go.Value.slice ao (List.length (Go.Proofs.YtbppmiimeccclaaGreatDoor.PV.outs p)) co] 25)])) (fun (i, Gx, q, (o, d, j)) => Gx) (fun (i, Gx, q, (o, d, j)) => i ≤ p.outs.length ∧ G.le Gx ∧ q.length = i ∧ (∀ t : Nat, t < i → QRow Gx (q[t]?.getD default) ((outsQ p rs)[t]?.getD [])) ∧ OwnA o d q j) (fun (i, Gx, q, (o, d, j)) => p.outs.length - i) ((0, G, [], (none, 0, []))) (⟨Nat.zero_le _, Imm.le_refl _, rfl, fun t ht => by omega, OwnA.nil⟩) rfl ⟨rfl, rfl, rfl, rfl, rfl, rfl, trivial⟩ ⟨rfl, rfl, trivial⟩ (fun ⟨i, Gx, q, (o, d, j)⟩ => fun (hk : i ≤ p.outs.length ∧ G.le Gx ∧ q.length = i ∧ (∀ t : Nat, t < i → QRow Gx (q[t]?.getD default) ((outsQ p rs)[t]?.getD [])) ∧ OwnA o d q j) => ?_)
  obtain ⟨hi0, hgx, hqi, hrows, hoq⟩ := hk
  replace ho := ho.up hgx
  replace hra := hra.up hgx
  replace hg := hg.up hgx
  rcases Nat.lt_or_ge i p.outs.length with hio | hio
  · have hmem : p.outs[((i : Nat) : Int).toNat]?.getD default ∈ p.outs := by
      rw [Int.toNat_natCast, List.getElem?_eq_getElem hio]; exact List.getElem_mem hio
    have hrg := f7 _ hmem
    obtain ⟨l1, ea1, ea2, ea3, ea4⟩ := hg.2 (p.outs[((i : Nat) : Int).toNat]?.getD default).toNat (by omega)
    have hN1 := (hev.at (k := (p.outs[((i : Nat) : Int).toNat]?.getD default).toNat) (by omega)).1
    have hl1 : l1.length = N := by rw [ea4.1, hN1]
    refine Wc.gl 13 [1] ?_
    refine Wl.q rfl (Qy.at (α := Int) T.sl23 rfl rfl (by assumption) (by omega)) ?_
    refine Wl.q rfl (Qy.loadG T.one3 rfl (Arr.cell (by assumption) (by omega) 0 rfl rfl)) ?_
    refine Wl.gl 7 [] ?_
    refine Wl.q rfl (Qy.at (α := SV) T.sl55 rfl rfl (by assumption) (by omega)) ?_
    refine Wl.q rfl (Qy.loadG T.one59 rfl (Arr.cell (by assumption) (by omega) 0 rfl rfl)) ?_
    refine Wl.re 19 rfl (show _ = Value.slice (r[(p.outs[((i : Nat) : Int).toNat]?.getD default).toNat]?.getD default).a l1.length (r[(p.outs[((i : Nat) : Int).toNat]?.getD default).toNat]?.getD default).c by rw [ea1]) ?_
    refine Wl.k 20 rfl (c65 _ _ _ l1 ea3 (by omega) (by omega)) (fun v1 G2 Ho1 hle2 hp => ?_)
    obtain ⟨s2, d2, rfl, hA2, hd2, rfl⟩ := hp
    have hle2' : Gx.le G2 := hle2
    refine Wl.lit (α := SV) 2 [⟨_, _, _⟩] rfl T.sl55 T.el59 rfl rfl rfl rfl rfl (fun b2 => ?_)
    refine Wl.append (α := SV) 0 rfl T.sl55 T.el59 rfl rfl rfl (by first | assumption | exact OwnA.nil | exact OwnA.made (by simp)) (Src.row 2 rfl) (by first | omega | (simp only [List.length_append, List.length_cons, List.length_nil, maxLen]; omega)) (by first | omega | (simp only [List.length_append, List.length_cons, List.length_nil, maxLen]; omega)) (fun a1 c1 junk1 ho1 => ?_)
    refine Wl.ga 8 [] ?_
    refine Ar.again ((i + 1, G2, q ++ [⟨s2, l1.length, d2⟩], (a1, c1, junk1))) ?_ ?_ rfl ⟨rfl, rfl, rfl, rfl, rfl, rfl, trivial⟩ ⟨rfl, rfl, trivial⟩
    · refine ⟨by omega, Imm.le_trans hgx hle2', by rw [List.length_append, hqi]; rfl, qrow_snoc (fun t ht => (hrows t ht).up hle2') hqi ?_, by assumption⟩
      rw [outsQ_at hio]
      exact ⟨l1, rfl, hd2, hA2, ea4.up hle2'⟩
    · show p.outs.length - (i + 1) < p.outs.length - i
      omega
  · have hii : i = p.outs.length := by omega
    subst hii
    have hqd := hoq.le
    have hol : (outsQ p rs).length = p.outs.length := by unfold outsQ; rw [List.length_map]
    refine Wc.ga 19 [0] ?_
    refine Ar.freezeRow 0 rfl hoq (fun G8 hle8 hA => ?_)
    refine Ar.e1 ?_
    exact ⟨o, q, d, rfl, hA, hqd, ⟨by omega, fun t ht => (hrows t (by omega)).up hle8⟩, rfl⟩
end Go.Proofs.YtbppmiimeccclaaGreatDoor
set_option maxRecDepth 100000
set_option linter.unusedVariables false
namespace Go.Proofs.YtbppmiimeccclaaGreatDoor
open Go Go.Sl
set_option maxHeartbeats 4000000
attribute [local irreducible] valB pb cmpZ lstWp lowQ Lt bitsZ p2 cst wideQ doQ stepQ unitsQ
theorem c42T (G : Imm) (x y : QV) (q : QZ) (hx : BigQ G x q) (hy : BigQ G y q) (h : OkQ 2100 q) :
    Does Tryz.prog 42 [.agg (Cells.enc x).toArray, .agg (Cells.enc y).toArray] G [] (fun v G' Ho => v = .bool true ∧ Ho = []) := by
  have hz := cmpZ_eq (x := q.1 * (q.2 + 1)) rfl
  refine Does.enter Tryz.func42 rfl Tryz.ntmps42 rfl (fun w => ?_)
  refine Wc.gl 2 [] ?_
  refine Wl.box 0 rfl rfl rfl (fun b1 => ?_)
  refine Wl.box 1 rfl rfl rfl (fun b2 => ?_)
  refine Wl.gl 7 [0, 1] ?_
  refine Wl.k 2 rfl (c43 _ _ _ _ _ (by assumption) (by assumption) (by assumption) (by assumption)) (fun v1 G1 Ho1 hle1 hp => ?_)
  obtain ⟨rfl, rfl⟩ := hp
  replace hx := hx.up hle1
  replace hy := hy.up hle1
  refine Wl.ga 5 [] ?_
  refine Ar.e1 ?_
  exact ⟨by rw [hz]; rfl, rfl⟩
theorem c41T (G : Imm) (a b : Option Addr) (ca cb : Nat) (l m : List QV) (qs : List QZ) (ha : Arr G a l) (hb : Arr G b m) (hl : BigQs G l qs) (hm : BigQs G m qs) (hok : ∀ q ∈ qs, OkQ 2100 q) (h1 : l.length ≤ 1048576) :
    Does Tryz.prog 41 [.slice a l.length ca, .slice b m.length cb, .func (.func 42) #[] #[]] G [] (fun v G' Ho => v = .bool true ∧ Ho = []) := by
  have hl1 := hl.1
  have hm1 := hm.1
  refine Does.enter Tryz.func41 rfl Tryz.ntmps41 rfl (fun w => ?_)
  refine Wc.gc 27 [0] ?_
  refine Wc.loopG (ι := Nat × Imm) (fun (i, Gx) => ([(17, .int .i64 (i : Int)), (16, Go.Value.int Go.IntKind.i64 (↑(List.length l) : Int)), (15, Go.Value.slice a (List.length l) ca), (1, Go.Value.slice b (List.length m) cb), (2, Go.Value.func (Go.Fn.func 42) #[] #[])], [])) (fun (i, Gx) => Gx) (fun (i, Gx) => i ≤ l.length ∧ G.le Gx) (fun (i, Gx) => l.length - i) ((0, G)) (⟨Nat.zero_le _, Imm.le_refl _⟩) rfl ⟨rfl, rfl, rfl, rfl, rfl, trivial⟩ trivial (fun ⟨i, Gx⟩ => fun (hk : i ≤ l.length ∧ G.le Gx) => ?_)
  obtain ⟨hi0, hgx⟩ := hk
  replace ha := ha.up hgx
  replace hb := hb.up hgx
  replace hl := hl.up hgx
  replace hm := hm.up hgx
  rcases Nat.lt_or_ge i l.length with hil | hil
  · have hx : BigQ Gx (l[((i : Nat) : Int).toNat]?.getD default) (qs[i]?.getD (0, 0)) := hl.2 i hil
    have hy : BigQ Gx (m[((i : Nat) : Int).toNat]?.getD default) (qs[i]?.getD (0, 0)) := hm.2 i (by omega)
    have hq : OkQ 2100 (qs[i]?.getD (0, 0)) := hok _ (by rw [List.getElem?_eq_getElem (by omega)]; exact List.getElem_mem _)
    refine Wc.gl 14 [1] ?_
    refine Wl.q rfl (Qy.at (α := QV) T.sl59 rfl rfl (by assumption) (by omega)) ?_
    refine Wl.q rfl (Qy.loadsG T.agg92 rfl (Arr.elem (by assumption) (by omega)) rfl) ?_
    refine Wl.alloc 0 rfl T.zero92 (fun b1 => ?_)
    refine Wl.gl 8 [0] ?_
    refine Wl.q rfl (Qy.at (α := QV) T.sl59 rfl rfl (by assumption) (by omega)) ?_
    refine Wl.q rfl (Qy.loadsG T.agg92 rfl (Arr.elem (by assumption) (by omega)) rfl) ?_
    refine Wl.alloc 1 rfl T.zero92 (fun b2 => ?_)
    refine Wl.gl 8 [1, 0, 1] ?_
    refine Wl.callV (fst := []) (cap := []) 2 rfl T.fn42 rfl rfl (c42T _ _ _ _ (by assumption) (by assumption) (by assumption)) (tags_of trivial) (fun v1 G1 Ho1 hle1 hp => ?_)
    obtain ⟨rfl, rfl⟩ := hp
    replace ha := ha.up hle1
    replace hb := hb.up hle1
    replace hl := hl.up hle1
    replace hm := hm.up hle1
    replace hx := hx.up hle1
    replace hy := hy.up hle1
    refine Wl.ga 11 [0] ?_
    refine Ar.again ((i + 1, G1)) ?_ ?_ rfl ⟨rfl, rfl, rfl, rfl, rfl, trivial⟩ trivial
    · exact ⟨by omega, Imm.le_trans hgx hle1⟩
    · show l.length - (i + 1) < l.length - i
      omega
  · refine Wc.ga 18 [0] ?_
    refine Ar.e1 ?_
    exact ⟨rfl, rfl⟩
theorem c22T (G : Imm) (s t : SV) (zs : List QZ) (hs : QRow G s zs) (ht : QRow G t zs) (hok : ∀ q ∈ zs, OkQ 2100 q) (hn : s.n ≤ 1048576) :
    Does Tryz.prog 22 [.slice s.a s.n s.c, .slice t.a t.n t.c] G [] (fun v G' Ho => v = .bool true ∧ Ho = []) := by
  obtain ⟨l, e1, e2, e3, e4⟩ := hs
  obtain ⟨m, g1, g2, g3, g4⟩ := ht
  have h := c41T G s.a t.a s.c t.c l m zs e3 g3 e4 g4 hok (by omega)
  rw [e1, g1] at h
  refine Does.enter Tryz.func22 rfl Tryz.ntmps22 rfl (fun w => ?_)
  refine Wc.gl 9 [] ?_
  refine Wl.k 0 rfl (h) (fun v1 G1 Ho1 hle1 hp => ?_)
  obtain ⟨rfl, rfl⟩ := hp
  replace e3 := e3.up hle1
  replace e4 := e4.up hle1
  replace g3 := g3.up hle1
  replace g4 := g4.up hle1
  refine Wl.ga 4 [] ?_
  refine Ar.e1 ?_
  exact ⟨rfl, rfl⟩
theorem c21T (G : Imm) (a b : Option Addr) (ca cb : Nat) (l m : List SV) (os : List (List QZ)) (N : Nat) (ha : Arr G a l) (hb : Arr G b m) (hl : QGrid G l os) (hm : QGrid G m os) (hev : EvenQ N os) (hN : N ≤ 1048576) (h1 : l.length ≤ 1048576) :
    Does Tryz.prog 21 [.slice a l.length ca, .slice b m.length cb, .func (.func 22) #[] #[]] G [] (fun v G' Ho => v = .bool true ∧ Ho = []) := by
  have hl1 := hl.1
  have hm1 := hm.1
  refine Does.enter Tryz.func21 rfl Tryz.ntmps21 rfl (fun w => ?_)
  refine Wc.gc 27 [0] ?_
  refine Wc.loopG (ι := Nat × Imm) (fun (i, Gx) => ([(17, .int .i64 (i : Int)), (16, Go.Value.int Go.IntKind.i64 (↑(List.length l) : Int)), (15, Go.Value.slice a (List.length l) ca), (1, Go.Value.slice b (List.length m) cb), (2, Go.Value.func (Go.Fn.func 22) #[] #[])], [])) (fun (i, Gx) => Gx) (fun (i, Gx) => i ≤ l.length ∧ G.le Gx) (fun (i, Gx) => l.length - i) ((0, G)) (⟨Nat.zero_le _, Imm.le_refl _⟩) rfl ⟨rfl, rfl, rfl, rfl, rfl, trivial⟩ trivial (fun ⟨i, Gx⟩ => fun (hk : i ≤ l.length ∧ G.le Gx) => ?_)
  obtain ⟨hi0, hgx⟩ := hk
  replace ha := ha.up hgx
  replace hb := hb.up hgx
  replace hl := hl.up hgx
  replace hm := hm.up hgx
  rcases Nat.lt_or_ge i l.length with hil | hil
  · have hx : QRow Gx (l[((i : Nat) : Int).toNat]?.getD default) (os[i]?.getD []) := hl.2 i hil
    have hy : QRow Gx (m[((i : Nat) : Int).toNat]?.getD default) (os[i]?.getD []) := hm.2 i (by omega)
    obtain ⟨hN1, hok⟩ := hev.at (k := i) (by omega)
    have hn : (l[((i : Nat) : Int).toNat]?.getD default).n ≤ 1048576 := by
      obtain ⟨l9, e1, e2, e3, e4⟩ := hx
      rw [← e1, e4.1, hN1]; exact hN
    refine Wc.gl 14 [1] ?_
    refine Wl.q rfl (Qy.at (α := SV) T.sl55 rfl rfl (by assumption) (by omega)) ?_
    refine Wl.q rfl (Qy.loadG T.one59 rfl (Arr.cell (by assumption) (by omega) 0 rfl rfl)) ?_
    refine Wl.gl 8 [] ?_
    refine Wl.q rfl (Qy.at (α := SV) T.sl55 rfl rfl (by assumption) (by omega)) ?_
    refine Wl.q rfl (Qy.loadG T.one59 rfl (Arr.cell (by assumption) (by omega) 0 rfl rfl)) ?_
    refine Wl.gl 8 [] ?_
    refine Wl.callV (fst := []) (cap := []) 0 rfl T.fn22 rfl rfl (c22T _ _ _ _ (by assumption) (by assumption) (by assumption) (by assumption)) (tags_of trivial) (fun v1 G1 Ho1 hle1 hp => ?_)
    obtain ⟨rfl, rfl⟩ := hp
    replace ha := ha.up hle1
    replace hb := hb.up hle1
    replace hl := hl.up hle1
    replace hm := hm.up hle1
    refine Wl.ga 11 [0] ?_
    refine Ar.again ((i + 1, G1)) ?_ ?_ rfl ⟨rfl, rfl, rfl, rfl, rfl, trivial⟩ trivial
    · exact ⟨by omega, Imm.le_trans hgx hle1⟩
    · show l.length - (i + 1) < l.length - i
      omega
  · refine Wc.ga 18 [0] ?_
    refine Ar.e1 ?_
    exact ⟨rfl, rfl⟩
/-- what Rows answers of a program that may be -/
def RowsQPost (p : PV) (v : Value) (G' : Imm) (Ho : Hp) : Prop :=
  Ho = [] ∧ ((∃ os o q d, denP p = some os ∧ v = .tuple #[.slice o (List.length q) d, .int .i64 0] ∧ Arr G' o q ∧ List.length q ≤ d ∧ QGrid G' q os ∧ EvenQ p.ins.toNat os ∧ os.length = p.outs.length) ∨ (denP p = none ∧ v = .tuple #[.slice none 0 0, .int .i64 3]))
theorem c20 (G : Imm) (p : PV) (ac ao : Option Addr) (cc co : Nat) (hc : Arr G ac p.code) (ho : Arr G ao p.outs) (hR : rightP p = true) :
    Does Tryz.prog 20 [.agg #[.int .i64 p.ins, .int .i64 p.regs, .slice ac p.code.length cc, .slice ao p.outs.length co]] G [] (RowsQPost p) := by
  obtain ⟨f1, f2, f3, f4, f5, f6, f7, f8⟩ := right_facts hR
  have h1 : p.code.length ≤ 1099511627776 := by omega
  have h2 : p.outs.length ≤ 1099511627776 := by omega
  refine Does.enter Tryz.func20 rfl Tryz.ntmps20 rfl (fun w => ?_)
  have hden : denP p = (runG stepQ p.code (unitsQ p)).map (outsQ p) := rfl
  refine Wc.gl 2 [] ?_
  refine Wl.box 0 rfl rfl rfl (fun b1 => ?_)
  refine Wl.gl 7 [0] ?_
  refine Wl.k0 rfl (c16R _ p _ _ _ _ (by assumption) (by assumption) h1 h2 hR) ?_
  refine Wl.gc 18 [0] ?_
  refine Wc.draw [0] [(0, 3)] T.mixed rfl ?_
  refine Gm.c 0 [0] [0] ?_
  refine Gm.o1 1 ?_
  refine Wl.ll0 1 [0] ?_
  refine Wl.on0 ?_
  refine Gm.o1 2 ?_
  refine Wl.k 1 rfl (c38 _ p _ _ _ _ f1 f2 f3) (fun v1 G1 Ho1 hle1 hp => ?_)
  obtain ⟨o1, r1, d1, j1, rfl, hg1, hoo1, hrr1, rfl⟩ := hp
  replace hc := hc.up hle1
  replace ho := ho.up hle1
  refine Wl.on0 ?_
  refine Gm.o1 3 ?_
  refine Wl.k 1 rfl (c37 _ p ac ao cc co o1 d1 r1 j1 (unitsQ p) p.ins.toNat hc hoo1 hg1 units_even (by omega) (by omega) f4 hrr1 (by omega) f8) (fun v2 G2 Ho2 hle2 hp => ?_)
  replace ho := ho.up hle2
  rcases hp with ⟨r', rs', e1, e2, rfl, e4, e5, e6, rfl⟩ | ⟨e1, rfl, rfl⟩
  · refine Wl.on0 ?_
    refine Gm.c 4 [] [] ?_
    refine Gm.c 5 [] [] ?_
    refine Gm.c 6 [] [] ?_
    refine Gm.c 7 [] [] ?_
    refine Gm.c 8 [] [] ?_
    refine Gm.doneA (by kernel_rfl) trivial (by first | exact Imm.le_refl _ | repeat (first | assumption | refine Imm.le_trans ?_ (by assumption))) ?_
    refine Ar.gl 15 [0, 0] ?_
    refine Wl.freezeRow 1 rfl e4 (fun G3 hle3 hA3 => ?_)
    refine Wl.k 30 rfl (c40 _ p ac ao o1 cc co d1 r' rs' p.ins.toNat (ho.up hle3) hA3 (e5.up hle3) e6 (by omega) (by omega) (by omega) f6 f7) (fun v4 G4 Ho4 hle4 hp => ?_)
    obtain ⟨o4, q4, d4, rfl, hA4, hd4, hg4, rfl⟩ := hp
    refine Wl.ga 5 [] ?_
    refine Ar.e2 ?_
    refine ⟨rfl, .inl ⟨outsQ p rs', o4, q4, d4, by rw [hden, e2]; rfl, rfl, hA4, hd4, hg4, fun zs hz => ?_, by unfold outsQ; rw [List.length_map]⟩⟩
    unfold outsQ at hz
    obtain ⟨x, hx, rfl⟩ := List.mem_map.1 hz
    have hx7 := f7 x hx
    exact e6.at (k := x.toNat) (by have := e5.1; omega)
  · refine Wl.on0 ?_
    refine Gm.c 4 [] [] ?_
    refine Gm.c 5 [] [] ?_
    refine Gm.c 6 [] [] ?_
    refine Gm.c 7 [] [] ?_
    refine Gm.c 8 [] [] ?_
    refine Gm.doneA (by kernel_rfl) trivial (by first | exact Imm.le_refl _ | repeat (first | assumption | refine Imm.le_trans ?_ (by assumption))) ?_
    refine Ar.ga 17 [1] ?_
    refine Ar.e2 ?_
    exact ⟨rfl, .inr ⟨by rw [hden, e1]; rfl, rfl⟩⟩
theorem c7 (G : Imm) (p q : PV) (ac ao bc bo : Option Addr) (cc co dc do_ : Nat) (hc : Arr G ac p.code) (ho : Arr G ao p.outs) (hc' : Arr G bc q.code) (ho' : Arr G bo q.outs) (hR : rightP p = true) (hR' : rightP q = true) (hi : p.ins = q.ins) (hsame : ∀ os os', denP p = some os → denP q = some os' → os = os') :
    Does Tryz.prog 7 [.agg #[.int .i64 p.ins, .int .i64 p.regs, .slice ac p.code.length cc, .slice ao p.outs.length co], .agg #[.int .i64 q.ins, .int .i64 q.regs, .slice bc q.code.length dc, .slice bo q.outs.length do_]] G []
      (fun v G' Ho => ((denP p ≠ none ∧ denP q ≠ none ∧ v = .tuple #[.bool true, .int .i64 0]) ∨ ((denP p = none ∨ denP q = none) ∧ v = .tuple #[.bool false, .int .i64 3])) ∧ Ho = []) := by
  obtain ⟨f1, f2, f3, f4, f5, f6, f7, f8⟩ := right_facts hR
  obtain ⟨g1, g2, g3, g4, g5, g6, g7, g8⟩ := right_facts hR'
  have hp1 := c16R G p ac ao cc co hc ho (by omega) (by omega) hR
  have hp2 := c16R G q bc bo dc do_ hc' ho' (by omega) (by omega) hR'
  refine Does.enter Tryz.func7 rfl Tryz.ntmps7 rfl (fun w => ?_)
  refine Wc.gl 2 [] ?_
  refine Wl.box 0 rfl rfl rfl (fun b1 => ?_)
  refine Wl.box 1 rfl rfl rfl (fun b2 => ?_)
  refine Wl.gl 7 [0] ?_
  refine Wl.k0 rfl hp1 ?_
  refine Wl.gl 10 [1] ?_
  refine Wl.k0 rfl hp2 ?_
  refine Wl.gl 13 [] ?_
  refine Wl.no 24 rfl (by first | assumption | omega) ?_
  refine Wl.gl 13 [0, 0] ?_
  refine Wl.k 30 rfl (c20 _ p ac ao cc co hc ho hR) (fun v1 G1 Ho1 hle1 hp => ?_)
  obtain ⟨rfl, hp⟩ := hp
  replace hc' := hc'.up hle1
  replace ho' := ho'.up hle1
  rcases hp with ⟨os1, o1, q1, d1, e1, rfl, eA1, ed1, eg1, ev1, el1⟩ | ⟨e1, rfl⟩
  · refine Wl.gl 10 [1] ?_
    refine Wl.k 31 rfl (c20 _ q bc bo dc do_ hc' ho' hR') (fun v2 G2 Ho2 hle2 hp => ?_)
    obtain ⟨rfl, hp⟩ := hp
    rcases hp with ⟨os2, o2, q2, d2, e2, rfl, eA2, ed2, eg2, ev2, el2⟩ | ⟨e2, rfl⟩
    · have hos := hsame _ _ e1 e2
      subst hos
      replace eA1 := eA1.up hle2
      replace eg1 := eg1.up hle2
      have h128 : q1.length ≤ 1048576 := by have := eg1.1; omega
      have hi128 : p.ins.toNat ≤ 1048576 := by omega
      refine Wl.gl 13 [] ?_
      refine Wl.no 40 rfl (by first | assumption | omega) ?_
      refine Wl.gl 18 [0, 0, 1] ?_
      refine Wl.yes 49 rfl (by first | assumption | omega) ?_
      refine Wl.ll0 5 [] ?_
      refine Wl.k 2 rfl (c21T _ _ _ _ _ q1 q2 os1 p.ins.toNat eA1 eA2 eg1 eg2 ev1 hi128 h128) (fun v3 G3 Ho3 hle3 hp => ?_)
      obtain ⟨rfl, rfl⟩ := hp
      replace eA2 := eA2.up hle3
      replace eg2 := eg2.up hle3
      replace eA1 := eA1.up hle3
      replace eg1 := eg1.up hle3
      refine Wl.ga 6 [] ?_
      refine Ar.e2 ?_
      exact ⟨.inl ⟨(fun h => by rw [e1] at h; cases h), (fun h => by rw [e2] at h; cases h), rfl⟩, rfl⟩
    · refine Wl.gl 13 [] ?_
      refine Wl.no 40 rfl (by first | assumption | omega) ?_
      refine Wl.ga 16 [1] ?_
      refine Ar.e2 ?_
      exact ⟨.inr ⟨by first | exact .inl e1 | exact .inr e2, rfl⟩, rfl⟩
  · refine Wl.gl 10 [1] ?_
    refine Wl.k 31 rfl (c20 _ q bc bo dc do_ hc' ho' hR') (fun v2 G2 Ho2 hle2 hp => ?_)
    obtain ⟨rfl, hp⟩ := hp
    rcases hp with ⟨os2, o2, q2, d2, e2, rfl, eA2, ed2, eg2, ev2, el2⟩ | ⟨e2, rfl⟩
    · refine Wl.gl 13 [] ?_
      refine Wl.yes 40 rfl (by first | assumption | omega) ?_
      refine Wl.ga 14 [1] ?_
      refine Ar.e2 ?_
      exact ⟨.inr ⟨by first | exact .inl e1 | exact .inr e2, rfl⟩, rfl⟩
    · refine Wl.gl 13 [] ?_
      refine Wl.yes 40 rfl (by first | assumption | omega) ?_
      refine Wl.ga 14 [1] ?_
      refine Ar.e2 ?_
      exact ⟨.inr ⟨by first | exact .inl e1 | exact .inr e2, rfl⟩, rfl⟩
end Go.Proofs.YtbppmiimeccclaaGreatDoor
set_option maxRecDepth 100000
set_option linter.unusedVariables false
namespace Go.Proofs.YtbppmiimeccclaaGreatDoor
open Go Go.Sl
/-- a row of int64 that came in -/
def IRow (G : Imm) (s : SV) (l : List Int) : Prop := l.length = s.n ∧ Arr G s.a l ∧ ∀ x ∈ l, -9223372036854775808 ≤ x ∧ x ≤ 9223372036854775807
theorem IRow.up {G G' : Imm} {s : SV} {l : List Int} (h : IRow G s l) (hl : G.le G') : IRow G' s l := ⟨h.1, h.2.1.up hl, h.2.2⟩
def IGrid (G : Imm) (gl : List SV) (ls : List (List Int)) : Prop := gl.length = ls.length ∧ ∀ i : Nat, i < gl.length → IRow G (gl[i]?.getD default) (ls[i]?.getD [])
theorem IGrid.up {G G' : Imm} {gl : List SV} {ls : List (List Int)} (h : IGrid G gl ls) (hl : G.le G') : IGrid G' gl ls := ⟨h.1, fun i hi => (h.2 i hi).up hl⟩
end Go.Proofs.YtbppmiimeccclaaGreatDoor
set_option maxRecDepth 100000
namespace Go.Proofs.YtbppmiimeccclaaGreatDoor
open Go Go.Sl
set_option maxHeartbeats 2000000
attribute [local irreducible] plainP togP powC constOk
/-- what comes of two plain instructions -/
def meltP (a b : Sl.Instr) : Sl.Instr × Bool :=
  if b.op = 3 ∨ b.op = 4 ∨ b.a ≠ a.to ∨ b.to ≠ a.to then (⟨0, 0, 0, 0, 0⟩, false)
  else if (togP a.op a.c b.op b.c).2.2 = true then (plainP ⟨(togP a.op a.c b.op b.c).1, b.to, a.a, 0, (togP a.op a.c b.op b.c).2.1⟩, true) else (⟨0, 0, 0, 0, 0⟩, false)
theorem c18 (G : Imm) (hT : TabOk G) (a b : Sl.Instr) (ha : constOk a.op a.c = true) (hb : constOk b.op b.c = true) :
    Does Tryz.prog 18 [.agg (Cells.enc a).toArray, .agg (Cells.enc b).toArray] G [] (fun v G' Ho => v = .tuple #[.agg (Cells.enc (meltP a b).1).toArray, .bool (meltP a b).2] ∧ G' = G ∧ Ho = []) := by
  have ht := tog_const ha hb
  refine Does.enter Tryz.func18 rfl Tryz.ntmps18 rfl (fun w => ?_)
  refine Wc.seq ?_
  refine Wc.region rfl ?_
  refine Wl.box 0 rfl rfl rfl (fun b1 => ?_)
  refine Wl.box 1 rfl rfl rfl (fun b2 => ?_)
  refine Wl.alloc 2 rfl T.zero46 (fun b3 => ?_)
  refine Wl.q rfl (Qy.assign rfl) ?_
  refine Wl.done ?_
  refine Ar.next ?_
  refine Wc.seq ?_
  refine Wc.seq ?_
  refine Wc.region rfl ?_
  refine Wl.q rfl (Qy.fieldAddr T.fa46_0 rfl) ?_
  refine Wl.q rfl (Qy.load 1 T.one3 rfl rfl rfl) ?_
  refine Wl.q rfl (Qy.eql rfl rfl) ?_
  refine Wl.q rfl (Qy.move rfl) ?_
  apply Wl.joinOr 4 12 16 rfl
  intro hg1
  refine Wl.want rfl rfl ?_
  refine Wl.q rfl (Qy.fieldAddr T.fa46_0 rfl) ?_
  refine Wl.want rfl rfl ?_
  refine Wl.q rfl (Qy.load 1 T.one3 rfl rfl rfl) ?_
  refine Wl.want rfl rfl ?_
  refine Wl.q rfl (Qy.eql rfl rfl) ?_
  refine Wl.q rfl (Qy.pick rfl rfl) ?_
  exact Wl.back 4 0 rfl rfl rfl rfl rfl
  intro hg1
  refine Wl.pass rfl rfl rfl ?_
  refine Wl.pass rfl rfl rfl ?_
  refine Wl.pass rfl rfl rfl ?_
  refine Wl.q rfl (Qy.pick rfl rfl) ?_
  exact Wl.back 4 0 rfl rfl rfl rfl rfl
  refine Wl.q rfl (Qy.move rfl) ?_
  apply Wl.joinOr 6 17 23 rfl
  intro hg1
  refine Wl.want rfl rfl ?_
  refine Wl.q rfl (Qy.fieldAddr T.fa46_2 rfl) ?_
  refine Wl.want rfl rfl ?_
  refine Wl.q rfl (Qy.load 1 T.one3 rfl rfl rfl) ?_
  refine Wl.want rfl rfl ?_
  refine Wl.q rfl (Qy.fieldAddr T.fa46_1 rfl) ?_
  refine Wl.want rfl rfl ?_
  refine Wl.q rfl (Qy.load 0 T.one3 rfl rfl rfl) ?_
  refine Wl.want rfl rfl ?_
  refine Wl.q rfl (Qy.neq rfl rfl) ?_
  refine Wl.q rfl (Qy.pick rfl rfl) ?_
  exact Wl.back 6 0 rfl rfl rfl rfl rfl
  intro hg1
  refine Wl.pass rfl rfl rfl ?_
  refine Wl.pass rfl rfl rfl ?_
  refine Wl.pass rfl rfl rfl ?_
  refine Wl.pass rfl rfl rfl ?_
  refine Wl.pass rfl rfl rfl ?_
  refine Wl.q rfl (Qy.pick rfl rfl) ?_
  exact Wl.back 6 0 rfl rfl rfl rfl rfl
  refine Wl.q rfl (Qy.move rfl) ?_
  apply Wl.joinOr 6 24 30 rfl
  intro hg1
  refine Wl.want rfl rfl ?_
  refine Wl.q rfl (Qy.fieldAddr T.fa46_1 rfl) ?_
  refine Wl.want rfl rfl ?_
  refine Wl.q rfl (Qy.load 1 T.one3 rfl rfl rfl) ?_
  refine Wl.want rfl rfl ?_
  refine Wl.q rfl (Qy.fieldAddr T.fa46_1 rfl) ?_
  refine Wl.want rfl rfl ?_
  refine Wl.q rfl (Qy.load 0 T.one3 rfl rfl rfl) ?_
  refine Wl.want rfl rfl ?_
  refine Wl.q rfl (Qy.neq rfl rfl) ?_
  refine Wl.q rfl (Qy.pick rfl rfl) ?_
  exact Wl.back 6 0 rfl rfl rfl rfl rfl
  intro hg1
  refine Wl.pass rfl rfl rfl ?_
  refine Wl.pass rfl rfl rfl ?_
  refine Wl.pass rfl rfl rfl ?_
  refine Wl.pass rfl rfl rfl ?_
  refine Wl.pass rfl rfl rfl ?_
  refine Wl.q rfl (Qy.pick rfl rfl) ?_
  exact Wl.back 6 0 rfl rfl rfl rfl rfl
  refine Wl.done ?_
  refine Ar.next ?_
  refine Wc.cond rfl (fun hc1 => ?_) (fun hc1 => ?_)
  refine Wc.seq ?_
  refine Wc.region rfl ?_
  refine Wl.q rfl (Qy.build (cs := [_, _, _, _, _]) T.st46 rfl rfl rfl) ?_
  refine Wl.storeAll 2 T.size46 rfl rfl rfl rfl rfl rfl ?_
  refine Wl.q rfl (Qy.assign rfl) ?_
  refine Wl.done ?_
  refine Ar.next ?_
  refine Wc.ret ?_
  refine Ar.passRet ?_
  refine Ar.out2 (.inr rfl) (Ho := Hp.only _ []) rfl (.agg 2 rfl rfl T.agg46) (.tmp rfl) (Hp.sub_only _ _) ?_
  rotate_left
  refine Wc.skip ?_
  refine Ar.next ?_
  refine Wc.seq ?_
  refine Wc.region rfl ?_
  refine Wl.q rfl (Qy.fieldAddr T.fa46_0 rfl) ?_
  refine Wl.q rfl (Qy.load 0 T.one3 rfl rfl rfl) ?_
  refine Wl.q rfl (Qy.fieldAddr T.fa46_4 rfl) ?_
  refine Wl.q rfl (Qy.load 0 T.one3 rfl rfl rfl) ?_
  refine Wl.q rfl (Qy.fieldAddr T.fa46_0 rfl) ?_
  refine Wl.q rfl (Qy.load 1 T.one3 rfl rfl rfl) ?_
  refine Wl.q rfl (Qy.fieldAddr T.fa46_4 rfl) ?_
  refine Wl.q rfl (Qy.load 1 T.one3 rfl rfl rfl) ?_
  refine Wl.call0 rfl T.fn36 rfl (c36 _ _ _ _ _ (by assumption) (by assumption)) ?_
  refine Wl.q rfl (Qy.move rfl) ?_
  refine Wl.q rfl (Qy.extract rfl rfl) ?_
  refine Wl.q rfl (Qy.extract rfl rfl) ?_
  refine Wl.q rfl (Qy.extract rfl rfl) ?_
  refine Wl.q rfl (Qy.assign rfl) ?_
  refine Wl.q rfl (Qy.assign rfl) ?_
  refine Wl.q rfl (Qy.assign rfl) ?_
  refine Wl.done ?_
  refine Ar.next ?_
  refine Wc.seq ?_
  refine Wc.seq ?_
  refine Wc.region rfl ?_
  refine Wl.q rfl (Qy.move rfl) ?_
  refine Wl.q rfl (Qy.not rfl) ?_
  refine Wl.done ?_
  refine Ar.next ?_
  refine Wc.ite rfl (fun hc2 => ?_) (fun hc2 => ?_)
  refine Wc.seq ?_
  refine Wc.region rfl ?_
  refine Wl.q rfl (Qy.build (cs := [_, _, _, _, _]) T.st46 rfl rfl rfl) ?_
  refine Wl.storeAll 2 T.size46 rfl rfl rfl rfl rfl rfl ?_
  refine Wl.q rfl (Qy.assign rfl) ?_
  refine Wl.done ?_
  refine Ar.next ?_
  refine Wc.ret ?_
  refine Ar.passRet ?_
  refine Ar.out2 (.inr rfl) (Ho := Hp.only _ []) rfl (.agg 2 rfl rfl T.agg46) (.tmp rfl) (Hp.sub_only _ _) ?_
  rotate_left
  refine Wc.skip ?_
  refine Ar.next ?_
  refine Wc.seq ?_
  refine Wc.region rfl ?_
  refine Wl.q rfl (Qy.move rfl) ?_
  refine Wl.q rfl (Qy.fieldAddr T.fa46_1 rfl) ?_
  refine Wl.q rfl (Qy.load 1 T.one3 rfl rfl rfl) ?_
  refine Wl.q rfl (Qy.fieldAddr T.fa46_2 rfl) ?_
  refine Wl.q rfl (Qy.load 0 T.one3 rfl rfl rfl) ?_
  refine Wl.q rfl (Qy.move rfl) ?_
  refine Wl.call0 rfl T.fn35 rfl (c35 _ _ _ _ _) ?_
  rotate_left
  · refine ⟨?_, rfl, rfl⟩
    rw [meltP, if_pos (by omega)]; rfl
  · refine ⟨?_, rfl, rfl⟩
    rw [meltP, if_neg (by omega), if_neg (by simpa using hc2)]; rfl
  · have hok : (togP a.op a.c b.op b.c).2.2 = true := by simpa using hc2
    have hcf : constOk (togP a.op a.c b.op b.c).1 (togP a.op a.c b.op b.c).2.1 = true := by
      rcases ht with h | h
      · exact h
      · rw [h] at hok; cases hok
    refine Wl.call0 rfl T.fn17 rfl (c17 _ hT ⟨(togP a.op a.c b.op b.c).1, b.to, a.a, 0, (togP a.op a.c b.op b.c).2.1⟩ (const_fits hcf)) ?_
    refine Wl.storeAll 2 T.size46 rfl rfl rfl rfl rfl rfl ?_
    refine Wl.q rfl (Qy.assign rfl) ?_
    refine Wl.done ?_
    refine Ar.next ?_
    refine Wc.ret ?_
    refine Ar.out2 (.inr rfl) (Ho := Hp.only _ []) rfl (.agg 2 rfl rfl T.agg46) (.tmp rfl) (Hp.sub_only _ _) ?_
    refine ⟨?_, rfl, rfl⟩
    rw [meltP, if_neg (by omega), if_pos hok]
theorem right_one (i : Sl.Instr) : rightP ⟨1, 128, [i], [0]⟩ = mayOk i 128 := by
  unfold rightP checkP badAt headOk
  cases h : mayOk i 128 <;> simp [h]
theorem c32 (G : Imm) (i : Sl.Instr) : Does Tryz.prog 32 [.agg (Cells.enc i).toArray] G [] (fun v G' Ho => v = .bool (decide (mayOk i 128 = true)) ∧ G' = G ∧ Ho = []) := by
  have hr := right_one i
  refine Does.enter Tryz.func32 rfl Tryz.ntmps32 rfl (fun w => ?_)
  refine Wc.seq ?_
  refine Wc.region rfl ?_
  refine Wl.box 0 rfl rfl rfl (fun b1 => ?_)
  refine Wl.q rfl (Qy.assign rfl) ?_
  refine Wl.done ?_
  refine Ar.next ?_
  refine Wc.seq ?_
  refine Wc.region rfl ?_
  refine Wl.q rfl (Qy.loadAll 0 T.agg46 rfl rfl rfl) ?_
  refine Wl.lit (α := Instr) 1 [(i)] rfl T.sl22 T.el46 rfl rfl rfl rfl rfl (fun b2 => ?_)
  refine Wl.lit (α := Int) 2 [(0)] rfl T.sl23 T.el3 rfl rfl rfl rfl rfl (fun b3 => ?_)
  refine Wl.q rfl (Qy.build (cs := [_, _, _, _]) T.st25 rfl rfl rfl) ?_
  refine Wl.callB 5 rfl T.fn16 rfl (fun Gx hGx hgx => c16 Gx ⟨1, 128, [i], [0]⟩ _ _ _ _ (Arr.own hgx 1 rfl (OwnA.made (by simp [maxLen]))) (Arr.own hgx 2 rfl (OwnA.made (by simp [maxLen]))) (by simp) (by simp)) (fun v5 Gx5 G5 Ho5 hlx5 hp => ?_)
  obtain ⟨rfl, rfl, rfl⟩ := hp
  refine Wl.q rfl (Qy.move rfl) ?_
  refine Wl.q rfl (Qy.extract rfl rfl) ?_
  refine Wl.q rfl (Qy.extract rfl rfl) ?_
  refine Wl.q rfl (Qy.assign rfl) ?_
  refine Wl.q rfl (Qy.assign rfl) ?_
  refine Wl.done ?_
  refine Ar.next ?_
  refine Wc.seq ?_
  refine Wc.region rfl ?_
  refine Wl.q rfl (Qy.move rfl) ?_
  refine Wl.q rfl (Qy.eql rfl rfl) ?_
  refine Wl.q rfl (Qy.assign rfl) ?_
  refine Wl.done ?_
  refine Ar.next ?_
  refine Wc.ret ?_
  refine Ar.base (Ar.out1 (.inr rfl) (Ho := []) rfl (.tmp rfl) trivial ?_)
  refine ⟨?_, rfl, rfl⟩
  rw [← hr]
  unfold rightP
  cases (checkP ⟨1, 128, [i], [0]⟩).2 <;> rfl
theorem may_const {i : Sl.Instr} {r : Int} (h : mayOk i r = true) : constOk i.op i.c = true := by
  unfold mayOk at h
  rw [Bool.and_eq_true, Bool.and_eq_true] at h
  exact h.1.2
def zeroI : Sl.Instr := ⟨0, 0, 0, 0, 0⟩
/-- the plain form of any instruction -/
def plainQ (i : Sl.Instr) : Sl.Instr × Bool := if mayOk i 128 = true then (plainP i, decide (plainP i ≠ i)) else (zeroI, false)
theorem c14 (G : Imm) (hT : TabOk G) (i : Sl.Instr) : Does Tryz.prog 14 [.agg (Cells.enc i).toArray] G [] (fun v G' Ho => v = .tuple #[.agg (Cells.enc (plainQ i).1).toArray, .bool (plainQ i).2] ∧ G' = G ∧ Ho = []) := by
  refine Does.enter Tryz.func14 rfl Tryz.ntmps14 rfl (fun w => ?_)
  refine Wc.seq ?_
  refine Wc.region rfl ?_
  refine Wl.box 0 rfl rfl rfl (fun b1 => ?_)
  refine Wl.alloc 1 rfl T.zero46 (fun b2 => ?_)
  refine Wl.q rfl (Qy.assign rfl) ?_
  refine Wl.done ?_
  refine Ar.next ?_
  refine Wc.seq ?_
  refine Wc.seq ?_
  refine Wc.region rfl ?_
  refine Wl.q rfl (Qy.loadAll 0 T.agg46 rfl rfl rfl) ?_
  refine Wl.call0 rfl T.fn32 rfl (c32 _ _) ?_
  refine Wl.q rfl (Qy.notD rfl) ?_
  refine Wl.done ?_
  refine Ar.next ?_
  refine Wc.cond rfl (fun hc1 => ?_) (fun hc1 => ?_)
  refine Wc.seq ?_
  refine Wc.region rfl ?_
  refine Wl.q rfl (Qy.build (cs := [_, _, _, _, _]) T.st46 rfl rfl rfl) ?_
  refine Wl.storeAll 1 T.size46 rfl rfl rfl rfl rfl rfl ?_
  refine Wl.q rfl (Qy.assign rfl) ?_
  refine Wl.done ?_
  refine Ar.next ?_
  refine Wc.ret ?_
  refine Ar.passRet ?_
  refine Ar.out2 (.inr rfl) (Ho := Hp.only _ []) rfl (.agg 1 rfl rfl T.agg46) (.tmp rfl) (Hp.sub_only _ _) ?_
  rotate_left
  refine Wc.skip ?_
  refine Ar.next ?_
  refine Wc.seq ?_
  refine Wc.region rfl ?_
  refine Wl.q rfl (Qy.loadAll 0 T.agg46 rfl rfl rfl) ?_
  rotate_left
  · refine ⟨?_, rfl, rfl⟩
    rw [plainQ, if_neg hc1]; rfl
  · have hm : mayOk i 128 = true := Decidable.not_not.1 hc1
    refine Wl.call0 rfl T.fn17 rfl (c17 _ hT i (const_fits (may_const hm))) ?_
    refine Wl.alloc 2 rfl T.zero46 (fun b3 => ?_)
    refine Wl.storeAll 2 T.size46 rfl rfl rfl rfl rfl rfl ?_
    refine Wl.done ?_
    refine Ar.next ?_
    refine Wc.seq ?_
    refine Wc.draw [0, 1, 2] [(1, 4)] T.mixed rfl ?_
    refine Gm.q 0 [2] (by kernel_rfl) rfl rfl (Qy.loadAll 2 T.agg46 rfl rfl rfl) ?_
    refine Gm.q 1 [2] (by kernel_rfl) rfl rfl (Qy.loadAll 2 T.agg46 rfl rfl rfl) ?_
    refine Gm.q 2 [0] (by kernel_rfl) rfl rfl (Qy.loadAll 0 T.agg46 rfl rfl rfl) ?_
    refine Gm.q 3 [] (by kernel_rfl) rfl rfl (Qy.neqInstr T.ai46 rfl rfl) ?_
    refine Gm.one 4 ⟨rfl, rfl, rfl, trivial⟩ (by first | exact Imm.le_refl _ | assumption) (by kernel_rfl) rfl ?_
    refine Wl.storeAll 1 T.size46 rfl rfl rfl rfl rfl rfl ?_
    refine Wl.on0 ?_
    refine Gm.q 5 [] (by kernel_rfl) rfl rfl (Qy.assign rfl) ?_
    refine Gm.doneA (by kernel_rfl) ⟨rfl, rfl, trivial⟩ (by first | exact Imm.le_refl _ | assumption) ?_
    refine Ar.next ?_
    refine Wc.ret ?_
    refine Ar.out2 (.inr rfl) (Ho := Hp.only _ []) rfl (.agg 1 rfl rfl T.agg46) (.tmp rfl) (Hp.sub_only _ _) ?_
    refine ⟨?_, rfl, rfl⟩
    rw [plainQ, if_pos hm]
end Go.Proofs.YtbppmiimeccclaaGreatDoor
set_option maxRecDepth 100000
set_option linter.unusedVariables false
namespace Go.Proofs.YtbppmiimeccclaaGreatDoor
open Go Go.Sl
set_option maxHeartbeats 2000000
attribute [local irreducible] togP constOk
theorem c5 (G : Imm) (p : PV) (ac ao : Option Addr) (cc co : Nat) (h1 : p.code.length ≤ 1099511627776) (h2 : p.outs.length ≤ 1099511627776) :
    Does Tryz.prog 5 [.agg #[.int .i64 p.ins, .int .i64 p.regs, .slice ac p.code.length cc, .slice ao p.outs.length co]] G [] (fun v G' Ho => v = .bool (decide (300 < (p.code.length : Int) ∧ (p.code.length : Int) ≤ 16384)) ∧ G' = G ∧ Ho = []) := by
  refine Does.enter Tryz.func5 rfl Tryz.ntmps5 rfl (fun w => ?_)
  refine Wc.seq ?_
  refine Wc.region rfl ?_
  refine Wl.box 0 rfl rfl rfl (fun b1 => ?_)
  refine Wl.q rfl (Qy.assign rfl) ?_
  refine Wl.done ?_
  refine Ar.next ?_
  refine Wc.seq ?_
  refine Wc.region rfl ?_
  refine Wl.q rfl (Qy.fieldAddr T.fa25_2 rfl) ?_
  refine Wl.q rfl (Qy.load 0 T.one22 rfl rfl rfl) ?_
  refine Wl.q rfl (Qy.len T.sl22 rfl) ?_
  refine Wl.q rfl (Qy.gtr rfl rfl) ?_
  refine Wl.q rfl (Qy.move rfl) ?_
  apply Wl.joinAnd 5 7 12 rfl
  intro hg1
  refine Wl.want rfl rfl ?_
  refine Wl.q rfl (Qy.fieldAddr T.fa25_2 rfl) ?_
  refine Wl.want rfl rfl ?_
  refine Wl.q rfl (Qy.load 0 T.one22 rfl rfl rfl) ?_
  refine Wl.want rfl rfl ?_
  refine Wl.q rfl (Qy.len T.sl22 rfl) ?_
  refine Wl.want rfl rfl ?_
  refine Wl.q rfl (Qy.leq rfl rfl) ?_
  refine Wl.q rfl (Qy.pick rfl rfl) ?_
  exact Wl.back 5 0 rfl rfl rfl rfl rfl
  intro hg1
  refine Wl.pass rfl rfl rfl ?_
  refine Wl.pass rfl rfl rfl ?_
  refine Wl.pass rfl rfl rfl ?_
  refine Wl.pass rfl rfl rfl ?_
  refine Wl.q rfl (Qy.pick rfl rfl) ?_
  exact Wl.back 5 0 rfl rfl rfl rfl rfl
  refine Wl.q rfl (Qy.assign rfl) ?_
  refine Wl.done ?_
  refine Ar.next ?_
  refine Wc.ret ?_
  refine Ar.out1 (.inr rfl) (Ho := Hp.only _ []) rfl (.tmp rfl) (Hp.sub_only _ _) ?_
  exact ⟨rfl, rfl, rfl⟩
theorem c13 (G : Imm) (op to a c : Int) : Does Tryz.prog 13 [.int .i64 op, .int .i64 to, .int .i64 a, .int .i64 c] G [] (fun v G' Ho => v = .agg (Cells.enc (⟨op, to, a, 0, c⟩ : Sl.Instr)).toArray ∧ G' = G ∧ Ho = []) := by
  refine Does.enter Tryz.func13 rfl Tryz.ntmps13 rfl (fun w => ?_)
  refine Wc.seq ?_
  refine Wc.region rfl ?_
  refine Wl.alloc 0 rfl T.zero46 (fun b1 => ?_)
  refine Wl.done ?_
  refine Ar.next ?_
  refine Wc.seq ?_
  refine Wc.region rfl ?_
  refine Wl.q rfl (Qy.move rfl) ?_
  refine Wl.q rfl (Qy.move rfl) ?_
  refine Wl.q rfl (Qy.move rfl) ?_
  refine Wl.q rfl (Qy.move rfl) ?_
  refine Wl.q rfl (Qy.build (cs := [_, _, _, _, _]) T.st46 rfl rfl rfl) ?_
  refine Wl.storeAll 0 T.size46 rfl rfl rfl rfl rfl rfl ?_
  refine Wl.done ?_
  refine Ar.next ?_
  refine Wc.ret ?_
  refine Ar.out1 (.inr rfl) (Ho := Hp.only _ []) rfl (.agg 0 rfl rfl T.agg46) (Hp.sub_only _ _) ?_
  exact ⟨rfl, rfl, rfl⟩
def tw (m : Nat) : Int := ((2 ^ m : Nat) : Int)
theorem pow_tw {c : Int} (h : powC c ≠ 0) : ∃ m : Nat, 1 ≤ m ∧ m ≤ 9 ∧ c = tw m ∧ powC c = m := by
  rcases pow_cases h with rfl | rfl | rfl | rfl | rfl | rfl | rfl | rfl | rfl
  · exact ⟨1, by decide⟩
  · exact ⟨2, by decide⟩
  · exact ⟨3, by decide⟩
  · exact ⟨4, by decide⟩
  · exact ⟨5, by decide⟩
  · exact ⟨6, by decide⟩
  · exact ⟨7, by decide⟩
  · exact ⟨8, by decide⟩
  · exact ⟨9, by decide⟩
attribute [local irreducible] powC
attribute [local irreducible] plainP
end Go.Proofs.YtbppmiimeccclaaGreatDoor
set_option maxRecDepth 100000
namespace Go.Proofs.YtbppmiimeccclaaGreatDoor
open Go Go.Sl
def idle1 (i : Sl.Instr) : Bool := decide (i.op = 1 ∧ i.to = i.a)
/-- one instruction more; the stack's top first -/
def pushP : List Sl.Instr → Sl.Instr → List Sl.Instr
  | [], b => if idle1 b = true then [] else [b]
  | a :: s, b => if idle1 b = true then a :: s else if (meltP a b).2 = true then pushP s (meltP a b).1 else b :: a :: s
def pushL (L : List Sl.Instr) (b : Sl.Instr) : List Sl.Instr := (pushP L.reverse b).reverse
def foldS (l : List Sl.Instr) : List Sl.Instr := l.foldl (fun s i => pushP s (plainP i)) []
def foldTo (p : PV) (k : Nat) : List Sl.Instr := (foldS (p.code.take k)).reverse
def foldP (p : PV) : PV := ⟨p.ins, p.regs, (foldS p.code).reverse, p.outs⟩
theorem pushL_idle {L : List Sl.Instr} {b : Sl.Instr} (h : idle1 b = true) : pushL L b = L := by
  unfold pushL
  cases hL : L.reverse with
  | nil => rw [pushP, if_pos h, ← hL, List.reverse_reverse]
  | cons a s => rw [pushP, if_pos h, ← hL, List.reverse_reverse]
theorem pushL_nil {b : Sl.Instr} (h : ¬ idle1 b = true) : pushL [] b = [b] := by
  unfold pushL; rw [List.reverse_nil, pushP, if_neg h]; rfl
theorem pushL_melt {M : List Sl.Instr} {a b : Sl.Instr} (h : ¬ idle1 b = true) (hm : (meltP a b).2 = true) : pushL (M ++ [a]) b = pushL M (meltP a b).1 := by
  unfold pushL; rw [List.reverse_append, List.reverse_singleton, List.singleton_append, pushP, if_neg h, if_pos hm]
theorem pushL_push {M : List Sl.Instr} {a b : Sl.Instr} (h : ¬ idle1 b = true) (hm : ¬ (meltP a b).2 = true) : pushL (M ++ [a]) b = M ++ [a] ++ [b] := by
  unfold pushL; rw [List.reverse_append, List.reverse_singleton, List.singleton_append, pushP, if_neg h, if_neg hm]
  simp
theorem foldTo_step {p : PV} {k : Nat} (h : k < p.code.length) : foldTo p (k + 1) = pushL (foldTo p k) (plainP (p.code[((k : Nat) : Int).toNat]?.getD default)) := by
  unfold foldTo pushL foldS
  rw [List.reverse_reverse, List.take_add_one, Int.toNat_natCast, List.getElem?_eq_getElem h, List.foldl_append]
  rfl
theorem foldTo_all (p : PV) : foldTo p p.code.length = (foldP p).code := by unfold foldTo foldP; rw [List.take_length]
theorem foldTo_zero (p : PV) : foldTo p 0 = [] := rfl
theorem push_len : ∀ (s : List Sl.Instr) (b : Sl.Instr), (pushP s b).length ≤ s.length + 1
  | [], b => by unfold pushP; split <;> simp
  | a :: s, b => by
    unfold pushP
    split
    · simp
    split
    · have := push_len s (meltP a b).1; simp only [List.length_cons]; omega
    · simp
theorem fold_len_aux (l : List Sl.Instr) (s : List Sl.Instr) : (l.foldl (fun s i => pushP s (plainP i)) s).length ≤ s.length + l.length := by
  induction l generalizing s with
  | nil => simp
  | cons x l ih => have h1 := ih (pushP s (plainP x)); have h2 := push_len s (plainP x); simp only [List.foldl_cons, List.length_cons]; omega
theorem foldTo_len (p : PV) (k : Nat) : (foldTo p k).length ≤ k := by
  have := fold_len_aux (p.code.take k) []
  unfold foldTo foldS
  simp only [List.length_reverse, List.length_nil, List.length_take] at *
  omega
theorem fold_len (p : PV) : (foldP p).code.length ≤ p.code.length := by rw [← foldTo_all]; exact foldTo_len p _
theorem push_all {q : Sl.Instr → Prop} (hm : ∀ a b, q a → q b → (meltP a b).2 = true → q (meltP a b).1) : ∀ (s : List Sl.Instr) (b : Sl.Instr), (∀ i ∈ s, q i) → q b → ∀ i ∈ pushP s b, q i
  | [], b, _, hb => by
    unfold pushP; split
    · simp
    · simpa using hb
  | a :: s, b, hs, hb => by
    unfold pushP
    split
    · exact hs
    split
    · rename_i h
      exact push_all hm s _ (fun i hi => hs i (List.mem_cons_of_mem _ hi)) (hm a b (hs a List.mem_cons_self) hb h)
    · intro i hi
      rcases List.mem_cons.1 hi with rfl | hi
      · exact hb
      · exact hs i hi
theorem fold_all {q : Sl.Instr → Prop} (hm : ∀ a b, q a → q b → (meltP a b).2 = true → q (meltP a b).1) (hp : ∀ i, q i → q (plainP i)) (l : List Sl.Instr) (h : ∀ i ∈ l, q i) : ∀ i ∈ foldS l, q i := by
  have aux : ∀ (l s : List Sl.Instr), (∀ i ∈ l, q i) → (∀ i ∈ s, q i) → ∀ i ∈ l.foldl (fun s i => pushP s (plainP i)) s, q i := by
    intro l
    induction l with
    | nil => intro s _ hs; exact hs
    | cons x l ih =>
      intro s hl hs
      exact ih _ (fun i hi => hl i (List.mem_cons_of_mem _ hi)) (push_all hm s _ hs (hp x (hl x List.mem_cons_self)))
  exact aux l [] h (fun i hi => by simp at hi)
def okC (i : Sl.Instr) : Prop := constOk i.op i.c = true
theorem melt_okC {a b : Sl.Instr} (ha : okC a) (hb : okC b) (h : (meltP a b).2 = true) : okC (meltP a b).1 := by
  have ht := tog_const (f := a.op) (c := a.c) (s := b.op) (d := b.c) ha hb
  unfold meltP at h ⊢
  split at h
  · cases h
  · rename_i hn
    rw [if_neg hn]
    split at h
    · rename_i hy
      rw [if_pos hy]
      rcases ht with ht | ht
      · exact plain_const (i := ⟨_, b.to, a.a, 0, _⟩) ht
      · rw [hy] at ht; cases ht
    · cases h
theorem foldTo_okC {p : PV} (h : ∀ i ∈ p.code, okC i) (k : Nat) : ∀ i ∈ foldTo p k, okC i := fun i hi => by
  unfold foldTo at hi
  exact fold_all (q := okC) (fun a b ha hb h => melt_okC ha hb h) (fun i hi => plain_const hi) _ (fun i hi => h i (List.mem_of_mem_take hi)) i (List.mem_reverse.1 hi)
end Go.Proofs.YtbppmiimeccclaaGreatDoor
set_option maxRecDepth 100000
set_option linter.unusedVariables false
namespace Go.Proofs.YtbppmiimeccclaaGreatDoor
open Go Go.Sl
set_option maxHeartbeats 4000000
attribute [local irreducible] plainP meltP pushL foldTo
theorem right_codes {p : PV} (hR : rightP p = true) : ∀ i ∈ p.code, mayOk i p.regs = true := by
  have h : (checkP p).2 = false := by simpa [rightP] using hR
  unfold checkP at h
  split at h
  · cases h
  · split at h
    · cases h
    · rename_i hb
      unfold badAt at hb
      rw [List.findIdx?_eq_none_iff] at hb
      intro i hi
      simpa using hb i hi
theorem right_okC {p : PV} (hR : rightP p = true) : ∀ i ∈ p.code, okC i := fun i hi => may_const (right_codes hR i hi)
theorem getD_mem {l : List Sl.Instr} {k : Nat} (h : k < l.length) : l[((k : Nat) : Int).toNat]?.getD default ∈ l := by
  rw [Int.toNat_natCast, List.getElem?_eq_getElem h]; exact List.getElem_mem h
theorem row_cut (M : List Sl.Instr) (t : Sl.Instr) (m : List Value) : Row 46 (M ++ [t]) m = Row 46 M (Cells.enc t ++ m) := by
  unfold Row; rw [flat_append]; simp [flat]
theorem own_cut {a : Option Addr} {c : Nat} {M : List Sl.Instr} {t : Sl.Instr} {m : List Value} (h : OwnA a c (M ++ [t]) m) : OwnA a c M (Cells.enc t ++ m) := by
  rcases h with ⟨_, h, _⟩ | ⟨b, h1, h2, h3, h4⟩
  · simp at h
  · refine .inr ⟨b, h1, ?_, ?_, h4⟩
    · rw [List.length_append, List.length_singleton, Nat.add_mul] at h2
      rw [List.length_append, Cells.len]; omega
    · simp at h3; omega
theorem subA_zero {α : Type} [Cells α] {a : Option Addr} {c e sz : Nat} {xs : List α} {j : List Value} (h : OwnA a e xs j) : subA a c 0 sz = a := by
  unfold subA
  split
  · rfl
  · rcases h with ⟨h1, _⟩ | ⟨b, h1, _⟩
    · rw [h1]; rfl
    · rw [h1]; simp [Addr.add]
theorem c6R (G : Imm) (hT : TabOk G) (p : PV) (ac ao : Option Addr) (cc co : Nat) (hc : Arr G ac p.code) (ho : Arr G ao p.outs) (h1 : p.code.length ≤ 1048576) (h2 : p.outs.length ≤ 1048576) (hR : rightP p = true) :
    Does Tryz.prog 6 [.agg #[.int .i64 p.ins, .int .i64 p.regs, .slice ac p.code.length cc, .slice ao p.outs.length co]] G [] (fun v G' Ho =>
      ∃ bc bo dc do_ j1 j2, v = .tuple #[.agg #[.int .i64 p.ins, .int .i64 p.regs, .slice bc (foldP p).code.length dc, .slice bo p.outs.length do_], .int .i64 0] ∧
        OwnA bc dc (foldP p).code j1 ∧ OwnA bo do_ p.outs j2 ∧ Ho = [(0, bc.map (·.block), Row 46 (foldP p).code j1), (1, bo.map (·.block), Row 3 p.outs j2)] ∧ G' = G) := by
  have hcheck : (checkP p).2 = false := by simpa [rightP] using hR
  have hok := right_okC hR
  refine Does.enter Tryz.func6 rfl Tryz.ntmps6 rfl (fun w => ?_)
  refine Wc.nilRow 0 (Row 46 ([] : List Sl.Instr) []) ?_
  refine Wc.seq ?_
  refine Wc.region rfl ?_
  refine Wl.box 1 rfl rfl rfl (fun b1 => ?_)
  refine Wl.alloc 2 rfl T.zero25 (fun b2 => ?_)
  refine Wl.q rfl (Qy.assign rfl) ?_
  refine Wl.done ?_
  refine Ar.next ?_
  refine Wc.scope ?_
  refine Wc.seq ?_
  refine Wc.region rfl ?_
  refine Wl.q rfl (Qy.loadAll 1 T.agg25 rfl rfl rfl) ?_
  refine Wl.call0 rfl T.fn16 rfl (c16 _ _ _ _ _ _ (by assumption) (by assumption) (by omega) (by omega)) ?_
  refine Wl.q rfl (Qy.move rfl) ?_
  refine Wl.q rfl (Qy.extract rfl rfl) ?_
  refine Wl.q rfl (Qy.extract rfl rfl) ?_
  refine Wl.q rfl (Qy.assign rfl) ?_
  refine Wl.q rfl (Qy.assign rfl) ?_
  refine Wl.done ?_
  refine Ar.next ?_
  refine Wc.seq ?_
  refine Wc.seq ?_
  refine Wc.region rfl ?_
  refine Wl.q rfl (Qy.move rfl) ?_
  refine Wl.q rfl (Qy.neq rfl rfl) ?_
  refine Wl.done ?_
  refine Ar.next ?_
  refine Wc.cond rfl (fun hc1 => ?_) (fun hc1 => ?_)
  refine Wc.seq ?_
  refine Wc.region rfl ?_
  refine Wl.q rfl (Qy.build (cs := [_, _, _, _]) T.st25 rfl rfl rfl) ?_
  refine Wl.q rfl (Qy.move rfl) ?_
  refine Wl.storeAll 2 T.size25 rfl rfl rfl rfl rfl rfl ?_
  refine Wl.q rfl (Qy.assign rfl) ?_
  refine Wl.done ?_
  refine Ar.next ?_
  refine Wc.ret ?_
  refine Ar.passRet ?_
  refine Ar.scopeR ?_
  rotate_left
  refine Wc.skip ?_
  refine Ar.next ?_
  refine Wc.seq ?_
  refine Wc.region rfl ?_
  refine Wl.q rfl (Qy.assign rfl) ?_
  refine Wl.done ?_
  refine Ar.next ?_
  refine Wc.seq ?_
  refine Wc.label ?_
  refine Ar.next ?_
  refine Wc.seq ?_
  refine Wc.seq ?_
  refine Wc.region rfl ?_
  refine Wl.q rfl (Qy.fieldAddr T.fa25_2 rfl) ?_
  refine Wl.q rfl (Qy.load 1 T.one22 rfl rfl rfl) ?_
  refine Wl.q rfl (Qy.len T.sl22 rfl) ?_
  refine Wl.q rfl (Qy.move rfl) ?_
  refine Wl.done ?_
  refine Ar.next ?_
  refine Wc.block ?_
  rotate_left
  · rw [hcheck] at hc1; exact absurd rfl hc1
  refine Wc.loop (ι := Nat × List Sl.Instr × (Option Addr × Nat × List Value)) (fun (k, xs, (b, d, j)) => ([(24, .int .i64 (k : Int)), (6, .slice b xs.length d), (23, Go.Value.int Go.IntKind.i64 (↑(List.length (Go.Proofs.YtbppmiimeccclaaGreatDoor.PV.code p)) : Int)), (22, Go.Value.slice ac (List.length (Go.Proofs.YtbppmiimeccclaaGreatDoor.PV.code p)) cc), (3, Go.Value.int Go.IntKind.i64 0), (2, Go.Value.pointer (Option.some (Go.Addr.mk b2 0 Option.none))), (1, Go.Value.pointer (Option.some (Go.Addr.mk b1 0 Option.none)))], [(0, b.map (·.block), Row 46 xs j), (2, Option.some b2, Go.Obj.cells #[Go.Value.int Go.IntKind.i64 0, Go.Value.int Go.IntKind.i64 0, Go.Value.slice Option.none 0 0, Go.Value.slice Option.none 0 0] 25), (1, Option.some b1, Go.Obj.cells #[Go.Value.int Go.IntKind.i64 (Go.Proofs.YtbppmiimeccclaaGreatDoor.PV.ins p), Go.Value.int Go.IntKind.i64 (Go.Proofs.YtbppmiimeccclaaGreatDoor.PV.regs p), Go.Value.slice ac (List.length (Go.Proofs.YtbppmiimeccclaaGreatDoor.PV.code p)) cc, Go.Value.slice ao (List.length (Go.Proofs.YtbppmiimeccclaaGreatDoor.PV.outs p)) co] 25)])) (fun (k, xs, (b, d, j)) => k ≤ p.code.length ∧ xs = foldTo p k ∧ OwnA b d xs j) (fun (k, xs, (b, d, j)) => p.code.length - k) ((0, [], (none, 0, []))) (⟨Nat.zero_le _, by rw [foldTo_zero], OwnA.nil⟩) ⟨rfl, rfl, rfl, rfl, rfl, rfl, rfl, trivial⟩ ⟨rfl, rfl, rfl, trivial⟩ (fun ⟨k, xs, (b, d, j)⟩ => fun (hk : k ≤ p.code.length ∧ xs = foldTo p k ∧ OwnA b d xs j) => ?_)
  obtain ⟨hk1, hxs, hob⟩ := hk
  have hxl : xs.length ≤ k := by rw [hxs]; exact foldTo_len p k
  rcases Nat.lt_or_ge k p.code.length with hlt | hge
  · clear hc1
    have hst := foldTo_step (p := p) hlt
    have hx0 := hok _ (getD_mem hlt)
    have hx1 := const_fits hx0
    have hx2 := plain_const hx0
    have hxo := foldTo_okC hok k
    rw [← hxs] at hxo hst
    refine Wc.seq ?_
    refine Wc.region rfl ?_
    refine Wl.q rfl (Qy.lss rfl rfl) ?_
    refine Wl.done ?_
    refine Ar.next ?_
    refine Wc.seq ?_
    refine Wc.condP rfl (by first | assumption | omega) ?_
    refine Wc.skip ?_
    refine Ar.next ?_
    refine Wc.seq ?_
    refine Wc.block ?_
    refine Wc.seq ?_
    refine Wc.region rfl ?_
    refine Wl.q rfl (Qy.at (α := Instr) T.sl22 rfl rfl (by assumption) (by omega)) ?_
    refine Wl.q rfl (Qy.loadsG T.agg46 rfl (Arr.elem (by assumption) (by omega)) rfl) ?_
    refine Wl.alloc 3 rfl T.zero46 (fun b3 => ?_)
    refine Wl.storeAll 3 T.size46 rfl rfl rfl rfl rfl rfl ?_
    refine Wl.done ?_
    refine Ar.next ?_
    refine Wc.scope ?_
    refine Wc.seq ?_
    refine Wc.region rfl ?_
    refine Wl.q rfl (Qy.loadAll 3 T.agg46 rfl rfl rfl) ?_
    refine Wl.call0 rfl T.fn17 rfl (c17 _ (by assumption) _ (by assumption)) ?_
    refine Wl.alloc 4 rfl T.zero46 (fun b4 => ?_)
    refine Wl.storeAll 4 T.size46 rfl rfl rfl rfl rfl rfl ?_
    refine Wl.done ?_
    refine Ar.next ?_
    refine Wc.seq ?_
    refine Wc.label ?_
    refine Ar.next ?_
    refine Wc.seq ?_
    refine Wc.block ?_
    refine Wc.loop (ι := List Sl.Instr × Sl.Instr × (Option Addr × Nat × List Value)) (fun (M, bi, (a, e, m)) => ([(6, .slice a M.length e), (22, .slice ac p.code.length cc), (23, .int .i64 (p.code.length : Int)), (9, Go.Value.pointer (Option.some (Go.Addr.mk b4 0 Option.none))), (24, Go.Value.int Go.IntKind.i64 (↑k : Int)), (3, Go.Value.int Go.IntKind.i64 0), (2, Go.Value.pointer (Option.some (Go.Addr.mk b2 0 Option.none))), (1, Go.Value.pointer (Option.some (Go.Addr.mk b1 0 Option.none)))], [(0, a.map (·.block), Row 46 M m), (4, some b4, .cells (Cells.enc bi).toArray 46), (3, Option.some b3, Go.Obj.cells (List.toArray (Go.Sl.Cells.enc (Option.getD (Go.Proofs.YtbppmiimeccclaaGreatDoor.PV.code p)[Int.toNat (↑k : Int)]? Inhabited.default))) 46), (2, Option.some b2, Go.Obj.cells #[Go.Value.int Go.IntKind.i64 0, Go.Value.int Go.IntKind.i64 0, Go.Value.slice Option.none 0 0, Go.Value.slice Option.none 0 0] 25), (1, Option.some b1, Go.Obj.cells #[Go.Value.int Go.IntKind.i64 (Go.Proofs.YtbppmiimeccclaaGreatDoor.PV.ins p), Go.Value.int Go.IntKind.i64 (Go.Proofs.YtbppmiimeccclaaGreatDoor.PV.regs p), Go.Value.slice ac (List.length (Go.Proofs.YtbppmiimeccclaaGreatDoor.PV.code p)) cc, Go.Value.slice ao (List.length (Go.Proofs.YtbppmiimeccclaaGreatDoor.PV.outs p)) co] 25)])) (fun (M, bi, (a, e, m)) => foldTo p (k + 1) = pushL M bi ∧ OwnA a e M m ∧ (∀ i ∈ M, okC i) ∧ okC bi ∧ M.length ≤ k) (fun (M, bi, (a, e, m)) => M.length) ((xs, _, (b, d, j))) (⟨hst, hob, hxo, hx2, hxl⟩) ⟨rfl, rfl, rfl, rfl, rfl, rfl, rfl, rfl, trivial⟩ ⟨rfl, rfl, rfl, rfl, rfl, trivial⟩ (fun ⟨M, bi, (a, e, m)⟩ => fun (hk : foldTo p (k + 1) = pushL M bi ∧ OwnA a e M m ∧ (∀ i ∈ M, okC i) ∧ okC bi ∧ M.length ≤ k) => ?_)
    obtain ⟨hpu, hoM, hMo, hbo, hMk⟩ := hk
    have hbo' : constOk bi.op bi.c = true := hbo
    rcases List.eq_nil_or_concat M with rfl | ⟨M', t, rfl⟩
    · have hl0 : (([] : List Sl.Instr).length : Int) = 0 := rfl
      refine Wc.block ?_
      refine Wc.seq ?_
      refine Wc.seq ?_
      refine Wc.region rfl ?_
      refine Wl.q rfl (Qy.fieldAddr T.fa46_0 rfl) ?_
      refine Wl.q rfl (Qy.load 4 T.one3 rfl rfl rfl) ?_
      refine Wl.q rfl (Qy.eql rfl rfl) ?_
      refine Wl.q rfl (Qy.move rfl) ?_
      apply Wl.joinAnd 6 33 39 rfl
      intro hg1
      refine Wl.want rfl rfl ?_
      refine Wl.q rfl (Qy.fieldAddr T.fa46_1 rfl) ?_
      refine Wl.want rfl rfl ?_
      refine Wl.q rfl (Qy.load 4 T.one3 rfl rfl rfl) ?_
      refine Wl.want rfl rfl ?_
      refine Wl.q rfl (Qy.fieldAddr T.fa46_2 rfl) ?_
      refine Wl.want rfl rfl ?_
      refine Wl.q rfl (Qy.load 4 T.one3 rfl rfl rfl) ?_
      refine Wl.want rfl rfl ?_
      refine Wl.q rfl (Qy.eql rfl rfl) ?_
      refine Wl.q rfl (Qy.pick rfl rfl) ?_
      exact Wl.back 6 0 rfl rfl rfl rfl rfl
      intro hg1
      refine Wl.pass rfl rfl rfl ?_
      refine Wl.pass rfl rfl rfl ?_
      refine Wl.pass rfl rfl rfl ?_
      refine Wl.pass rfl rfl rfl ?_
      refine Wl.pass rfl rfl rfl ?_
      refine Wl.q rfl (Qy.pick rfl rfl) ?_
      exact Wl.back 6 0 rfl rfl rfl rfl rfl
      refine Wl.done ?_
      refine Ar.next ?_
      refine Wc.cond rfl (fun hc1 => ?_) (fun hc1 => ?_)
      refine Wc.exit ?_
      refine Ar.passExit ?_
      refine Ar.outExit rfl ?_
      refine Ar.passExit ?_
      refine Ar.outExit rfl ?_
      refine Ar.passExit ?_
      refine Ar.scopeE ?_
      refine Ar.here ?_
      refine Ar.next ?_
      refine Wc.region rfl ?_
      refine Wl.q rfl (Qy.add rfl rfl (by omega)) ?_
      refine Wl.q rfl (Qy.move rfl) ?_
      refine Wl.done ?_
      rotate_left
      refine Wc.skip ?_
      refine Ar.next ?_
      refine Wc.seq ?_
      refine Wc.seq ?_
      refine Wc.region rfl ?_
      refine Wl.q rfl (Qy.move rfl) ?_
      refine Wl.q rfl (Qy.len T.sl22 rfl) ?_
      refine Wl.q rfl (Qy.eql rfl rfl) ?_
      refine Wl.done ?_
      refine Ar.next ?_
      refine Wc.condP rfl (by first | assumption | omega) ?_
      refine Wc.exit ?_
      refine Ar.passExit ?_
      refine Ar.outExit rfl ?_
      refine Ar.passExit ?_
      refine Ar.here ?_
      refine Ar.next ?_
      refine Wc.region rfl ?_
      refine Wl.q rfl (Qy.move rfl) ?_
      refine Wl.q rfl (Qy.loadAll 4 T.agg46 rfl rfl rfl) ?_
      refine Wl.lit (α := Instr) 5 [(bi)] rfl T.sl22 T.el46 rfl rfl rfl rfl rfl (fun b5 => ?_)
      refine Wl.append (α := Instr) 0 rfl T.sl22 T.el46 rfl rfl rfl (by first | assumption | exact OwnA.nil | exact OwnA.made (by simp)) (Src.row 5 rfl) (by first | omega | (simp only [List.length_append, List.length_cons, List.length_nil, maxLen]; omega)) (by first | omega | (simp only [List.length_append, List.length_cons, List.length_nil, maxLen]; omega)) (fun a1 c1 junk1 ho1 => ?_)
      refine Wl.q rfl (Qy.assign rfl) ?_
      refine Wl.done ?_
      refine Ar.scopeN ?_
      refine Ar.outNormal ?_
      refine Ar.next ?_
      refine Wc.region rfl ?_
      refine Wl.q rfl (Qy.add rfl rfl (by omega)) ?_
      refine Wl.q rfl (Qy.move rfl) ?_
      refine Wl.done ?_
      rotate_left
      · refine Ar.again ((k + 1, [], (a, e, m))) ?_ ?_ rfl ⟨rfl, rfl, rfl, rfl, rfl, rfl, rfl, trivial⟩ ⟨rfl, rfl, rfl, trivial⟩
        · exact ⟨by omega, by rw [hpu, pushL_idle (decide_eq_true hc1)], hoM⟩
        · show p.code.length - (k + 1) < p.code.length - k
          omega
      · refine Ar.again ((k + 1, _, (a1, c1, junk1))) ?_ ?_ rfl ⟨rfl, rfl, rfl, rfl, rfl, rfl, rfl, trivial⟩ ⟨rfl, rfl, rfl, trivial⟩
        · exact ⟨by omega, by rw [hpu, pushL_nil (fun h => hc1 (of_decide_eq_true h))]; rfl, ho1⟩
        · show p.code.length - (k + 1) < p.code.length - k
          omega
    · rw [List.concat_eq_append] at *
      have hlen : (M' ++ [t]).length = M'.length + 1 := by simp
      have hto : okC t := hMo t (by simp)
      have hget : (M' ++ [t])[(((M' ++ [t]).length : Int) - 1).toNat]?.getD default = t := by
        have e : (((M' ++ [t]).length : Int) - 1).toNat = M'.length := by omega
        rw [e]; simp
      have hto' : constOk ((M' ++ [t])[(((M' ++ [t]).length : Int) - 1).toNat]?.getD default).op ((M' ++ [t])[(((M' ++ [t]).length : Int) - 1).toNat]?.getD default).c = true := by rw [hget]; exact hto
      have hcap := hoM.le
      have hcut : (((M' ++ [t]).length : Int) - 1).toNat = M'.length := by omega
      have hM'o : ∀ i ∈ M', okC i := fun i hi => hMo i (by simp [hi])
      refine Wc.block ?_
      refine Wc.seq ?_
      refine Wc.seq ?_
      refine Wc.region rfl ?_
      refine Wl.q rfl (Qy.fieldAddr T.fa46_0 rfl) ?_
      refine Wl.q rfl (Qy.load 4 T.one3 rfl rfl rfl) ?_
      refine Wl.q rfl (Qy.eql rfl rfl) ?_
      refine Wl.q rfl (Qy.move rfl) ?_
      apply Wl.joinAnd 6 33 39 rfl
      intro hg1
      refine Wl.want rfl rfl ?_
      refine Wl.q rfl (Qy.fieldAddr T.fa46_1 rfl) ?_
      refine Wl.want rfl rfl ?_
      refine Wl.q rfl (Qy.load 4 T.one3 rfl rfl rfl) ?_
      refine Wl.want rfl rfl ?_
      refine Wl.q rfl (Qy.fieldAddr T.fa46_2 rfl) ?_
      refine Wl.want rfl rfl ?_
      refine Wl.q rfl (Qy.load 4 T.one3 rfl rfl rfl) ?_
      refine Wl.want rfl rfl ?_
      refine Wl.q rfl (Qy.eql rfl rfl) ?_
      refine Wl.q rfl (Qy.pick rfl rfl) ?_
      exact Wl.back 6 0 rfl rfl rfl rfl rfl
      intro hg1
      refine Wl.pass rfl rfl rfl ?_
      refine Wl.pass rfl rfl rfl ?_
      refine Wl.pass rfl rfl rfl ?_
      refine Wl.pass rfl rfl rfl ?_
      refine Wl.pass rfl rfl rfl ?_
      refine Wl.q rfl (Qy.pick rfl rfl) ?_
      exact Wl.back 6 0 rfl rfl rfl rfl rfl
      refine Wl.done ?_
      refine Ar.next ?_
      refine Wc.cond rfl (fun hc1 => ?_) (fun hc1 => ?_)
      refine Wc.exit ?_
      refine Ar.passExit ?_
      refine Ar.outExit rfl ?_
      refine Ar.passExit ?_
      refine Ar.outExit rfl ?_
      refine Ar.passExit ?_
      refine Ar.scopeE ?_
      refine Ar.here ?_
      refine Ar.next ?_
      refine Wc.region rfl ?_
      refine Wl.q rfl (Qy.add rfl rfl (by omega)) ?_
      refine Wl.q rfl (Qy.move rfl) ?_
      refine Wl.done ?_
      rotate_left
      refine Wc.skip ?_
      refine Ar.next ?_
      refine Wc.seq ?_
      refine Wc.seq ?_
      refine Wc.region rfl ?_
      refine Wl.q rfl (Qy.move rfl) ?_
      refine Wl.q rfl (Qy.len T.sl22 rfl) ?_
      refine Wl.q rfl (Qy.eql rfl rfl) ?_
      refine Wl.done ?_
      refine Ar.next ?_
      refine Wc.condN rfl (by first | assumption | omega) ?_
      refine Wc.skip ?_
      refine Ar.next ?_
      refine Wc.seq ?_
      refine Wc.draw [1, 2, 3, 4, 0] [(0, 12), (4, 12), (3, 12), (2, 12), (1, 12)] T.mixed rfl ?_
      refine Gm.q 0 [] (by kernel_rfl) rfl rfl (Qy.move rfl) ?_
      refine Gm.q 1 [] (by kernel_rfl) rfl rfl (Qy.move rfl) ?_
      refine Gm.q 2 [] (by kernel_rfl) rfl rfl (Qy.len T.sl22 rfl) ?_
      refine Gm.q 3 [] (by kernel_rfl) rfl rfl (Qy.sub rfl rfl (by omega)) ?_
      refine Gm.q 4 [] (by kernel_rfl) rfl rfl (Qy.indexAddrO (α := Instr) T.sl22 rfl rfl (by assumption) (by omega)) ?_
      refine Gm.q 5 [0] (by kernel_rfl) rfl rfl (Qy.loadsO 0 T.agg46 rfl rfl (by assumption) (by omega)) ?_
      refine Gm.q 6 [4] (by kernel_rfl) rfl rfl (Qy.loadAll 4 T.agg46 rfl rfl rfl) ?_
      refine Gm.two 7 11 ⟨rfl, rfl, rfl, rfl, rfl, trivial⟩ (by first | exact Imm.le_refl _ | assumption) (by kernel_rfl) rfl rfl ?_ ?_
      refine Wl.call0 rfl T.fn18 rfl (c18 _ (by assumption) _ _ (by assumption) (by assumption)) ?_
      refine Wl.on0 ?_
      refine Gm.q 8 [] (by kernel_rfl) rfl rfl (Qy.move rfl) ?_
      refine Gm.q 9 [] (by kernel_rfl) rfl rfl (Qy.extract rfl rfl) ?_
      refine Gm.q 10 [] (by kernel_rfl) rfl rfl (Qy.extract rfl rfl) ?_
      refine Gm.one 11 ⟨rfl, rfl, rfl, rfl, rfl, trivial⟩ (by first | exact Imm.le_refl _ | assumption) (by kernel_rfl) rfl ?_
      refine Wl.alloc 5 rfl T.zero46 (fun b5 => ?_)
      refine Wl.on0 ?_
      refine Gm.one 12 ⟨rfl, rfl, rfl, rfl, rfl, trivial⟩ (by first | exact Imm.le_refl _ | assumption) (by kernel_rfl) rfl ?_
      refine Wl.storeAll 5 T.size46 rfl rfl rfl rfl rfl rfl ?_
      refine Wl.on0 ?_
      refine Gm.q 13 [] (by kernel_rfl) rfl rfl (Qy.assign rfl) ?_
      refine Gm.doneA (by kernel_rfl) trivial (by first | exact Imm.le_refl _ | assumption) ?_
      refine Ar.next ?_
      refine Wc.seq ?_
      refine Wc.seq ?_
      refine Wc.region rfl ?_
      refine Wl.q rfl (Qy.move rfl) ?_
      refine Wl.q rfl (Qy.not rfl) ?_
      refine Wl.done ?_
      refine Ar.next ?_
      refine Wc.ite rfl (fun hc2 => ?_) (fun hc2 => ?_)
      refine Wc.exit ?_
      refine Ar.passExit ?_
      refine Ar.outExit rfl ?_
      refine Ar.passExit ?_
      refine Ar.here ?_
      refine Ar.next ?_
      refine Wc.region rfl ?_
      refine Wl.q rfl (Qy.move rfl) ?_
      refine Wl.q rfl (Qy.loadAll 4 T.agg46 rfl rfl rfl) ?_
      refine Wl.lit (α := Instr) 6 [(bi)] rfl T.sl22 T.el46 rfl rfl rfl rfl rfl (fun b6 => ?_)
      refine Wl.append (α := Instr) 0 rfl T.sl22 T.el46 rfl rfl rfl (by first | assumption | exact OwnA.nil | exact OwnA.made (by simp)) (Src.row 6 rfl) (by first | omega | (simp only [List.length_append, List.length_cons, List.length_nil, maxLen]; omega)) (by first | omega | (simp only [List.length_append, List.length_cons, List.length_nil, maxLen]; omega)) (fun a1 c1 junk1 ho1 => ?_)
      refine Wl.q rfl (Qy.assign rfl) ?_
      refine Wl.done ?_
      refine Ar.scopeN ?_
      refine Ar.outNormal ?_
      refine Ar.next ?_
      refine Wc.region rfl ?_
      refine Wl.q rfl (Qy.add rfl rfl (by omega)) ?_
      refine Wl.q rfl (Qy.move rfl) ?_
      refine Wl.done ?_
      rotate_left
      refine Wc.skip ?_
      refine Ar.next ?_
      refine Wc.seq ?_
      refine Wc.region rfl ?_
      refine Wl.q rfl (Qy.move rfl) ?_
      refine Wl.q rfl (Qy.move rfl) ?_
      refine Wl.q rfl (Qy.len T.sl22 rfl) ?_
      refine Wl.q rfl (Qy.sub rfl rfl (by omega)) ?_
      refine Wl.q rfl (Qy.cutH T.sl22 rfl rfl (by omega)) ?_
      refine Wl.q rfl (Qy.assign rfl) ?_
      refine Wl.done ?_
      refine Ar.next ?_
      refine Wc.region rfl ?_
      refine Wl.q rfl (Qy.loadAll 5 T.agg46 rfl rfl rfl) ?_
      refine Wl.storeAll 4 T.size46 rfl rfl rfl rfl rfl rfl ?_
      refine Wl.done ?_
      refine Ar.outNormal ?_
      rotate_left
      refine Wl.alloc 5 rfl T.zero46 (fun b5 => ?_)
      refine Wl.on0 ?_
      refine Gm.one 7 ⟨rfl, rfl, rfl, rfl, rfl, trivial⟩ (by first | exact Imm.le_refl _ | assumption) (by kernel_rfl) rfl ?_
      refine Wl.call0 rfl T.fn18 rfl (c18 _ (by assumption) _ _ (by assumption) (by assumption)) ?_
      refine Wl.on0 ?_
      refine Gm.q 8 [] (by kernel_rfl) rfl rfl (Qy.move rfl) ?_
      refine Gm.q 9 [] (by kernel_rfl) rfl rfl (Qy.extract rfl rfl) ?_
      refine Gm.q 10 [] (by kernel_rfl) rfl rfl (Qy.extract rfl rfl) ?_
      refine Gm.one 12 ⟨rfl, rfl, rfl, rfl, rfl, trivial⟩ (by first | exact Imm.le_refl _ | assumption) (by kernel_rfl) rfl ?_
      refine Wl.storeAll 5 T.size46 rfl rfl rfl rfl rfl rfl ?_
      refine Wl.on0 ?_
      refine Gm.q 13 [] (by kernel_rfl) rfl rfl (Qy.assign rfl) ?_
      refine Gm.doneA (by kernel_rfl) trivial (by first | exact Imm.le_refl _ | assumption) ?_
      refine Ar.next ?_
      refine Wc.seq ?_
      refine Wc.seq ?_
      refine Wc.region rfl ?_
      refine Wl.q rfl (Qy.move rfl) ?_
      refine Wl.q rfl (Qy.not rfl) ?_
      refine Wl.done ?_
      refine Ar.next ?_
      refine Wc.ite rfl (fun hc2 => ?_) (fun hc2 => ?_)
      refine Wc.exit ?_
      refine Ar.passExit ?_
      refine Ar.outExit rfl ?_
      refine Ar.passExit ?_
      refine Ar.here ?_
      refine Ar.next ?_
      refine Wc.region rfl ?_
      refine Wl.q rfl (Qy.move rfl) ?_
      refine Wl.q rfl (Qy.loadAll 4 T.agg46 rfl rfl rfl) ?_
      refine Wl.lit (α := Instr) 6 [(bi)] rfl T.sl22 T.el46 rfl rfl rfl rfl rfl (fun b6 => ?_)
      refine Wl.append (α := Instr) 0 rfl T.sl22 T.el46 rfl rfl rfl (by first | assumption | exact OwnA.nil | exact OwnA.made (by simp)) (Src.row 6 rfl) (by first | omega | (simp only [List.length_append, List.length_cons, List.length_nil, maxLen]; omega)) (by first | omega | (simp only [List.length_append, List.length_cons, List.length_nil, maxLen]; omega)) (fun a1 c1 junk1 ho1 => ?_)
      refine Wl.q rfl (Qy.assign rfl) ?_
      refine Wl.done ?_
      refine Ar.scopeN ?_
      refine Ar.outNormal ?_
      refine Ar.next ?_
      refine Wc.region rfl ?_
      refine Wl.q rfl (Qy.add rfl rfl (by omega)) ?_
      refine Wl.q rfl (Qy.move rfl) ?_
      refine Wl.done ?_
      rotate_left
      refine Wc.skip ?_
      refine Ar.next ?_
      refine Wc.seq ?_
      refine Wc.region rfl ?_
      refine Wl.q rfl (Qy.move rfl) ?_
      refine Wl.q rfl (Qy.move rfl) ?_
      refine Wl.q rfl (Qy.len T.sl22 rfl) ?_
      refine Wl.q rfl (Qy.sub rfl rfl (by omega)) ?_
      refine Wl.q rfl (Qy.cutH T.sl22 rfl rfl (by omega)) ?_
      refine Wl.q rfl (Qy.assign rfl) ?_
      refine Wl.done ?_
      refine Ar.next ?_
      refine Wc.region rfl ?_
      refine Wl.q rfl (Qy.loadAll 5 T.agg46 rfl rfl rfl) ?_
      refine Wl.storeAll 4 T.size46 rfl rfl rfl rfl rfl rfl ?_
      refine Wl.done ?_
      refine Ar.outNormal ?_
      rotate_left
      · refine Ar.again ((k + 1, M' ++ [t], (a, e, m))) ?_ ?_ rfl ⟨rfl, rfl, rfl, rfl, rfl, rfl, rfl, trivial⟩ ⟨rfl, rfl, rfl, trivial⟩
        · exact ⟨by omega, by rw [hpu, pushL_idle (decide_eq_true hc1)], hoM⟩
        · show p.code.length - (k + 1) < p.code.length - k
          omega
      · rw [hget] at hc2
        refine Ar.again ((k + 1, _, (a1, c1, junk1))) ?_ ?_ rfl ⟨rfl, rfl, rfl, rfl, rfl, rfl, rfl, trivial⟩ ⟨rfl, rfl, rfl, trivial⟩
        · exact ⟨by omega, by rw [hpu, pushL_push (fun h => hc1 (of_decide_eq_true h)) (by simpa using hc2)], ho1⟩
        · show p.code.length - (k + 1) < p.code.length - k
          omega
      · rw [hget] at hc2 ⊢
        have hmt : (meltP t bi).2 = true := by simpa using hc2
        refine Ar.reH 0 (Row 46 M' (Cells.enc t ++ m)) rfl (row_cut M' t m) ?_
        refine Ar.re 6 rfl (show _ = Value.slice a M'.length e by rw [hcut, subA_zero hoM]) ?_
        refine Ar.again ((M', (meltP t bi).1, (a, e, Cells.enc t ++ m))) ?_ ?_ rfl ⟨rfl, rfl, rfl, rfl, rfl, rfl, rfl, rfl, trivial⟩ ⟨rfl, rfl, rfl, rfl, rfl, trivial⟩
        · exact ⟨by rw [hpu, pushL_melt (fun h => hc1 (of_decide_eq_true h)) hmt], own_cut hoM, hM'o, melt_okC hto hbo hmt, by omega⟩
        · show M'.length < (M' ++ [t]).length
          omega
      · rw [hget] at hc2
        refine Ar.again ((k + 1, _, (a1, c1, junk1))) ?_ ?_ rfl ⟨rfl, rfl, rfl, rfl, rfl, rfl, rfl, trivial⟩ ⟨rfl, rfl, rfl, trivial⟩
        · exact ⟨by omega, by rw [hpu, pushL_push (fun h => hc1 (of_decide_eq_true h)) (by simpa using hc2)], ho1⟩
        · show p.code.length - (k + 1) < p.code.length - k
          omega
      · rw [hget] at hc2 ⊢
        have hmt : (meltP t bi).2 = true := by simpa using hc2
        refine Ar.reH 0 (Row 46 M' (Cells.enc t ++ m)) rfl (row_cut M' t m) ?_
        refine Ar.re 6 rfl (show _ = Value.slice a M'.length e by rw [hcut, subA_zero hoM]) ?_
        refine Ar.again ((M', (meltP t bi).1, (a, e, Cells.enc t ++ m))) ?_ ?_ rfl ⟨rfl, rfl, rfl, rfl, rfl, rfl, rfl, rfl, trivial⟩ ⟨rfl, rfl, rfl, rfl, rfl, trivial⟩
        · exact ⟨by rw [hpu, pushL_melt (fun h => hc1 (of_decide_eq_true h)) hmt], own_cut hoM, hM'o, melt_okC hto hbo hmt, by omega⟩
        · show M'.length < (M' ++ [t]).length
          omega
  · have hk : k = p.code.length := by omega
    subst hk
    rw [foldTo_all] at hxs
    subst hxs
    refine Wc.seq ?_
    refine Wc.region rfl ?_
    refine Wl.q rfl (Qy.lss rfl rfl) ?_
    refine Wl.done ?_
    refine Ar.next ?_
    refine Wc.seq ?_
    refine Wc.condN rfl (by first | assumption | omega) ?_
    refine Wc.exit ?_
    refine Ar.passExit ?_
    refine Ar.passExit ?_
    refine Ar.here ?_
    refine Ar.next ?_
    refine Wc.seq ?_
    refine Wc.draw [1, 2, 0] [(2, 9)] T.mixed rfl ?_
    refine Gm.q 0 [] (by kernel_rfl) rfl rfl (Qy.fieldAddr T.fa25_0 rfl) ?_
    refine Gm.q 1 [1] (by kernel_rfl) rfl rfl (Qy.load 1 T.one3 rfl rfl rfl) ?_
    refine Gm.q 2 [] (by kernel_rfl) rfl rfl (Qy.fieldAddr T.fa25_1 rfl) ?_
    refine Gm.q 3 [1] (by kernel_rfl) rfl rfl (Qy.load 1 T.one3 rfl rfl rfl) ?_
    refine Gm.q 4 [] (by kernel_rfl) rfl rfl (Qy.move rfl) ?_
    refine Gm.q 5 [] (by kernel_rfl) rfl rfl (Qy.fieldAddr T.fa25_3 rfl) ?_
    refine Gm.q 6 [1] (by kernel_rfl) rfl rfl (Qy.load 1 T.one23 rfl rfl rfl) ?_
    refine Gm.one 7 ⟨rfl, rfl, rfl, trivial⟩ (by first | exact Imm.le_refl _ | assumption) (by kernel_rfl) rfl ?_
    refine Wl.call 3 rfl T.fn19 rfl (c19 _ _ _ _ (by assumption) (by omega)) (tags_of trivial) (fun v1 G1 Ho1 hle1 hp => ?_)
    obtain ⟨lb1, ld1, lj1, rfl, hlb1, rfl, rfl⟩ := hp
    refine Wl.on0 ?_
    refine Gm.q 8 [] (by kernel_rfl) rfl rfl (Qy.build (cs := [_, _, _, _]) T.st25 rfl rfl rfl) ?_
    refine Gm.one 9 ⟨rfl, rfl, rfl, trivial⟩ (by first | exact Imm.le_refl _ | assumption) (by kernel_rfl) rfl ?_
    refine Wl.storeAll 2 T.size25 rfl rfl rfl rfl rfl rfl ?_
    refine Wl.on0 ?_
    refine Gm.q 10 [] (by kernel_rfl) rfl rfl (Qy.assign rfl) ?_
    refine Gm.doneA (by kernel_rfl) ⟨rfl, rfl, trivial⟩ (by first | exact Imm.le_refl _ | assumption) ?_
    refine Ar.next ?_
    refine Wc.ret ?_
    refine Ar.scopeR ?_
    refine Ar.pick [0, 3, 2] (by decide) (Ar.out2 (.inr rfl) (Ho := Hp.only _ [0, 1]) rfl (.agg 2 rfl rfl T.agg25) (.tmp rfl) (Hp.sub_only _ _) ?_)
    exact ⟨_, _, _, _, _, _, rfl, hob, hlb1, rfl, rfl⟩
theorem c6W (G : Imm) (p : PV) (ac ao : Option Addr) (cc co : Nat) (hc : Arr G ac p.code) (ho : Arr G ao p.outs) (h1 : p.code.length ≤ 1048576) (h2 : p.outs.length ≤ 1048576) (hR : ¬ rightP p = true) :
    Does Tryz.prog 6 [.agg #[.int .i64 p.ins, .int .i64 p.regs, .slice ac p.code.length cc, .slice ao p.outs.length co]] G [] (fun v G' Ho =>
      v = .tuple #[.agg #[.int .i64 0, .int .i64 0, .slice none 0 0, .slice none 0 0], .int .i64 80] ∧
        Ho = [(0, none, Row 46 ([] : List Sl.Instr) []), (1, none, Row 3 ([] : List Int) [])] ∧ G' = G) := by
  have hcheck : (checkP p).2 = true := by simpa [rightP] using hR
  refine Does.enter Tryz.func6 rfl Tryz.ntmps6 rfl (fun w => ?_)
  refine Wc.nilRow 5 (Row 46 ([] : List Sl.Instr) []) (Wc.nilRow 6 (Row 3 ([] : List Int) []) ?_)
  refine Wc.seq ?_
  refine Wc.region rfl ?_
  refine Wl.box 7 rfl rfl rfl (fun b1 => ?_)
  refine Wl.alloc 8 rfl T.zero25 (fun b2 => ?_)
  refine Wl.q rfl (Qy.assign rfl) ?_
  refine Wl.done ?_
  refine Ar.next ?_
  refine Wc.scope ?_
  refine Wc.seq ?_
  refine Wc.region rfl ?_
  refine Wl.q rfl (Qy.loadAll 7 T.agg25 rfl rfl rfl) ?_
  refine Wl.call0 rfl T.fn16 rfl (c16 _ _ _ _ _ _ (by assumption) (by assumption) (by omega) (by omega)) ?_
  refine Wl.q rfl (Qy.move rfl) ?_
  refine Wl.q rfl (Qy.extract rfl rfl) ?_
  refine Wl.q rfl (Qy.extract rfl rfl) ?_
  refine Wl.q rfl (Qy.assign rfl) ?_
  refine Wl.q rfl (Qy.assign rfl) ?_
  refine Wl.done ?_
  refine Ar.next ?_
  refine Wc.seq ?_
  refine Wc.seq ?_
  refine Wc.region rfl ?_
  refine Wl.q rfl (Qy.move rfl) ?_
  refine Wl.q rfl (Qy.neq rfl rfl) ?_
  refine Wl.done ?_
  refine Ar.next ?_
  refine Wc.cond rfl (fun hc1 => ?_) (fun hc1 => ?_)
  refine Wc.seq ?_
  refine Wc.region rfl ?_
  refine Wl.q rfl (Qy.build (cs := [_, _, _, _]) T.st25 rfl rfl rfl) ?_
  refine Wl.q rfl (Qy.move rfl) ?_
  refine Wl.storeAll 8 T.size25 rfl rfl rfl rfl rfl rfl ?_
  refine Wl.q rfl (Qy.assign rfl) ?_
  refine Wl.done ?_
  refine Ar.next ?_
  refine Wc.ret ?_
  refine Ar.passRet ?_
  refine Ar.scopeR ?_
  rotate_left
  refine Wc.skip ?_
  refine Ar.next ?_
  refine Wc.seq ?_
  refine Wc.region rfl ?_
  refine Wl.q rfl (Qy.assign rfl) ?_
  refine Wl.done ?_
  refine Ar.next ?_
  refine Wc.seq ?_
  refine Wc.label ?_
  refine Ar.next ?_
  refine Wc.seq ?_
  refine Wc.seq ?_
  refine Wc.region rfl ?_
  refine Wl.q rfl (Qy.fieldAddr T.fa25_2 rfl) ?_
  refine Wl.q rfl (Qy.load 7 T.one22 rfl rfl rfl) ?_
  refine Wl.q rfl (Qy.len T.sl22 rfl) ?_
  refine Wl.q rfl (Qy.move rfl) ?_
  refine Wl.done ?_
  refine Ar.next ?_
  refine Wc.block ?_
  rotate_left
  · refine Ar.pick [5, 6, 8] (by decide) (Ar.out2 (.inr rfl) (Ho := Hp.only _ [0, 1]) rfl (.agg 2 rfl rfl T.agg25) (.tmp rfl) (Hp.sub_only _ _) ?_)
    rw [hcheck]; exact ⟨rfl, rfl, rfl⟩
  · rw [hcheck] at hc1; exact absurd (by decide) hc1
/-- what the pass makes of any program -/
def foldE (p : PV) : PV := if rightP p then foldP p else ⟨0, 0, [], []⟩
def errP (p : PV) : Int := if rightP p then 0 else 80
theorem c6 (G : Imm) (hT : TabOk G) (p : PV) (ac ao : Option Addr) (cc co : Nat) (hc : Arr G ac p.code) (ho : Arr G ao p.outs) (h1 : p.code.length ≤ 1048576) (h2 : p.outs.length ≤ 1048576) :
    Does Tryz.prog 6 [.agg #[.int .i64 p.ins, .int .i64 p.regs, .slice ac p.code.length cc, .slice ao p.outs.length co]] G [] (fun v G' Ho =>
      ∃ q e bc bo dc do_ j1 j2, v = .tuple #[.agg #[.int .i64 q.ins, .int .i64 q.regs, .slice bc q.code.length dc, .slice bo q.outs.length do_], .int .i64 e] ∧ (q = foldE p ∧ e = errP p) ∧
        OwnA bc dc q.code j1 ∧ OwnA bo do_ q.outs j2 ∧ Ho = [(0, bc.map (·.block), Row 46 q.code j1), (1, bo.map (·.block), Row 3 q.outs j2)] ∧ G' = G) := by
  by_cases hR : rightP p = true
  · refine (c6R G hT p ac ao cc co hc ho h1 h2 hR).mono fun v G' Ho _ ⟨bc, bo, dc, do_, j1, j2, q1, q2, q3, q4, q5⟩ => ?_
    exact ⟨foldP p, 0, bc, bo, dc, do_, j1, j2, q1, ⟨(if_pos hR).symm, (if_pos hR).symm⟩, q2, q3, q4, q5⟩
  · refine (c6W G p ac ao cc co hc ho h1 h2 hR).mono fun v G' Ho _ ⟨q1, q2, q3⟩ => ?_
    exact ⟨⟨0, 0, [], []⟩, 80, none, none, 0, 0, [], [], q1, ⟨(if_neg hR).symm, (if_neg hR).symm⟩, OwnA.nil, OwnA.nil, q2, q3⟩
theorem c6F (G : Imm) (hT : TabOk G) (p : PV) (ac ao : Option Addr) (cc co : Nat) (hc : Arr G ac p.code) (ho : Arr G ao p.outs) (h1 : p.code.length ≤ 1048576) (h2 : p.outs.length ≤ 1048576) :
    Does Tryz.prog 6 [.agg #[.int .i64 p.ins, .int .i64 p.regs, .slice ac p.code.length cc, .slice ao p.outs.length co]] G [] (fun v G' Ho =>
      ∃ q e bc bo dc do_, v = .tuple #[.agg #[.int .i64 q.ins, .int .i64 q.regs, .slice bc q.code.length dc, .slice bo q.outs.length do_], .int .i64 e] ∧ (q = foldE p ∧ e = errP p) ∧ Arr G' bc q.code ∧ Arr G' bo q.outs ∧ Ho = []) := by
  refine (Does.frz2 (α := Sl.Instr) (β := Int) (E := 46) (E' := 3) (q := fun v a c xs b d ys => ∃ q e, v = .tuple #[.agg #[.int .i64 q.ins, .int .i64 q.regs, .slice a q.code.length c, .slice b q.outs.length d], .int .i64 e] ∧ (q = foldE p ∧ e = errP p) ∧ xs = q.code ∧ ys = q.outs)
    ((c6 G hT p ac ao cc co hc ho h1 h2).mono fun v G' Ho _ ⟨q, e, bc, bo, dc, do_, j1, j2, g1, g2, g3, g4, g5, g6⟩ => ⟨bc, dc, q.code, j1, bo, do_, q.outs, j2, ⟨q, e, g1, g2, rfl, rfl⟩, g3, g4, g5, g6⟩)).mono
    fun v G' Ho _ ⟨a, c, xs, b, d, ys, ⟨q, e, g1, g2, hx, hy⟩, h2, h3, h4⟩ => ?_
  subst hx hy
  exact ⟨q, e, a, b, c, d, g1, g2, h2, h3, h4⟩
end Go.Proofs.YtbppmiimeccclaaGreatDoor
set_option maxRecDepth 100000
namespace Go.Proofs.YtbppmiimeccclaaGreatDoor
open Go Go.Sl
/-- plain, does something, and does not melt with what lies below -/
def Good : List Sl.Instr → Prop
  | [] => True
  | b :: s => plainP b = b ∧ ¬ idle1 b = true ∧ (∀ a t, s = a :: t → ¬ (meltP a b).2 = true) ∧ Good s
theorem plain_may {i : Sl.Instr} {r : Int} (h : mayOk i r = true) : mayOk (plainP i) r = true := by
  have hc := plain_const (i := i) (may_const h)
  rw [mayOk_iff] at h
  obtain ⟨⟨h1, h2, h3, h4, h5, h6⟩, h7⟩ := h
  have hp := pow_range i.c
  by_cases e3 : i.op = 3
  · have e : plainP i = if i.a = i.b then ⟨7, i.to, i.a, 0, 1⟩ else i := by rw [plainP, if_pos e3]
    rw [e]
    split
    · rw [mayOk_iff]; simp; omega
    · rw [mayOk_iff]; exact ⟨⟨h1, h2, h3, h4, h5, h6⟩, h7⟩
  · by_cases h5' : i.op = 5 ∨ i.op = 6
    · have e : plainP i = (if i.c = 1 then ⟨1, i.to, i.a, 0, 0⟩ else if i.c = -1 then ⟨2, i.to, i.a, 0, 0⟩ else if powC i.c ≠ 0 then (if i.op = 5 then ⟨7, i.to, i.a, 0, powC i.c⟩ else ⟨8, i.to, i.a, 0, powC i.c⟩) else i) := by rw [plainP, if_neg e3, if_pos h5']
      rw [e]
      split
      · rw [mayOk_iff]; simp; omega
      split
      · rw [mayOk_iff]; simp; omega
      split
      · split
        · rw [mayOk_iff]; simp; omega
        · rw [mayOk_iff]; simp; omega
      · rw [mayOk_iff]; exact ⟨⟨h1, h2, h3, h4, h5, h6⟩, h7⟩
    · have e : plainP i = i := by rw [plainP, if_neg e3, if_neg h5']
      rw [e, mayOk_iff]; exact ⟨⟨h1, h2, h3, h4, h5, h6⟩, h7⟩
end Go.Proofs.YtbppmiimeccclaaGreatDoor
set_option maxRecDepth 100000
namespace Go.Proofs.YtbppmiimeccclaaGreatDoor
open Go Go.Sl
set_option maxHeartbeats 4000000
def exW : PV := ⟨1, 2, [⟨5, 1, 0, 0, 4⟩, ⟨6, 1, 1, 0, 2⟩, ⟨6, 1, 1, 0, -2⟩, ⟨2, 1, 1, 0, 0⟩], [1]⟩
def exW2 : PV := ⟨1, 2, [⟨1, 1, 0, 0, 0⟩], [1]⟩
theorem exW_right : rightP exW = true := by decide
theorem exW_fold : foldE exW = exW2 := by rw [foldE, if_pos exW_right]; rfl
theorem exW_err : errP exW = 0 := if_pos exW_right
theorem exW_plain : plainQ ⟨5, 1, 0, 0, 8⟩ = (⟨7, 1, 0, 0, 3⟩, true) := by decide
attribute [local irreducible] plainP meltP pushL foldTo foldP foldE errP rightP plainQ
theorem c4 (G : Imm) (hT : TabOk G) : Does Tryz.prog 4 [] G [] (fun v G' Ho => v = .bool true ∧ G' = G ∧ Ho = []) := by
  have hf := exW_fold
  have he := exW_err
  have hp := exW_plain
  refine Does.enter Tryz.func4 rfl Tryz.ntmps4 rfl (fun w => ?_)
  refine Wc.seq ?_
  refine Wc.region rfl ?_
  refine Wl.q rfl (Qy.assign rfl) ?_
  refine Wl.done ?_
  refine Ar.next ?_
  refine Wc.seq ?_
  refine Wc.region rfl ?_
  refine Wl.call0 rfl T.fn13 rfl (c13 _ _ _ _ _) ?_
  refine Wl.call0 rfl T.fn13 rfl (c13 _ _ _ _ _) ?_
  refine Wl.call0 rfl T.fn13 rfl (c13 _ _ _ _ _) ?_
  refine Wl.call0 rfl T.fn13 rfl (c13 _ _ _ _ _) ?_
  refine Wl.lit (α := Instr) 0 [(Go.Sl.Instr.mk 5 1 0 0 4), (Go.Sl.Instr.mk 6 1 1 0 2), (Go.Sl.Instr.mk 6 1 1 0 (-2)), (Go.Sl.Instr.mk 2 1 1 0 0)] rfl T.sl22 T.el46 rfl rfl rfl rfl rfl (fun b1 => ?_)
  refine Wl.lit (α := Int) 1 [(1)] rfl T.sl23 T.el3 rfl rfl rfl rfl rfl (fun b2 => ?_)
  refine Wl.q rfl (Qy.build (cs := [_, _, _, _]) T.st25 rfl rfl rfl) ?_
  refine Wl.alloc 2 rfl T.zero25 (fun b3 => ?_)
  refine Wl.storeAll 2 T.size25 rfl rfl rfl rfl rfl rfl ?_
  refine Wl.done ?_
  refine Ar.next ?_
  refine Wc.seq ?_
  refine Wc.region rfl ?_
  refine Wl.q rfl (Qy.loadAll 2 T.agg25 rfl rfl rfl) ?_
  refine Wl.freezeRow 0 rfl (OwnA.made (by simp [maxLen])) (fun G1 hle1 hA1 => Wl.freezeRow 1 rfl (OwnA.made (by simp [maxLen])) (fun G2 hle2 hA2 => ?_))
  replace hA1 := hA1.up hle2
  replace hT := (hT.up hle1).up hle2
  refine Wl.call 20 rfl T.fn6 rfl (c6F _ hT exW _ _ _ _ hA1 hA2 (by decide) (by decide)) (tags_of trivial) (fun v3 G3 Ho3 hle3 hp => ?_)
  obtain ⟨_, _, qc3, qo3, qcc3, qoc3, rfl, ⟨rfl, rfl⟩, hqc3, hqo3, rfl⟩ := hp
  replace hT := hT.up hle3
  refine Wl.q rfl (Qy.move rfl) ?_
  refine Wl.q rfl (Qy.extract rfl rfl) ?_
  refine Wl.q rfl (Qy.extract rfl rfl) ?_
  refine Wl.alloc 3 rfl T.zero25 (fun b4 => ?_)
  refine Wl.storeAll 3 T.size25 rfl rfl rfl rfl rfl rfl ?_
  refine Wl.q rfl (Qy.assign rfl) ?_
  refine Wl.done ?_
  refine Ar.next ?_
  refine Wc.seq ?_
  refine Wc.region rfl ?_
  refine Wl.call0 rfl T.fn13 rfl (c13 _ _ _ _ _) ?_
  refine Wl.call0 rfl T.fn14 rfl (c14 _ (by assumption) _) ?_
  refine Wl.q rfl (Qy.move rfl) ?_
  refine Wl.q rfl (Qy.extract rfl rfl) ?_
  refine Wl.q rfl (Qy.extract rfl rfl) ?_
  refine Wl.alloc 4 rfl T.zero46 (fun b5 => ?_)
  refine Wl.storeAll 4 T.size46 rfl rfl rfl rfl rfl rfl ?_
  refine Wl.q rfl (Qy.assign rfl) ?_
  refine Wl.done ?_
  refine Ar.next ?_
  refine Wc.seq ?_
  refine Wc.draw [2, 3, 4] [] T.mixed rfl ?_
  refine Gm.q 0 [] (by kernel_rfl) rfl rfl (Qy.move rfl) ?_
  refine Gm.q 1 [] (by kernel_rfl) rfl rfl (Qy.eql rfl rfl) ?_
  refine Gm.q 2 [] (by kernel_rfl) rfl rfl (Qy.move rfl) ?_
  refine Gm.yes 25 rfl (by first | assumption | omega) ?_
  refine Gm.qYes 3 [3] (by kernel_rfl) rfl rfl rfl rfl (Qy.loadAll 3 T.agg25 rfl rfl rfl) ?_
  refine Gm.two 4 6 ⟨rfl, rfl, rfl, trivial⟩ (by first | exact Imm.le_refl _ | assumption) (by kernel_rfl) rfl rfl ?_ ?_
  refine Wl.want rfl rfl ?_
  refine Wl.call0 rfl T.fn13 rfl (c13 _ _ _ _ _) ?_
  refine Wl.on0 ?_
  refine Gm.two 5 6 ⟨rfl, rfl, rfl, trivial⟩ (by first | exact Imm.le_refl _ | assumption) (by kernel_rfl) rfl rfl ?_ ?_
  refine Wl.want rfl rfl ?_
  refine Wl.lit (α := Instr) 5 [(Go.Sl.Instr.mk 1 1 0 0 0)] rfl T.sl22 T.el46 rfl rfl rfl rfl rfl (fun b6 => ?_)
  refine Wl.on0 ?_
  refine Gm.one 6 ⟨rfl, rfl, rfl, trivial⟩ (by first | exact Imm.le_refl _ | assumption) (by kernel_rfl) rfl ?_
  refine Wl.want rfl rfl ?_
  refine Wl.lit (α := Int) 6 [(1)] rfl T.sl23 T.el3 rfl rfl rfl rfl rfl (fun b7 => ?_)
  refine Wl.on0 ?_
  refine Gm.qYes 7 [] (by kernel_rfl) rfl rfl rfl rfl (Qy.build (cs := [_, _, _, _]) T.st25 rfl rfl rfl) ?_
  refine Gm.one 8 ⟨rfl, rfl, rfl, trivial⟩ (by first | exact Imm.le_refl _ | assumption) (by kernel_rfl) rfl ?_
  refine Wl.want rfl rfl ?_
  rotate_left
  refine Wl.want rfl rfl ?_
  refine Wl.lit (α := Int) 5 [(1)] rfl T.sl23 T.el3 rfl rfl rfl rfl rfl (fun b6 => ?_)
  refine Wl.on0 ?_
  refine Gm.one 5 ⟨rfl, rfl, rfl, trivial⟩ (by first | exact Imm.le_refl _ | assumption) (by kernel_rfl) rfl ?_
  refine Wl.want rfl rfl ?_
  refine Wl.lit (α := Instr) 6 [(Go.Sl.Instr.mk 1 1 0 0 0)] rfl T.sl22 T.el46 rfl rfl rfl rfl rfl (fun b7 => ?_)
  refine Wl.on0 ?_
  refine Gm.qYes 7 [] (by kernel_rfl) rfl rfl rfl rfl (Qy.build (cs := [_, _, _, _]) T.st25 rfl rfl rfl) ?_
  refine Gm.one 8 ⟨rfl, rfl, rfl, trivial⟩ (by first | exact Imm.le_refl _ | assumption) (by kernel_rfl) rfl ?_
  refine Wl.want rfl rfl ?_
  rotate_left
  refine Wl.want rfl rfl ?_
  refine Wl.lit (α := Int) 5 [(1)] rfl T.sl23 T.el3 rfl rfl rfl rfl rfl (fun b6 => ?_)
  refine Wl.on0 ?_
  refine Gm.one 4 ⟨rfl, rfl, rfl, trivial⟩ (by first | exact Imm.le_refl _ | assumption) (by kernel_rfl) rfl ?_
  refine Wl.want rfl rfl ?_
  refine Wl.call0 rfl T.fn13 rfl (c13 _ _ _ _ _) ?_
  refine Wl.on0 ?_
  refine Gm.one 5 ⟨rfl, rfl, rfl, trivial⟩ (by first | exact Imm.le_refl _ | assumption) (by kernel_rfl) rfl ?_
  refine Wl.want rfl rfl ?_
  refine Wl.lit (α := Instr) 6 [(Go.Sl.Instr.mk 1 1 0 0 0)] rfl T.sl22 T.el46 rfl rfl rfl rfl rfl (fun b7 => ?_)
  refine Wl.on0 ?_
  refine Gm.qYes 7 [] (by kernel_rfl) rfl rfl rfl rfl (Qy.build (cs := [_, _, _, _]) T.st25 rfl rfl rfl) ?_
  refine Gm.one 8 ⟨rfl, rfl, rfl, trivial⟩ (by first | exact Imm.le_refl _ | assumption) (by kernel_rfl) rfl ?_
  refine Wl.want rfl rfl ?_
  rotate_left
  · refine Wl.callB 30 rfl T.fn15 rfl (fun Gx hGx hgx => c15 Gx (foldE exW) exW2 _ _ _ _ _ _ _ _ (hqc3.up hGx) (hqo3.up hGx) (Arr.own hgx 5 rfl (OwnA.made (by simp [maxLen, exW2]))) (Arr.own hgx 6 rfl (OwnA.made (by simp [maxLen, exW2]))) (by rw [hf]; decide) (by rw [hf]; decide)) (fun v5 Gx5 G5 Ho5 hlx5 hp5 => ?_)
    obtain ⟨rfl, rfl, rfl⟩ := hp5
    refine Wl.on0 ?_
    refine Gm.q 9 [] (by kernel_rfl) rfl rfl (Qy.pick rfl rfl) ?_
    refine Gm.q 10 [] (by kernel_rfl) rfl rfl (Qy.move rfl) ?_
    refine Gm.yes 33 rfl (by first | assumption | omega) ?_
    refine Gm.qYes 11 [] (by kernel_rfl) rfl rfl rfl rfl (Qy.move rfl) ?_
    refine Gm.q 12 [] (by kernel_rfl) rfl rfl (Qy.pick rfl rfl) ?_
    refine Gm.q 13 [] (by kernel_rfl) rfl rfl (Qy.move rfl) ?_
    refine Gm.casesB 36 rfl (fun hg1 => ?_) (fun hg1 => ?_)
    refine Gm.qYes 14 [4] (by kernel_rfl) rfl rfl rfl rfl (Qy.loadAll 4 T.agg46 rfl rfl rfl) ?_
    refine Gm.one 15 ⟨rfl, rfl, rfl, trivial⟩ (by first | exact Imm.le_refl _ | assumption) (by kernel_rfl) rfl ?_
    refine Wl.want rfl rfl ?_
    refine Wl.call0 rfl T.fn13 rfl (c13 _ _ _ _ _) ?_
    refine Wl.on0 ?_
    refine Gm.qYes 16 [] (by kernel_rfl) rfl rfl rfl rfl (Qy.eqlInstr T.ai46 rfl rfl) ?_
    refine Gm.q 17 [] (by kernel_rfl) rfl rfl (Qy.pick rfl rfl) ?_
    refine Gm.q 18 [] (by kernel_rfl) rfl rfl (Qy.assign rfl) ?_
    refine Gm.doneA (by kernel_rfl) ⟨rfl, rfl, rfl, trivial⟩ (by first | exact Imm.le_refl _ | assumption) ?_
    refine Ar.next ?_
    refine Wc.ret ?_
    rotate_left
    refine Gm.qNo 14 (by kernel_rfl) rfl rfl rfl rfl ?_
    refine Gm.qNo 15 (by kernel_rfl) rfl rfl rfl rfl ?_
    refine Gm.qNo 16 (by kernel_rfl) rfl rfl rfl rfl ?_
    refine Gm.q 17 [] (by kernel_rfl) rfl rfl (Qy.pick rfl rfl) ?_
    refine Gm.q 18 [] (by kernel_rfl) rfl rfl (Qy.assign rfl) ?_
    refine Gm.doneA (by kernel_rfl) ⟨rfl, rfl, rfl, trivial⟩ (by first | exact Imm.le_refl _ | assumption) ?_
    refine Ar.next ?_
    refine Wc.ret ?_
    rotate_left
    all_goals refine Ar.base (Ar.out1 (.inr rfl) (Ho := []) rfl (.tmp rfl) trivial ?_)
    all_goals first
      | exact ⟨by simp_all, rfl, rfl⟩
      | (exfalso; simp_all)
  · refine Wl.callB 30 rfl T.fn15 rfl (fun Gx hGx hgx => c15 Gx (foldE exW) exW2 _ _ _ _ _ _ _ _ (hqc3.up hGx) (hqo3.up hGx) (Arr.own hgx 6 rfl (OwnA.made (by simp [maxLen, exW2]))) (Arr.own hgx 5 rfl (OwnA.made (by simp [maxLen, exW2]))) (by rw [hf]; decide) (by rw [hf]; decide)) (fun v5 Gx5 G5 Ho5 hlx5 hp5 => ?_)
    obtain ⟨rfl, rfl, rfl⟩ := hp5
    refine Wl.on0 ?_
    refine Gm.q 9 [] (by kernel_rfl) rfl rfl (Qy.pick rfl rfl) ?_
    refine Gm.q 10 [] (by kernel_rfl) rfl rfl (Qy.move rfl) ?_
    refine Gm.yes 33 rfl (by first | assumption | omega) ?_
    refine Gm.qYes 11 [] (by kernel_rfl) rfl rfl rfl rfl (Qy.move rfl) ?_
    refine Gm.q 12 [] (by kernel_rfl) rfl rfl (Qy.pick rfl rfl) ?_
    refine Gm.q 13 [] (by kernel_rfl) rfl rfl (Qy.move rfl) ?_
    refine Gm.casesB 36 rfl (fun hg1 => ?_) (fun hg1 => ?_)
    refine Gm.qYes 14 [4] (by kernel_rfl) rfl rfl rfl rfl (Qy.loadAll 4 T.agg46 rfl rfl rfl) ?_
    refine Gm.one 15 ⟨rfl, rfl, rfl, trivial⟩ (by first | exact Imm.le_refl _ | assumption) (by kernel_rfl) rfl ?_
    refine Wl.want rfl rfl ?_
    refine Wl.call0 rfl T.fn13 rfl (c13 _ _ _ _ _) ?_
    refine Wl.on0 ?_
    refine Gm.qYes 16 [] (by kernel_rfl) rfl rfl rfl rfl (Qy.eqlInstr T.ai46 rfl rfl) ?_
    refine Gm.q 17 [] (by kernel_rfl) rfl rfl (Qy.pick rfl rfl) ?_
    refine Gm.q 18 [] (by kernel_rfl) rfl rfl (Qy.assign rfl) ?_
    refine Gm.doneA (by kernel_rfl) ⟨rfl, rfl, rfl, trivial⟩ (by first | exact Imm.le_refl _ | assumption) ?_
    refine Ar.next ?_
    refine Wc.ret ?_
    rotate_left
    refine Gm.qNo 14 (by kernel_rfl) rfl rfl rfl rfl ?_
    refine Gm.qNo 15 (by kernel_rfl) rfl rfl rfl rfl ?_
    refine Gm.qNo 16 (by kernel_rfl) rfl rfl rfl rfl ?_
    refine Gm.q 17 [] (by kernel_rfl) rfl rfl (Qy.pick rfl rfl) ?_
    refine Gm.q 18 [] (by kernel_rfl) rfl rfl (Qy.assign rfl) ?_
    refine Gm.doneA (by kernel_rfl) ⟨rfl, rfl, rfl, trivial⟩ (by first | exact Imm.le_refl _ | assumption) ?_
    refine Ar.next ?_
    refine Wc.ret ?_
    rotate_left
    all_goals refine Ar.base (Ar.out1 (.inr rfl) (Ho := []) rfl (.tmp rfl) trivial ?_)
    all_goals first
      | exact ⟨by simp_all, rfl, rfl⟩
      | (exfalso; simp_all)
  · refine Wl.callB 30 rfl T.fn15 rfl (fun Gx hGx hgx => c15 Gx (foldE exW) exW2 _ _ _ _ _ _ _ _ (hqc3.up hGx) (hqo3.up hGx) (Arr.own hgx 6 rfl (OwnA.made (by simp [maxLen, exW2]))) (Arr.own hgx 5 rfl (OwnA.made (by simp [maxLen, exW2]))) (by rw [hf]; decide) (by rw [hf]; decide)) (fun v5 Gx5 G5 Ho5 hlx5 hp5 => ?_)
    obtain ⟨rfl, rfl, rfl⟩ := hp5
    refine Wl.on0 ?_
    refine Gm.q 9 [] (by kernel_rfl) rfl rfl (Qy.pick rfl rfl) ?_
    refine Gm.q 10 [] (by kernel_rfl) rfl rfl (Qy.move rfl) ?_
    refine Gm.yes 33 rfl (by first | assumption | omega) ?_
    refine Gm.qYes 11 [] (by kernel_rfl) rfl rfl rfl rfl (Qy.move rfl) ?_
    refine Gm.q 12 [] (by kernel_rfl) rfl rfl (Qy.pick rfl rfl) ?_
    refine Gm.q 13 [] (by kernel_rfl) rfl rfl (Qy.move rfl) ?_
    refine Gm.casesB 36 rfl (fun hg1 => ?_) (fun hg1 => ?_)
    refine Gm.qYes 14 [4] (by kernel_rfl) rfl rfl rfl rfl (Qy.loadAll 4 T.agg46 rfl rfl rfl) ?_
    refine Gm.one 15 ⟨rfl, rfl, rfl, trivial⟩ (by first | exact Imm.le_refl _ | assumption) (by kernel_rfl) rfl ?_
    refine Wl.want rfl rfl ?_
    refine Wl.call0 rfl T.fn13 rfl (c13 _ _ _ _ _) ?_
    refine Wl.on0 ?_
    refine Gm.qYes 16 [] (by kernel_rfl) rfl rfl rfl rfl (Qy.eqlInstr T.ai46 rfl rfl) ?_
    refine Gm.q 17 [] (by kernel_rfl) rfl rfl (Qy.pick rfl rfl) ?_
    refine Gm.q 18 [] (by kernel_rfl) rfl rfl (Qy.assign rfl) ?_
    refine Gm.doneA (by kernel_rfl) ⟨rfl, rfl, rfl, trivial⟩ (by first | exact Imm.le_refl _ | assumption) ?_
    refine Ar.next ?_
    refine Wc.ret ?_
    rotate_left
    refine Gm.qNo 14 (by kernel_rfl) rfl rfl rfl rfl ?_
    refine Gm.qNo 15 (by kernel_rfl) rfl rfl rfl rfl ?_
    refine Gm.qNo 16 (by kernel_rfl) rfl rfl rfl rfl ?_
    refine Gm.q 17 [] (by kernel_rfl) rfl rfl (Qy.pick rfl rfl) ?_
    refine Gm.q 18 [] (by kernel_rfl) rfl rfl (Qy.assign rfl) ?_
    refine Gm.doneA (by kernel_rfl) ⟨rfl, rfl, rfl, trivial⟩ (by first | exact Imm.le_refl _ | assumption) ?_
    refine Ar.next ?_
    refine Wc.ret ?_
    rotate_left
    all_goals refine Ar.base (Ar.out1 (.inr rfl) (Ho := []) rfl (.tmp rfl) trivial ?_)
    all_goals first
      | exact ⟨by simp_all, rfl, rfl⟩
      | (exfalso; simp_all)
end Go.Proofs.YtbppmiimeccclaaGreatDoor
set_option maxRecDepth 100000
namespace Go.Proofs.YtbppmiimeccclaaGreatDoor
open Go Go.Sl
theorem tog_range {f c s d : Int} (hs : 1 ≤ s ∧ s ≤ 8 ∧ ¬ (s = 3 ∨ s = 4)) (ho : (togP f c s d).2.2 = true) : 1 ≤ (togP f c s d).1 ∧ (togP f c s d).1 ≤ 8 ∧ ¬ ((togP f c s d).1 = 3 ∨ (togP f c s d).1 = 4) := by
  unfold togP at ho ⊢
  repeat' split
  all_goals first
    | exact hs
    | (simp only []; omega)
    | simp_all
theorem melt_may {a b : Sl.Instr} {r : Int} (ha : mayOk a r = true) (hb : mayOk b r = true) (h : (meltP a b).2 = true) : mayOk (meltP a b).1 r = true := by
  have ht := tog_const (f := a.op) (c := a.c) (s := b.op) (d := b.c) (may_const ha) (may_const hb)
  rw [mayOk_iff] at ha hb
  obtain ⟨⟨a1, a2, a3, a4, a5, a6⟩, a7⟩ := ha
  obtain ⟨⟨b1, b2, b3, b4, b5, b6⟩, b7⟩ := hb
  unfold meltP at h ⊢
  split at h
  · cases h
  · rename_i hn
    rw [if_neg hn]
    split at h
    · rename_i hy
      rw [if_pos hy]
      refine plain_may ?_
      rcases ht with ht | ht
      · have hop : 1 ≤ (togP a.op a.c b.op b.c).1 ∧ (togP a.op a.c b.op b.c).1 ≤ 8 ∧ ¬ ((togP a.op a.c b.op b.c).1 = 3 ∨ (togP a.op a.c b.op b.c).1 = 4) := tog_range (by omega) hy
        rw [mayOk_iff]
        refine ⟨⟨hop.1, hop.2.1, b3, b4, a5, a6⟩, ?_⟩
        rw [if_neg hop.2.2]
        refine ⟨rfl, ?_⟩
        unfold constOk at ht
        repeat' split at ht
        all_goals simp_all
      · rw [hy] at ht; cases ht
    · cases h
end Go.Proofs.YtbppmiimeccclaaGreatDoor
set_option maxRecDepth 100000
set_option linter.unusedVariables false
namespace Go.Proofs.YtbppmiimeccclaaGreatDoor
open Go Go.Sl
set_option maxHeartbeats 4000000
theorem right_of {p : PV} (hh : headOk p = true) (hm : ∀ i ∈ p.code, mayOk i p.regs = true) : rightP p = true := by
  have hb : badAt p = none := by
    unfold badAt
    rw [List.findIdx?_eq_none_iff]
    intro i hi
    simp [hm i hi]
  unfold rightP checkP
  rw [hh, hb]; rfl
theorem right_head {p : PV} (hR : rightP p = true) : headOk p = true := by
  have h : (checkP p).2 = false := by simpa [rightP] using hR
  unfold checkP at h
  split at h
  · cases h
  · rename_i hn; simpa using hn
theorem fold_right {p : PV} (hR : rightP p = true) : rightP (foldP p) = true := by
  have hh := right_head hR
  have hl := fold_len p
  refine right_of ?_ ?_
  · unfold headOk at hh ⊢
    rw [Bool.and_eq_true, decide_eq_true_eq] at hh ⊢
    obtain ⟨⟨h1, h2, h3, h4, h5, h6⟩, h7⟩ := hh
    exact ⟨⟨h1, h2, h3, by omega, h5, h6⟩, h7⟩
  · intro i hi
    exact fold_all (q := fun i => mayOk i p.regs = true) (fun a b ha hb h => melt_may ha hb h) (fun i h => plain_may h) p.code (right_codes hR) i (List.mem_reverse.1 hi)
theorem c6RF (G : Imm) (hT : TabOk G) (p : PV) (ac ao : Option Addr) (cc co : Nat) (hc : Arr G ac p.code) (ho : Arr G ao p.outs) (h1 : p.code.length ≤ 1048576) (h2 : p.outs.length ≤ 1048576) (hR : rightP p = true) :
    Does Tryz.prog 6 [.agg #[.int .i64 p.ins, .int .i64 p.regs, .slice ac p.code.length cc, .slice ao p.outs.length co]] G [] (fun v G' Ho =>
      ∃ bc bo dc do_, v = .tuple #[.agg #[.int .i64 p.ins, .int .i64 p.regs, .slice bc (foldP p).code.length dc, .slice bo p.outs.length do_], .int .i64 0] ∧ Arr G' bc (foldP p).code ∧ Arr G' bo p.outs ∧ Ho = []) := by
  refine (c6F G hT p ac ao cc co hc ho h1 h2).mono fun v G' Ho _ ⟨q, e, bc, bo, dc, do_, g1, ⟨g2, g3⟩, g4, g5, g6⟩ => ?_
  have e1 : q = foldP p := by rw [g2, foldE, if_pos hR]
  have e2 : e = 0 := by rw [g3, errP, if_pos hR]
  subst e1 e2
  exact ⟨bc, bo, dc, do_, g1, g4, g5, g6⟩
attribute [local irreducible] plainP meltP pushL foldTo foldP foldE errP rightP plainQ
end Go.Proofs.YtbppmiimeccclaaGreatDoor
set_option linter.unusedVariables false
namespace Go.Proofs.YtbppmiimeccclaaGreatDoor
open Go Go.Sl
/-- what an operation multiplies or divides by -/
def ucst (op c : Int) : Int := if op = 5 ∨ op = 6 then c else p2 c.toNat
/-- what an operation of one register does -/
def uZ (op c x : Int) : Option Int :=
  if op = 2 then some (-x) else if op = 5 ∨ op = 7 then some (x * ucst op c) else if op = 6 ∨ op = 8 then (if x % ucst op c = 0 then some (x / ucst op c) else none) else some x
/-- .. as a relation -/
def uR (op c x q : Int) : Prop := if op = 2 then q = -x else if op = 5 ∨ op = 7 then q = x * ucst op c else if op = 6 ∨ op = 8 then q * ucst op c = x else q = x
theorem uR1 (c x q : Int) : uR 1 c x q ↔ q = x := by unfold uR; simp
theorem uR2 (c x q : Int) : uR 2 c x q ↔ q = -x := by unfold uR; simp
theorem uR5 (c x q : Int) : uR 5 c x q ↔ q = x * c := by unfold uR ucst; simp
theorem uR6 (c x q : Int) : uR 6 c x q ↔ q * c = x := by unfold uR ucst; simp
theorem uR7 (c x q : Int) : uR 7 c x q ↔ q = x * p2 c.toNat := by unfold uR ucst; simp
theorem uR8 (c x q : Int) : uR 8 c x q ↔ q * p2 c.toNat = x := by unfold uR ucst; simp
theorem ex_iff {x y q : Int} (hy : y ≠ 0) : (if x % y = 0 then some (x / y) else none) = some q ↔ q * y = x := by
  by_cases h : x % y = 0
  · rw [if_pos h, Option.some.injEq]
    have e := Int.ediv_mul_cancel (Int.dvd_of_emod_eq_zero h)
    constructor
    · rintro rfl; exact e
    · intro h2
      rw [← h2, Int.mul_ediv_cancel _ hy]
  · rw [if_neg h]
    constructor
    · intro h2; cases h2
    · intro h2
      exact absurd (by rw [← h2]; exact Int.mul_emod_left q y) h
theorem uZ_iff {op c x q : Int} (h : op = 6 ∨ op = 8 → ucst op c ≠ 0) : uZ op c x = some q ↔ uR op c x q := by
  unfold uZ uR
  by_cases h2 : op = 2
  · rw [if_pos h2, if_pos h2, Option.some.injEq]; exact eq_comm
  · rw [if_neg h2, if_neg h2]
    by_cases h5 : op = 5 ∨ op = 7
    · rw [if_pos h5, if_pos h5, Option.some.injEq]; exact eq_comm
    · rw [if_neg h5, if_neg h5]
      by_cases h6 : op = 6 ∨ op = 8
      · rw [if_pos h6, if_pos h6]; exact ex_iff (h h6)
      · rw [if_neg h6, if_neg h6, Option.some.injEq]; exact eq_comm
theorem const_ucst {op c : Int} (h : constOk op c = true) : op = 6 ∨ op = 8 → ucst op c ≠ 0 := by
  intro ho
  unfold ucst
  split
  · rename_i h5
    exact const_zero h h5
  · have := p2_pos c.toNat; omega
theorem p2_toNat {c d : Int} (hc : 0 ≤ c) (hd : 0 ≤ d) : p2 (c + d).toNat = p2 c.toNat * p2 d.toNat := by
  rw [Int.toNat_add hc hd, p2_add]
theorem mul_right_cancel' {a b c : Int} (hc : c ≠ 0) (h : a * c = b * c) : a = b := Int.eq_of_mul_eq_mul_right hc h
/-- two operations that are made one -/
theorem tog_sem {f c s d o e : Int} (h : togP f c s d = (o, e, true)) (hc : constOk f c = true) (hd : constOk s d = true) (x q : Int) : (∃ y, uR f c x y ∧ uR s d y q) ↔ uR o e x q := by
  unfold togP at h
  by_cases f1 : f = 1
  · subst f1
    rw [if_pos rfl] at h
    cases h
    simp only [uR1]
    exact ⟨fun ⟨y, h1, h2⟩ => h1 ▸ h2, fun h2 => ⟨x, rfl, h2⟩⟩
  rw [if_neg f1] at h
  by_cases f2 : f = 2
  · subst f2
    rw [if_pos rfl] at h
    simp only [uR2]
    by_cases s1 : s = 1
    · subst s1
      rw [if_pos rfl] at h; cases h
      simp only [uR1, uR2]
      exact ⟨fun ⟨y, h1, h2⟩ => by rw [h2, h1], fun h2 => ⟨_, rfl, h2⟩⟩
    rw [if_neg s1] at h
    by_cases s2 : s = 2
    · subst s2
      rw [if_pos rfl] at h; cases h
      simp only [uR1, uR2]
      exact ⟨fun ⟨y, h1, h2⟩ => by omega, fun h2 => ⟨_, rfl, by omega⟩⟩
    rw [if_neg s2] at h
    by_cases s5 : s = 5 ∨ s = 6
    · rw [if_pos s5] at h
      rcases s5 with rfl | rfl
      · cases h
        simp only [uR5]
        exact ⟨fun ⟨y, h1, h2⟩ => by rw [h2, h1, Int.neg_mul, Int.mul_neg], fun h2 => ⟨_, rfl, by rw [h2, Int.neg_mul, Int.mul_neg]⟩⟩
      · cases h
        simp only [uR6]
        exact ⟨fun ⟨y, h1, h2⟩ => by rw [Int.mul_neg, h2, h1, Int.neg_neg], fun h2 => ⟨_, rfl, by rw [← h2, Int.mul_neg, Int.neg_neg]⟩⟩
    · rw [if_neg s5] at h; cases h
  rw [if_neg f2] at h
  by_cases f5 : f = 5
  · subst f5
    rw [if_pos rfl] at h
    have hc0 := const_zero hc (.inl rfl)
    simp only [uR5]
    by_cases s2 : s = 2
    · subst s2
      rw [if_pos rfl] at h; cases h
      simp only [uR2, uR5]
      exact ⟨fun ⟨y, h1, h2⟩ => by rw [h2, h1, Int.mul_neg], fun h2 => ⟨_, rfl, by rw [h2, Int.mul_neg]⟩⟩
    rw [if_neg s2] at h
    by_cases s5 : s = 5 ∧ -512 ≤ c * d ∧ c * d ≤ 512
    · rw [if_pos s5] at h
      obtain ⟨rfl, _⟩ := s5
      cases h
      simp only [uR5]
      exact ⟨fun ⟨y, h1, h2⟩ => by rw [h2, h1, Int.mul_assoc], fun h2 => ⟨_, rfl, by rw [h2, Int.mul_assoc]⟩⟩
    rw [if_neg s5] at h
    by_cases s6 : s = 6 ∧ c.tmod d = 0
    · rw [if_pos s6] at h
      obtain ⟨rfl, hm⟩ := s6
      have hd0 := const_zero hd (.inr rfl)
      cases h
      have hcd : c.tdiv d * d = c := Int.tdiv_mul_cancel (Int.dvd_of_tmod_eq_zero hm)
      simp only [uR5, uR6]
      constructor
      · rintro ⟨y, h1, h2⟩
        refine mul_right_cancel' hd0 ?_
        rw [h2, h1, Int.mul_assoc, hcd]
      · intro h2
        exact ⟨_, rfl, by rw [h2, Int.mul_assoc, hcd]⟩
    rw [if_neg s6] at h
    by_cases s7 : s = 6 ∧ d.tmod c = 0
    · rw [if_pos s7] at h
      obtain ⟨rfl, hm⟩ := s7
      cases h
      have hcd : d.tdiv c * c = d := Int.tdiv_mul_cancel (Int.dvd_of_tmod_eq_zero hm)
      simp only [uR6]
      constructor
      · rintro ⟨y, h1, h2⟩
        refine mul_right_cancel' hc0 ?_
        rw [Int.mul_assoc, hcd, h2, h1]
      · intro h2
        refine ⟨_, rfl, ?_⟩
        rw [← h2, Int.mul_assoc, hcd]
    · rw [if_neg s7] at h; cases h
  rw [if_neg f5] at h
  by_cases f6 : f = 6
  · subst f6
    rw [if_pos rfl] at h
    simp only [uR6]
    by_cases s2 : s = 2
    · subst s2
      rw [if_pos rfl] at h; cases h
      simp only [uR2, uR6]
      exact ⟨fun ⟨y, h1, h2⟩ => by rw [h2, Int.neg_mul_neg, h1], fun h2 => ⟨-q, by rw [← h2, Int.mul_neg, Int.neg_mul], by omega⟩⟩
    rw [if_neg s2] at h
    by_cases s6 : s = 6 ∧ -512 ≤ c * d ∧ c * d ≤ 512
    · rw [if_pos s6] at h
      obtain ⟨rfl, _⟩ := s6
      cases h
      simp only [uR6]
      exact ⟨fun ⟨y, h1, h2⟩ => by rw [← h1, ← h2, Int.mul_assoc, Int.mul_comm d c], fun h2 => ⟨q * d, by rw [← h2, Int.mul_assoc, Int.mul_comm d c], rfl⟩⟩
    · rw [if_neg s6] at h; cases h
  rw [if_neg f6] at h
  by_cases f7 : f = 7
  · subst f7
    rw [if_pos rfl] at h
    have hc1 := const_shift hc (.inl rfl)
    simp only [uR7]
    by_cases s7 : s = 7 ∧ c + d ≤ 64
    · rw [if_pos s7] at h
      obtain ⟨rfl, _⟩ := s7
      have hd1 := const_shift hd (.inl rfl)
      cases h
      simp only [uR7]
      rw [p2_toNat (by omega) (by omega)]
      exact ⟨fun ⟨y, h1, h2⟩ => by rw [h2, h1, Int.mul_assoc], fun h2 => ⟨_, rfl, by rw [h2, Int.mul_assoc]⟩⟩
    rw [if_neg s7] at h
    by_cases s8 : s ≠ 8
    · rw [if_pos s8] at h; cases h
    rw [if_neg s8] at h
    have s8' : s = 8 := by omega
    subst s8'
    have hd1 := const_shift hd (.inr rfl)
    have pc := p2_pos c.toNat
    have pd := p2_pos d.toNat
    simp only [uR8]
    by_cases e1 : c = d
    · rw [if_pos e1] at h; cases h
      subst e1
      simp only [uR1]
      exact ⟨fun ⟨y, h1, h2⟩ => mul_right_cancel' (show p2 c.toNat ≠ 0 by omega) (by rw [h2, h1]), fun h2 => ⟨_, rfl, by rw [h2]⟩⟩
    rw [if_neg e1] at h
    by_cases e2 : d < c
    · rw [if_pos e2] at h; cases h
      simp only [uR7]
      have hp : p2 c.toNat = p2 (c - d).toNat * p2 d.toNat := by
        rw [← p2_toNat (by omega) (by omega)]
        congr 2; omega
      constructor
      · rintro ⟨y, h1, h2⟩
        refine mul_right_cancel' (show p2 d.toNat ≠ 0 by omega) ?_
        rw [h2, h1, Int.mul_assoc, ← hp]
      · intro h2
        exact ⟨_, rfl, by rw [h2, Int.mul_assoc, ← hp]⟩
    · rw [if_neg e2] at h; cases h
      simp only [uR8]
      have hp : p2 d.toNat = p2 (d - c).toNat * p2 c.toNat := by
        rw [← p2_toNat (by omega) (by omega)]
        congr 2; omega
      constructor
      · rintro ⟨y, h1, h2⟩
        refine mul_right_cancel' (show p2 c.toNat ≠ 0 by omega) ?_
        rw [Int.mul_assoc, ← hp, h2, h1]
      · intro h2
        exact ⟨_, rfl, by rw [← h2, Int.mul_assoc, ← hp]⟩
  rw [if_neg f7] at h
  by_cases f8 : f = 8
  · subst f8
    rw [if_pos rfl] at h
    have hc1 := const_shift hc (.inr rfl)
    by_cases s8 : s = 8 ∧ c + d ≤ 64
    · rw [if_pos s8] at h
      obtain ⟨rfl, _⟩ := s8
      have hd1 := const_shift hd (.inr rfl)
      cases h
      simp only [uR8]
      rw [p2_toNat (by omega) (by omega)]
      exact ⟨fun ⟨y, h1, h2⟩ => by rw [← h1, ← h2, Int.mul_assoc, Int.mul_comm (p2 d.toNat)], fun h2 => ⟨q * p2 d.toNat, by rw [← h2, Int.mul_assoc, Int.mul_comm (p2 d.toNat)], rfl⟩⟩
    · rw [if_neg s8] at h; cases h
  · rw [if_neg f8] at h; cases h
/-- the plain form does the same -/
theorem doZ_plain (i : Sl.Instr) (rs : List Int) : doZ (plainP i) rs = doZ i rs := by
  obtain ⟨op, t, a, b, c⟩ := i
  unfold plainP
  simp only
  by_cases h3 : op = 3
  · subst h3
    rw [if_pos rfl]
    by_cases hab : a = b
    · subst hab
      rw [if_pos rfl]
      have e2 : p2 1 = 2 := by unfold p2; decide
      simp [doZ, cst, e2]
      omega
    · rw [if_neg hab]
  rw [if_neg h3]
  by_cases h5 : op = 5 ∨ op = 6
  · rw [if_pos h5]
    by_cases c1 : c = 1
    · subst c1
      rw [if_pos rfl]
      rcases h5 with rfl | rfl <;> simp [doZ, cst]
    rw [if_neg c1]
    by_cases c2 : c = -1
    · subst c2
      rw [if_pos rfl]
      rcases h5 with rfl | rfl
      · simp [doZ, cst]
      · simp [doZ, cst]
    rw [if_neg c2]
    by_cases hp : powC c ≠ 0
    · rw [if_pos hp]
      obtain ⟨m, m1, m2, m3, m4⟩ := pow_tw hp
      have ht : p2 (powC c).toNat = c := by rw [m4, Int.toNat_natCast, m3]; rfl
      rcases h5 with rfl | rfl
      · rw [if_pos rfl]
        simp [doZ, cst, ht]
      · rw [if_neg (by decide)]
        simp [doZ, cst, ht]
    · rw [if_neg hp]
  · rw [if_neg h5]
theorem plain_to (i : Sl.Instr) : (plainP i).to = i.to := by
  unfold plainP
  repeat' split
  all_goals rfl
theorem doZ_one {i : Sl.Instr} (h : ¬ (i.op = 3 ∨ i.op = 4)) (rs : List Int) : doZ i rs = uZ i.op i.c (rs[i.a.toNat]?.getD 0) := by
  unfold doZ uZ
  have h3 : ¬ i.op = 3 := fun e => h (.inl e)
  have h4 : ¬ i.op = 4 := fun e => h (.inr e)
  simp only [h3, h4, if_false]
  rfl
theorem tog_two {f c s d : Int} (h : (togP f c s d).2.2 = true) : ¬ (f = 3 ∨ f = 4) := by
  rintro (rfl | rfl) <;> simp [togP] at h
theorem tog_one {f c s d : Int} (hs : ¬ (s = 3 ∨ s = 4)) (h : (togP f c s d).2.2 = true) : ¬ ((togP f c s d).1 = 3 ∨ (togP f c s d).1 = 4) := by
  unfold togP at h ⊢
  repeat' split
  all_goals first
    | (simp; done)
    | (intro h9; simp at h9; omega)
    | simp_all
/-- what is good about an instruction, on the way -/
def tame (n : Nat) (i : Sl.Instr) : Prop := okC i ∧ i.to.toNat < n
theorem tame_plain {n : Nat} {i : Sl.Instr} (h : tame n i) : tame n (plainP i) := ⟨plain_const h.1, by rw [plain_to]; exact h.2⟩
theorem melt_to {a b : Sl.Instr} (h : (meltP a b).2 = true) : (meltP a b).1.to = a.to := by
  unfold meltP at h ⊢
  by_cases h1 : b.op = 3 ∨ b.op = 4 ∨ b.a ≠ a.to ∨ b.to ≠ a.to
  · rw [if_pos h1] at h; cases h
  rw [if_neg h1] at h ⊢
  by_cases hk : (togP a.op a.c b.op b.c).2.2 = true
  · rw [if_pos hk]
    show (plainP _).to = _
    rw [plain_to]
    show b.to = a.to
    omega
  · rw [if_neg hk] at h; cases h
theorem tame_melt {n : Nat} {a b : Sl.Instr} (ha : tame n a) (hb : tame n b) (h : (meltP a b).2 = true) : tame n (meltP a b).1 := ⟨melt_okC ha.1 hb.1 h, by rw [melt_to h]; exact ha.2⟩
theorem push_tame {n : Nat} (s : List Sl.Instr) (b : Sl.Instr) (hs : ∀ i ∈ s, tame n i) (hb : tame n b) : ∀ i ∈ pushP s b, tame n i :=
  push_all (q := tame n) (fun a b ha hb h => tame_melt ha hb h) s b hs hb
end Go.Proofs.YtbppmiimeccclaaGreatDoor
set_option linter.unusedVariables false
set_option linter.unusedSectionVars false
set_option linter.unusedSimpArgs false
namespace Go.Proofs.YtbppmiimeccclaaGreatDoor
open Go Go.Sl
section
variable {D : Type} [Inhabited D]
theorem runG_append (st : Sl.Instr → List D → Option D) (l m : List Sl.Instr) (rs : List D) : runG st (l ++ m) rs = (runG st l rs).bind (runG st m) := by
  induction l generalizing rs with
  | nil => rfl
  | cons i l ih =>
    show (st i rs).bind (fun x => runG st (l ++ m) (rs.set i.to.toNat x)) = ((st i rs).bind fun x => runG st l (rs.set i.to.toNat x)).bind (runG st m)
    cases st i rs with
    | none => rfl
    | some x => exact ih _
theorem set_selfG {l : List D} {k : Nat} : l.set k (l[k]?.getD default) = l := by
  apply List.ext_getElem?
  intro j
  rw [List.getElem?_set]
  by_cases h : k = j
  · subst h
    rw [if_pos rfl]
    by_cases hk : k < l.length
    · rw [if_pos hk, List.getElem?_eq_getElem hk]; rfl
    · rw [if_neg hk, List.getElem?_eq_none (by omega)]
  · rw [if_neg h]
/-- instructions of one register do g to what that holds -/
structure FoldG (st : Sl.Instr → List D → Option D) (g : Int → Int → D → Option D) (Ok : D → Prop) : Prop where
  dflt : Ok default
  ok : ∀ i rs x, okC i → (∀ d ∈ rs, Ok d) → st i rs = some x → Ok x
  one : ∀ i rs, ¬ (i.op = 3 ∨ i.op = 4) → st i rs = g i.op i.c (rs[i.a.toNat]?.getD default)
  move : ∀ c x, g 1 c x = some x
  tog : ∀ f c s d o e x, togP f c s d = (o, e, true) → constOk f c = true → constOk s d = true → ¬ (s = 3 ∨ s = 4) → Ok x → g o e x = (g f c x).bind (g s d)
  plain : ∀ i x, okC i → ¬ (i.op = 3 ∨ i.op = 4) → Ok x → g (plainP i).op (plainP i).c x = g i.op i.c x
  twice : ∀ i rs, i.op = 3 → i.a = i.b → (∀ d ∈ rs, Ok d) → st i rs = g 7 1 (rs[i.a.toNat]?.getD default)
theorem okAt {Ok : D → Prop} (h0 : Ok default) {rs : List D} (h : ∀ d ∈ rs, Ok d) (k : Nat) : Ok (rs[k]?.getD default) := by
  by_cases hk : k < rs.length
  · rw [List.getElem?_eq_getElem hk]; exact h _ (List.getElem_mem hk)
  · rw [List.getElem?_eq_none (by omega)]; exact h0
theorem okSet {Ok : D → Prop} {rs : List D} {x : D} {k : Nat} (h : ∀ d ∈ rs, Ok d) (hx : Ok x) : ∀ d ∈ rs.set k x, Ok d := fun d hd => by
  rcases List.mem_or_eq_of_mem_set hd with h1 | h1
  · exact h d h1
  · rw [h1]; exact hx
theorem plain_a {i : Sl.Instr} : (plainP i).a = i.a := by
  unfold plainP
  repeat' split
  all_goals rfl
theorem plain_op {i : Sl.Instr} (h : ¬ (i.op = 3 ∨ i.op = 4)) : ¬ ((plainP i).op = 3 ∨ (plainP i).op = 4) := by
  unfold plainP
  repeat' split
  all_goals first
    | exact h
    | (simp; done)
theorem plain_two {i : Sl.Instr} (h : i.op = 3 ∨ i.op = 4) : plainP i = i ∨ (i.op = 3 ∧ i.a = i.b ∧ plainP i = ⟨7, i.to, i.a, 0, 1⟩) := by
  unfold plainP
  by_cases h3 : i.op = 3
  · rw [if_pos h3]
    by_cases hab : i.a = i.b
    · rw [if_pos hab]; exact .inr ⟨h3, hab, rfl⟩
    · rw [if_neg hab]; exact .inl rfl
  · rw [if_neg h3, if_neg (by omega)]; exact .inl rfl
variable {st : Sl.Instr → List D → Option D} {g : Int → Int → D → Option D} {Ok : D → Prop}
theorem st_plain (F : FoldG st g Ok) {i : Sl.Instr} {rs : List D} (hi : okC i) (hr : ∀ d ∈ rs, Ok d) : st (plainP i) rs = st i rs := by
  by_cases h : i.op = 3 ∨ i.op = 4
  · rcases plain_two h with e | ⟨h3, hab, e⟩
    · rw [e]
    · rw [e, F.one _ _ (by simp), F.twice i rs h3 hab hr]
  · rw [F.one _ _ (plain_op h), F.one _ _ h, plain_a, F.plain i _ hi h (okAt F.dflt hr _)]
theorem idle_runG (F : FoldG st g Ok) {i : Sl.Instr} (h : idle1 i = true) (rs : List D) : runG st [i] rs = some rs := by
  unfold idle1 at h
  rw [decide_eq_true_eq] at h
  show (st i rs).bind (fun x => some (rs.set i.to.toNat x)) = some rs
  rw [F.one _ _ (by omega), h.1, F.move, Option.bind_some, h.2, set_selfG]
theorem melt_runG (F : FoldG st g Ok) {a b : Sl.Instr} {rs : List D} (hm : (meltP a b).2 = true) (ha : okC a) (hb : okC b) (ht : a.to.toNat < rs.length) (hr : ∀ d ∈ rs, Ok d) : runG st [(meltP a b).1] rs = runG st [a, b] rs := by
  unfold meltP at hm ⊢
  by_cases h : b.op = 3 ∨ b.op = 4 ∨ b.a ≠ a.to ∨ b.to ≠ a.to
  · rw [if_pos h] at hm; cases hm
  rw [if_neg h] at hm ⊢
  by_cases hk : (togP a.op a.c b.op b.c).2.2 = true
  · rw [if_pos hk]
    have b34 : ¬ (b.op = 3 ∨ b.op = 4) := by omega
    have a34 := tog_two hk
    have o34 := tog_one b34 hk
    have hba : b.a = a.to := by omega
    have hbt : b.to = a.to := by omega
    have hok : constOk (togP a.op a.c b.op b.c).1 (togP a.op a.c b.op b.c).2.1 = true := (tog_const ha hb).resolve_right (by rw [hk]; decide)
    have hsem := fun x hx => F.tog a.op a.c b.op b.c (togP a.op a.c b.op b.c).1 (togP a.op a.c b.op b.c).2.1 x (by rw [← hk]) ha hb b34 hx
    generalize (togP a.op a.c b.op b.c).1 = o at *
    generalize (togP a.op a.c b.op b.c).2.1 = e at *
    show (st (plainP ⟨o, b.to, a.a, 0, e⟩) rs).bind (fun x => some (rs.set (plainP ⟨o, b.to, a.a, 0, e⟩).to.toNat x)) = (st a rs).bind fun x => (st b (rs.set a.to.toNat x)).bind fun y => some ((rs.set a.to.toNat x).set b.to.toNat y)
    rw [st_plain F (i := ⟨o, b.to, a.a, 0, e⟩) (show okC _ from hok) hr, plain_to, F.one _ _ o34, F.one _ _ a34]
    have hget : ∀ y : D, (rs.set a.to.toNat y)[a.to.toNat]?.getD default = y := fun y => by rw [get_setG, if_pos ⟨rfl, ht⟩]
    simp only [F.one _ _ b34, hba, hbt, hget, List.set_set]
    rw [hsem _ (okAt F.dflt hr _)]
    cases g a.op a.c (rs[a.a.toNat]?.getD default) with
    | none => rfl
    | some y => rfl
  · rw [if_neg hk] at hm; cases hm
theorem runG_keep (F : FoldG st g Ok) : ∀ (l : List Sl.Instr) (rs r : List D), (∀ i ∈ l, okC i) → (∀ d ∈ rs, Ok d) → runG st l rs = some r → r.length = rs.length ∧ ∀ d ∈ r, Ok d
  | [], rs, r, _, hr, h => by cases h; exact ⟨rfl, hr⟩
  | i :: l, rs, r, hl, hr, h => by
    unfold runG at h
    obtain ⟨x, hx, h⟩ := Option.bind_eq_some_iff.1 h
    have := runG_keep F l _ _ (fun j hj => hl j (by simp [hj])) (okSet hr (F.ok i rs x (hl i (by simp)) hr hx)) h
    rw [List.length_set] at this
    exact this
theorem push_runG (F : FoldG st g Ok) {n : Nat} : ∀ (s : List Sl.Instr) (b : Sl.Instr) (rs : List D), rs.length = n → (∀ d ∈ rs, Ok d) → (∀ i ∈ s, tame n i) → tame n b → runG st (pushP s b).reverse rs = runG st (s.reverse ++ [b]) rs
  | [], b, rs, hn, hr, hs, hb => by
    unfold pushP
    by_cases hi : idle1 b = true
    · rw [if_pos hi]
      exact (idle_runG F hi rs).symm
    · rw [if_neg hi]; rfl
  | a :: s, b, rs, hn, hr, hs, hb => by
    unfold pushP
    by_cases hi : idle1 b = true
    · rw [if_pos hi, runG_append]
      cases h : runG st (a :: s).reverse rs with
      | none => rfl
      | some r => exact (idle_runG F hi r).symm
    rw [if_neg hi]
    by_cases hm : (meltP a b).2 = true
    · rw [if_pos hm, push_runG F s _ rs hn hr (fun i h => hs i (by simp [h])) (tame_melt (hs a (by simp)) hb hm)]
      rw [List.reverse_cons, List.append_assoc, runG_append, runG_append]
      cases h : runG st s.reverse rs with
      | none => rfl
      | some r =>
        rw [Option.bind_some, Option.bind_some]
        have hk := runG_keep F _ _ _ (fun i hi => (hs i (by rw [List.mem_reverse] at hi; simp [hi])).1) hr h
        exact melt_runG F hm (hs a (by simp)).1 hb.1 (by rw [hk.1, hn]; exact (hs a (by simp)).2) hk.2
    · rw [if_neg hm, List.reverse_cons]
theorem fold_runG_aux (F : FoldG st g Ok) {n : Nat} : ∀ (l s : List Sl.Instr) (rs : List D), rs.length = n → (∀ d ∈ rs, Ok d) → (∀ i ∈ l, tame n i) → (∀ i ∈ s, tame n i) → runG st (l.foldl (fun s i => pushP s (plainP i)) s).reverse rs = runG st (s.reverse ++ l) rs
  | [], s, rs, hn, hr, hl, hs => by rw [List.append_nil]; rfl
  | i :: l, s, rs, hn, hr, hl, hs => by
    have hti := tame_plain (hl i (by simp))
    rw [List.foldl_cons, fold_runG_aux F l _ rs hn hr (fun j h => hl j (by simp [h])) (push_tame s _ hs hti)]
    rw [runG_append, push_runG F s _ rs hn hr hs hti, runG_append, runG_append]
    cases h : runG st s.reverse rs with
    | none => rfl
    | some r =>
      rw [Option.bind_some, Option.bind_some]
      have hk := runG_keep F _ _ _ (fun i hi => (hs i (by rw [List.mem_reverse] at hi; exact hi)).1) hr h
      show (runG st [plainP i] r).bind (runG st l) = runG st (i :: l) r
      show ((st (plainP i) r).bind fun x => some (r.set (plainP i).to.toNat x)).bind (runG st l) = (st i r).bind fun x => runG st l (r.set i.to.toNat x)
      rw [st_plain F (hl i (by simp)).1 hk.2, plain_to]
      cases st i r <;> rfl
theorem fold_runG (F : FoldG st g Ok) {p : PV} (hR : rightP p = true) {rs : List D} (hn : rs.length = p.regs.toNat) (hr : ∀ d ∈ rs, Ok d) : runG st (foldP p).code rs = runG st p.code rs := by
  have ht : ∀ i ∈ p.code, tame p.regs.toNat i := fun i hi => by
    have hm := right_codes hR i hi
    have := (may_facts hm).2.1
    exact ⟨may_const hm, by omega⟩
  have h := fold_runG_aux F p.code [] rs hn hr ht (fun i h => by cases h)
  rw [List.reverse_nil, List.nil_append] at h
  exact h
end
/-- an operation done to each number of a row -/
def trZ (h : Int → Option Int) : List Int → Option (List Int)
  | [] => some []
  | x :: xs => (h x).bind fun y => (trZ h xs).map (y :: ·)
theorem trZ_some (h : Int → Int) (xs : List Int) : trZ (fun x => some (h x)) xs = some (xs.map h) := by
  induction xs with
  | nil => rfl
  | cons x xs ih =>
    show (trZ (fun x => some (h x)) xs).map (h x :: ·) = _
    rw [ih]; rfl
theorem trZ_bind {f s o : Int → Option Int} (h : ∀ x, o x = (f x).bind s) (xs : List Int) : trZ o xs = (trZ f xs).bind (trZ s) := by
  induction xs with
  | nil => rfl
  | cons x xs ih =>
    show (o x).bind (fun y => (trZ o xs).map (y :: ·)) = ((f x).bind fun y => (trZ f xs).map (y :: ·)).bind (trZ s)
    rw [h x, ih]
    cases f x with
    | none => rfl
    | some y =>
      show (s y).bind _ = ((trZ f xs).map (y :: ·)).bind (trZ s)
      cases trZ f xs with
      | none => cases s y <;> rfl
      | some ys => rfl
theorem div_nil (y : Int) : AllDiv y [] := fun i hi => absurd hi (Nat.not_lt_zero _)
theorem div_cons {y x : Int} {xs : List Int} : AllDiv y (x :: xs) ↔ x % y = 0 ∧ AllDiv y xs := by
  constructor
  · intro h
    exact ⟨by simpa using h 0 (by simp), fun i hi => by simpa using h (i + 1) (by simpa using hi)⟩
  · rintro ⟨h1, h2⟩ i hi
    cases i with
    | zero => simpa using h1
    | succ i => simpa using h2 i (by simpa using hi)
theorem trZ_div (y : Int) (xs : List Int) : trZ (fun x => if x % y = 0 then some (x / y) else none) xs = if AllDiv y xs then some (xs.map (· / y)) else none := by
  induction xs with
  | nil => rw [if_pos (div_nil y)]; rfl
  | cons x xs ih =>
    show (if x % y = 0 then some (x / y) else none).bind (fun z => (trZ (fun x => if x % y = 0 then some (x / y) else none) xs).map (z :: ·)) = _
    rw [ih]
    by_cases h1 : x % y = 0
    · rw [if_pos h1, Option.bind_some]
      by_cases h2 : AllDiv y xs
      · rw [if_pos h2, if_pos (div_cons.2 ⟨h1, h2⟩)]
        rfl
      · rw [if_neg h2, if_neg (fun h => h2 (div_cons.1 h).2)]
        rfl
    · rw [if_neg h1, if_neg (fun h => h1 (div_cons.1 h).1)]
      rfl
theorem doI_one {i : Sl.Instr} (h : ¬ (i.op = 3 ∨ i.op = 4)) (rs : List (List Int)) : doI i rs = trZ (uZ i.op i.c) (rs[i.a.toNat]?.getD default) := by
  have h3 : ¬ i.op = 3 := fun e => h (.inl e)
  have h4 : ¬ i.op = 4 := fun e => h (.inr e)
  show doI i rs = trZ (uZ i.op i.c) (rs[i.a.toNat]?.getD [])
  unfold doI
  simp only [h3, h4, if_false]
  by_cases h2 : i.op = 2
  · rw [if_pos h2]
    have e : uZ i.op i.c = fun x => some (-1 * x) := by funext x; unfold uZ; rw [if_pos h2]; congr 1; omega
    rw [e, trZ_some]
  rw [if_neg h2]
  by_cases h5 : i.op = 5 ∨ i.op = 7
  · rw [if_pos h5]
    have e : uZ i.op i.c = fun x => some (cst i * x) := by funext x; unfold uZ; rw [if_neg h2, if_pos h5, Int.mul_comm]; rfl
    rw [e, trZ_some]
  rw [if_neg h5]
  by_cases h6 : i.op = 6 ∨ i.op = 8
  · rw [if_pos h6]
    have e : uZ i.op i.c = fun x => if x % cst i = 0 then some (x / cst i) else none := by funext x; unfold uZ; rw [if_neg h2, if_neg h5, if_pos h6]; rfl
    rw [e, trZ_div]
  · rw [if_neg h6]
    have e : uZ i.op i.c = fun x => some x := by funext x; unfold uZ; rw [if_neg h2, if_neg h5, if_neg h6]
    rw [e, trZ_some, List.map_id']
theorem tog_bind {f c s d o e : Int} (h : togP f c s d = (o, e, true)) (hc : constOk f c = true) (hd : constOk s d = true) (x : Int) : uZ o e x = (uZ f c x).bind (uZ s d) := by
  have hok : constOk o e = true := by
    have := tog_const hc hd
    rw [h] at this
    exact this.resolve_right (fun h => Bool.noConfusion h)
  have key : ∀ q, uZ o e x = some q ↔ ∃ y, uZ f c x = some y ∧ uZ s d y = some q := fun q => by
    rw [uZ_iff (const_ucst hok), ← tog_sem h hc hd x q]
    constructor
    · rintro ⟨y, k1, k2⟩
      exact ⟨y, (uZ_iff (const_ucst hc)).2 k1, (uZ_iff (const_ucst hd)).2 k2⟩
    · rintro ⟨y, k1, k2⟩
      exact ⟨y, (uZ_iff (const_ucst hc)).1 k1, (uZ_iff (const_ucst hd)).1 k2⟩
  apply Option.ext
  intro q
  rw [key q, Option.bind_eq_some_iff]
theorem plain_uZ {i : Sl.Instr} (h : ¬ (i.op = 3 ∨ i.op = 4)) (x : Int) : uZ (plainP i).op (plainP i).c x = uZ i.op i.c x := by
  have e := doZ_plain i (List.replicate (i.a.toNat + 1) x)
  rw [doZ_one h, doZ_one (plain_op h), plain_a] at e
  have e2 : (List.replicate (i.a.toNat + 1) x)[i.a.toNat]?.getD 0 = x := by
    rw [List.getElem?_replicate, if_pos (by omega)]; rfl
  rw [e2] at e
  exact e
theorem foldI : FoldG doI (fun op c => trZ (uZ op c)) (fun _ => True) where
  dflt := trivial
  ok := fun _ _ _ _ _ _ => trivial
  one := fun i rs h => doI_one h rs
  move := fun c x => by
    have e : uZ 1 c = fun x => some x := by funext x; unfold uZ; simp
    show trZ (uZ 1 c) x = some x
    rw [e, trZ_some, List.map_id']
  tog := fun f c s d o e x h hc hd _ _ => trZ_bind (tog_bind h hc hd) x
  plain := fun i x hi h _ => by
    show trZ _ x = trZ _ x
    congr 1
    funext y
    exact plain_uZ h y
  twice := fun i rs h3 hab _ => by
    show doI i rs = trZ (uZ 7 1) (rs[i.a.toNat]?.getD [])
    have e : uZ 7 1 = fun x => some (x + 1 * x) := by funext x; unfold uZ ucst; simp; unfold p2; omega
    rw [e, trZ_some]
    unfold doI
    simp only [h3, ← hab]
    rw [if_neg (by decide), if_pos trivial]
    congr 1
    generalize rs[i.a.toNat]?.getD [] = xs
    induction xs with
    | nil => rfl
    | cons x xs ih => rw [List.zipWith_cons_cons, ih]; rfl
/-- the rows that the pass's program answers are the program's -/
theorem fold_follow {p : PV} (hR : rightP p = true) (gs : List (List Int)) : followP (foldP p) gs = followP p gs := by
  have hl : (regs0 p gs).length = p.regs.toNat := by unfold regs0; rw [List.length_map, List.length_range]
  have h := fold_runG foldI hR hl (fun _ _ => trivial)
  unfold followP
  rw [runTo_runG (foldP p) gs _ (Nat.le_refl _), runTo_runG p gs _ (Nat.le_refl _), List.take_length, List.take_length]
  show (runG doI (foldP p).code (regs0 p gs)).map (outsOf p) = _
  rw [h]
end Go.Proofs.YtbppmiimeccclaaGreatDoor
set_option linter.unusedVariables false
set_option linter.unusedSimpArgs false
namespace Go.Proofs.YtbppmiimeccclaaGreatDoor
open Go Go.Sl
/-- in lowest terms -/
def Nz (q : QZ) : Prop := 0 ≤ q.2 ∧ Int.gcd q.1 (q.2 + 1) = 1
theorem nz_zero : Nz (0, 0) := ⟨Int.le_refl _, by decide⟩
theorem nz_one : Nz (1, 0) := ⟨Int.le_refl _, by decide⟩
theorem nz_eq {q r : QZ} (hq : Nz q) (hr : Nz r) (h : q.1 * (r.2 + 1) = r.1 * (q.2 + 1)) : q = r := by
  obtain ⟨n, d⟩ := q
  obtain ⟨m, e⟩ := r
  obtain ⟨h1, h2⟩ := hq
  obtain ⟨h3, h4⟩ := hr
  simp only at *
  have g1 : Nat.Coprime (d + 1).natAbs n.natAbs := by rw [Nat.coprime_comm]; exact h2
  have g2 : Nat.Coprime (e + 1).natAbs m.natAbs := by rw [Nat.coprime_comm]; exact h4
  have ha : n.natAbs * (e + 1).natAbs = m.natAbs * (d + 1).natAbs := by rw [← Int.natAbs_mul, ← Int.natAbs_mul, h]
  have d1 : (d + 1).natAbs ∣ (e + 1).natAbs := g1.dvd_of_dvd_mul_left ⟨m.natAbs, by rw [ha, Nat.mul_comm]⟩
  have d2 : (e + 1).natAbs ∣ (d + 1).natAbs := g2.dvd_of_dvd_mul_left ⟨n.natAbs, by rw [← ha, Nat.mul_comm]⟩
  have hde := Nat.dvd_antisymm d1 d2
  have hd : d = e := by omega
  subst hd
  have hn : n = m := Int.eq_of_mul_eq_mul_right (by omega) h
  rw [hn]
theorem low_spec {n d : Int} (h : 0 < d) : Nz (lowQ n d) ∧ (lowQ n d).1 * d = n * ((lowQ n d).2 + 1) := by
  have hg : 0 < Int.gcd n d := Int.gcd_pos_of_ne_zero_right n (by omega)
  have hd : (Int.gcd n d : Int) ∣ d := Int.gcd_dvd_right _ _
  have hn : (Int.gcd n d : Int) ∣ n := Int.gcd_dvd_left _ _
  have hg' : (0 : Int) < (Int.gcd n d : Int) := by omega
  have e1 : d / (Int.gcd n d : Int) * (Int.gcd n d : Int) = d := Int.ediv_mul_cancel hd
  have e2 : n / (Int.gcd n d : Int) * (Int.gcd n d : Int) = n := Int.ediv_mul_cancel hn
  have e3 : Int.gcd (n / (Int.gcd n d : Int)) (d / (Int.gcd n d : Int)) = 1 := Int.gcd_ediv_gcd_ediv_gcd hg
  unfold Nz lowQ
  simp only
  generalize (Int.gcd n d : Int) = g at *
  generalize d / g = k at *
  generalize n / g = m at *
  have hk : 0 < k := by
    rcases Int.lt_or_le 0 k with h1 | h1
    · exact h1
    · have := Int.mul_nonpos_of_nonpos_of_nonneg h1 (Int.le_of_lt hg')
      omega
  refine ⟨⟨by omega, by rw [Int.sub_add_cancel]; exact e3⟩, ?_⟩
  rw [Int.sub_add_cancel, ← e1, ← e2, Int.mul_comm k g, Int.mul_assoc]
theorem make_spec {n d : Int} (h : d ≠ 0) : Nz (makeQ n d) ∧ (makeQ n d).1 * d = n * ((makeQ n d).2 + 1) := by
  unfold makeQ
  rw [if_neg h]
  split
  · obtain ⟨h1, h2⟩ := low_spec (n := -n) (d := -d) (by omega)
    refine ⟨h1, ?_⟩
    rw [Int.mul_neg, Int.neg_mul] at h2
    omega
  · exact low_spec (by omega)
/-- what an operation of one register multiplies by, a number over a number -/
def uvQ (op c : Int) : Int × Int := if op = 2 then (-1, 1) else if op = 5 ∨ op = 7 then (ucst op c, 1) else if op = 6 ∨ op = 8 then (1, ucst op c) else (1, 1)
theorem uR_uv {op c x q : Int} : uR op c x q ↔ q * (uvQ op c).2 = x * (uvQ op c).1 := by
  unfold uR uvQ
  split
  · simp only [Int.mul_one]; omega
  · split
    · simp only [Int.mul_one]
    · split <;> simp only [Int.mul_one]
theorem uv_ne {op c : Int} (h : constOk op c = true) : (uvQ op c).2 ≠ 0 := by
  have := const_ucst h
  unfold uvQ
  split
  · exact Int.one_ne_zero
  · split
    · exact Int.one_ne_zero
    · split
      · rename_i h6; exact this h6
      · exact Int.one_ne_zero
def uQ (op c : Int) (x : QZ) : QZ := doQ ⟨op, 0, 0, 0, c⟩ x (0, 0)
theorem uQ_spec {op c : Int} {x : QZ} (h : constOk op c = true) (h34 : ¬ (op = 3 ∨ op = 4)) (hx : Nz x) : Nz (uQ op c x) ∧ (uQ op c x).1 * ((x.2 + 1) * (uvQ op c).2) = x.1 * (uvQ op c).1 * ((uQ op c x).2 + 1) := by
  have hv := uv_ne h
  have hx0 := hx.1
  unfold uQ doQ
  unfold uvQ at *
  simp only
  have h3 : ¬ op = 3 := fun e => h34 (.inl e)
  have h4 : ¬ op = 4 := fun e => h34 (.inr e)
  by_cases h2 : op = 2
  · simp only [h2, if_true]
    unfold negQ
    refine ⟨⟨hx.1, ?_⟩, ?_⟩
    · show Int.gcd (-x.1) (x.2 + 1) = 1
      rw [Int.neg_gcd]; exact hx.2
    · show -x.1 * ((x.2 + 1) * 1) = x.1 * -1 * (x.2 + 1)
      rw [Int.mul_one, Int.mul_neg_one]
  simp only [h2, h3, h4, if_false] at hv ⊢
  by_cases h5 : op = 5 ∨ op = 7
  · simp only [h5, if_true]
    unfold mulQ wholeQ
    have hc : cst ⟨op, 0, 0, 0, c⟩ = ucst op c := rfl
    simp only [hc]
    obtain ⟨s1, s2⟩ := low_spec (n := x.1 * ucst op c) (d := (x.2 + 1) * (0 + 1)) (by omega)
    refine ⟨s1, ?_⟩
    rw [← s2]
    simp
  simp only [h5, if_false] at hv ⊢
  by_cases h6 : op = 6 ∨ op = 8
  · simp only [h6, if_true] at hv ⊢
    unfold overQ wholeQ
    have hc : cst ⟨op, 0, 0, 0, c⟩ = ucst op c := rfl
    simp only [hc]
    obtain ⟨s1, s2⟩ := make_spec (n := x.1 * (0 + 1)) (d := (x.2 + 1) * ucst op c) (Int.mul_ne_zero (by omega) hv)
    refine ⟨s1, ?_⟩
    rw [s2]
    simp
  · simp only [h6, if_false]
    exact ⟨hx, by simp⟩
theorem uQ_eq {op c o e : Int} {x y : QZ} (h : constOk op c = true) (h34 : ¬ (op = 3 ∨ op = 4)) (hx : Nz x) (hy : Nz y) (he : y.1 * ((x.2 + 1) * (uvQ op c).2) = x.1 * (uvQ op c).1 * (y.2 + 1)) : uQ op c x = y := by
  obtain ⟨s1, s2⟩ := uQ_spec h h34 hx
  refine nz_eq s1 hy ?_
  have hv := uv_ne h
  have hx0 := hx.1
  generalize uQ op c x = q at *
  have hne : (x.2 + 1) * (uvQ op c).2 ≠ 0 := Int.mul_ne_zero (by omega) hv
  generalize (x.2 + 1) * (uvQ op c).2 = D at *
  generalize x.1 * (uvQ op c).1 = M at *
  refine Int.eq_of_mul_eq_mul_right hne ?_
  calc q.1 * (y.2 + 1) * D = q.1 * D * (y.2 + 1) := by rw [Int.mul_right_comm]
    _ = M * (q.2 + 1) * (y.2 + 1) := by rw [s2]
    _ = M * (y.2 + 1) * (q.2 + 1) := by rw [Int.mul_right_comm]
    _ = y.1 * D * (q.2 + 1) := by rw [he]
    _ = y.1 * (q.2 + 1) * D := by rw [Int.mul_right_comm]
theorem tog_uv {f c s d o e : Int} (h : togP f c s d = (o, e, true)) (hc : constOk f c = true) (hd : constOk s d = true) : (uvQ f c).1 * (uvQ s d).1 * (uvQ o e).2 = (uvQ f c).2 * (uvQ s d).2 * (uvQ o e).1 := by
  refine (uR_uv (op := o) (c := e)).1 ((tog_sem h hc hd ((uvQ f c).2 * (uvQ s d).2) ((uvQ f c).1 * (uvQ s d).1)).1 ⟨(uvQ f c).1 * (uvQ s d).2, uR_uv.2 ?_, uR_uv.2 ?_⟩)
  · rw [Int.mul_right_comm, Int.mul_comm (uvQ f c).1, Int.mul_right_comm]
  · rw [Int.mul_right_comm]
theorem tog_uQ {f c s d o e : Int} {x : QZ} (h : togP f c s d = (o, e, true)) (hc : constOk f c = true) (hd : constOk s d = true) (hs : ¬ (s = 3 ∨ s = 4)) (hx : Nz x) : uQ o e x = uQ s d (uQ f c x) := by
  have h2 : (togP f c s d).2.2 = true := by rw [h]
  have f34 := tog_two h2
  have o34 := tog_one hs h2
  rw [h] at o34
  have hok : constOk o e = true := by
    have := tog_const hc hd
    rw [h] at this
    exact this.resolve_right (fun h => Bool.noConfusion h)
  obtain ⟨y1, y2⟩ := uQ_spec hc f34 hx
  obtain ⟨z1, z2⟩ := uQ_spec hd hs y1
  refine uQ_eq (o := 0) (e := 0) hok o34 hx z1 ?_
  have huv := tog_uv h hc hd
  have hY : (uQ f c x).2 + 1 ≠ 0 := by have := y1.1; omega
  have hv1 := uv_ne hc
  have hv2 := uv_ne hd
  have hx0 := hx.1
  generalize uQ f c x = y at *
  generalize uQ s d y = z at *
  generalize uvQ f c = uf at *
  generalize uvQ s d = us at *
  generalize uvQ o e = uo at *
  obtain ⟨uf1, uf2⟩ := uf
  obtain ⟨us1, us2⟩ := us
  obtain ⟨uo1, uo2⟩ := uo
  obtain ⟨x1, x2⟩ := x
  obtain ⟨y1, y2'⟩ := y
  obtain ⟨z1', z2'⟩ := z
  simp only at *
  generalize x2 + 1 = X at *
  generalize y2' + 1 = Y at *
  generalize z2' + 1 = Z at *
  -- y1 X uf2 = x1 uf1 Y ; z1 Y us2 = y1 us1 Z ; uf1 us1 uo2 = uf2 us2 uo1
  refine Int.eq_of_mul_eq_mul_right (Int.mul_ne_zero hY (Int.mul_ne_zero hv1 hv2)) ?_
  grind
theorem uQ_same {op c o e : Int} {x : QZ} (h : constOk op c = true) (h34 : ¬ (op = 3 ∨ op = 4)) (h' : constOk o e = true) (h34' : ¬ (o = 3 ∨ o = 4)) (huv : (uvQ op c).1 * (uvQ o e).2 = (uvQ op c).2 * (uvQ o e).1) (hx : Nz x) : uQ o e x = uQ op c x := by
  obtain ⟨y1, y2⟩ := uQ_spec h h34 hx
  refine uQ_eq (o := 0) (e := 0) h' h34' hx y1 ?_
  refine Int.eq_of_mul_eq_mul_right (uv_ne h) ?_
  generalize uQ op c x = y at *
  generalize uvQ op c = uf at *
  generalize uvQ o e = us at *
  obtain ⟨uf1, uf2⟩ := uf
  obtain ⟨us1, us2⟩ := us
  simp only at *
  generalize x.2 + 1 = X at *
  generalize y.2 + 1 = Y at *
  generalize x.1 = x1 at *
  generalize y.1 = z1 at *
  grind
theorem plain_uQ {i : Sl.Instr} {x : QZ} (hi : okC i) (h : ¬ (i.op = 3 ∨ i.op = 4)) (hx : Nz x) : uQ (plainP i).op (plainP i).c x = uQ i.op i.c x := by
  have hp := plain_const hi
  refine uQ_same hi h hp (plain_op h) ?_ hx
  have h1 : uR i.op i.c (uvQ i.op i.c).2 (uvQ i.op i.c).1 := uR_uv.2 (Int.mul_comm _ _)
  have h2 := (uZ_iff (const_ucst hi)).2 h1
  rw [← plain_uZ h] at h2
  exact uR_uv.1 ((uZ_iff (const_ucst hp)).1 h2)
theorem pos_mul {x y : QZ} (hx : Nz x) (hy : Nz y) : 0 < (x.2 + 1) * (y.2 + 1) := Int.mul_pos (by have := hx.1; omega) (by have := hy.1; omega)
theorem add_nz {x y : QZ} (hx : Nz x) (hy : Nz y) : Nz (addQ x y) := (low_spec (pos_mul hx hy)).1
theorem neg_nz {x : QZ} (hx : Nz x) : Nz (negQ x) := ⟨hx.1, by
  show Int.gcd (-x.1) (x.2 + 1) = 1
  rw [Int.neg_gcd]; exact hx.2⟩
theorem twice_uQ {x : QZ} (hx : Nz x) : addQ x x = uQ 7 1 x := by
  symm
  have e2 : ucst 7 1 = 2 := by unfold ucst p2; simp
  refine uQ_eq (o := 0) (e := 0) (by unfold constOk; decide) (by decide) hx (add_nz hx hx) ?_
  have := (low_spec (n := x.1 * (x.2 + 1) + x.1 * (x.2 + 1)) (pos_mul hx hx)).2
  have hx0 := hx.1
  have hne : x.2 + 1 ≠ 0 := by omega
  unfold uvQ
  rw [if_neg (by decide), if_pos (.inr rfl), e2]
  unfold addQ
  generalize lowQ (x.1 * (x.2 + 1) + x.1 * (x.2 + 1)) ((x.2 + 1) * (x.2 + 1)) = y at *
  refine Int.eq_of_mul_eq_mul_right hne ?_
  simp only
  generalize x.2 + 1 = X at *
  generalize y.2 + 1 = Y at *
  generalize x.1 = x1 at *
  generalize y.1 = z1 at *
  grind
/-- a step that is never too wide -/
def stepT (i : Sl.Instr) (rs : List (List QZ)) : Option (List QZ) := some (rowQ i (rs[i.a.toNat]?.getD []) (rs[i.b.toNat]?.getD []))
theorem run_T : ∀ (l : List Sl.Instr) (rs r : List (List QZ)), runG stepQ l rs = some r → runG stepT l rs = some r
  | [], rs, r, h => h
  | i :: l, rs, r, h => by
    unfold runG at h ⊢
    obtain ⟨x, hx, h⟩ := Option.bind_eq_some_iff.1 h
    unfold stepQ at hx
    simp only at hx
    split at hx
    · cases hx
    · cases hx
      unfold stepT
      rw [Option.bind_some]
      exact run_T l _ _ h
theorem row_one1 {i : Sl.Instr} (h : ¬ (i.op = 3 ∨ i.op = 4)) (a b : List QZ) : rowQ i a b = a.map (uQ i.op i.c) := by
  unfold rowQ
  rw [if_neg h]
  rfl
theorem foldT : FoldG stepT (fun op c xs => some (xs.map (uQ op c))) (fun xs => ∀ q ∈ xs, Nz q) where
  dflt := fun q h => by cases h
  ok := fun i rs x hi hr hx => by
    unfold stepT at hx
    cases hx
    have ha := okAt (Ok := fun xs => ∀ q ∈ xs, Nz q) (fun q h => by cases h) hr i.a.toNat
    have hb := okAt (Ok := fun xs => ∀ q ∈ xs, Nz q) (fun q h => by cases h) hr i.b.toNat
    by_cases h : i.op = 3 ∨ i.op = 4
    · unfold rowQ
      rw [if_pos h]
      intro q hq
      rw [List.mem_iff_getElem] at hq
      obtain ⟨k, hk, rfl⟩ := hq
      rw [List.length_zipWith] at hk
      rw [List.getElem_zipWith]
      have h1 := ha _ (List.getElem_mem (n := k) (by show k < (rs[i.a.toNat]?.getD []).length; omega))
      have h2 := hb _ (List.getElem_mem (n := k) (by show k < (rs[i.b.toNat]?.getD []).length; omega))
      unfold doQ
      rcases h with h | h
      · simp only [h]
        exact add_nz h1 h2
      · simp only [h]
        exact add_nz h1 (neg_nz h2)
    · rw [row_one1 h]
      intro q hq
      rw [List.mem_map] at hq
      obtain ⟨z, hz, rfl⟩ := hq
      exact (uQ_spec hi h (ha z hz)).1
  one := fun i rs h => by
    unfold stepT
    rw [row_one1 h]; rfl
  move := fun c xs => by
    have e : uQ 1 c = fun x => x := by funext x; unfold uQ doQ; simp
    rw [e, List.map_id']
  tog := fun f c s d o e xs h hc hd hs hx => by
    rw [Option.bind_some, List.map_map]
    congr 1
    exact List.map_congr_left fun q hq => tog_uQ h hc hd hs (hx q hq)
  plain := fun i xs hi h hx => by
    congr 1
    exact List.map_congr_left fun q hq => plain_uQ hi h (hx q hq)
  twice := fun i rs h3 hab hr => by
    have ha := okAt (Ok := fun xs => ∀ q ∈ xs, Nz q) (fun q h => by cases h) hr i.a.toNat
    unfold stepT rowQ
    rw [if_pos (.inl h3), ← hab]
    congr 1
    have e : doQ i = addQ := by funext x y; unfold doQ; simp [h3]
    rw [e]
    show List.zipWith addQ (rs[i.a.toNat]?.getD default) (rs[i.a.toNat]?.getD default) = _
    generalize rs[i.a.toNat]?.getD default = xs at *
    induction xs with
    | nil => rfl
    | cons x xs ih =>
      rw [List.zipWith_cons_cons, List.map_cons, ih (fun q hq => ha q (List.mem_cons_of_mem _ hq)), twice_uQ (ha x List.mem_cons_self)]
theorem units_nz (p : PV) : ∀ d ∈ unitsQ p, ∀ q ∈ d, Nz q := fun d hd q hq => by
  unfold unitsQ at hd
  rw [List.mem_map] at hd
  obtain ⟨k, _, rfl⟩ := hd
  rw [List.mem_map] at hq
  obtain ⟨j, _, rfl⟩ := hq
  split
  · exact nz_one
  · exact nz_zero
/-- what the pass's program denotes, if neither is too wide -/
theorem fold_denP {p : PV} (hR : rightP p = true) {os os' : List (List QZ)} (h : denP p = some os) (h' : denP (foldP p) = some os') : os = os' := by
  unfold denP at h h'
  rw [Option.map_eq_some_iff] at h h'
  obtain ⟨r, hr, rfl⟩ := h
  obtain ⟨r', hr', rfl⟩ := h'
  have e := fold_runG foldT hR (units_len p) (units_nz p)
  have e1 := run_T _ _ _ hr
  have e2 : runG stepT (foldP p).code (unitsQ p) = some r' := run_T _ _ _ hr'
  rw [e, e1] at e2
  cases e2
  rfl
end Go.Proofs.YtbppmiimeccclaaGreatDoor
set_option maxRecDepth 100000
set_option linter.unusedVariables false
namespace Go.Proofs.YtbppmiimeccclaaGreatDoor
open Go Go.Sl
set_option maxHeartbeats 4000000
theorem low2 {y : List Int} (hy : ∀ z ∈ y, -9223372036854775808 ≤ z ∧ z ≤ 9223372036854775807) : Below 2 y := fun z hz => by
  have := hy z hz
  have h64 : pb 2 = 18446744073709551616 := by unfold pb; decide
  omega
theorem fold_good2 {p : PV} {gs : List (List Int)} : GoodG (foldP p) gs ↔ GoodG p gs := Iff.rfl
/-- what Rows tells: an error's number and rows -/
def RowsVal (p : PV) (gs : List (List Int)) (e : Int) (os : List (List Int)) : Prop :=
  (GoodG p gs ∧ followP p gs = some os ∧ e = 0) ∨ (GoodG p gs ∧ followP p gs = none ∧ e = 20 ∧ os = []) ∨ (¬ GoodG p gs ∧ e = 5 ∧ os = [])
theorem rows_same {p q : PV} {gs : List (List Int)} {e e' : Int} {os os' : List (List Int)} (hg : GoodG q gs ↔ GoodG p gs) (hf : followP q gs = followP p gs) (h : RowsVal p gs e os) (h' : RowsVal q gs e' os') : e = e' ∧ os = os' := by
  unfold RowsVal at h h'
  rw [hg, hf] at h'
  rcases h with ⟨g, f, e1⟩ | ⟨g, f, e1, e2⟩ | ⟨g, e1, e2⟩ <;> rcases h' with ⟨g', f', e1'⟩ | ⟨g', f', e1', e2'⟩ | ⟨g', e1', e2'⟩
  · rw [f] at f'; exact ⟨by rw [e1, e1'], Option.some.inj f'⟩
  · rw [f] at f'; cases f'
  · exact absurd g g'
  · rw [f] at f'; cases f'
  · exact ⟨by rw [e1, e1'], by rw [e2, e2']⟩
  · exact absurd g g'
  · exact absurd g' g
  · exact absurd g' g
  · exact ⟨by rw [e1, e1'], by rw [e2, e2']⟩
theorem c6QF (G : Imm) (hT : TabOk G) (p q : PV) (ac ao : Option Addr) (cc co : Nat) (hc : Arr G ac p.code) (ho : Arr G ao p.outs) (h1 : p.code.length ≤ 1048576) (h2 : p.outs.length ≤ 1048576) (hR : rightP p = true) (hq : q = foldP p) :
    Does Tryz.prog 6 [.agg #[.int .i64 p.ins, .int .i64 p.regs, .slice ac p.code.length cc, .slice ao p.outs.length co]] G [] (fun v G' Ho =>
      ∃ bc bo dc do_, v = .tuple #[.agg #[.int .i64 q.ins, .int .i64 q.regs, .slice bc q.code.length dc, .slice bo q.outs.length do_], .int .i64 0] ∧ Arr G' bc q.code ∧ Arr G' bo q.outs ∧ Ho = []) := by
  subst hq
  exact c6RF G hT p ac ao cc co hc ho h1 h2 hR
attribute [local irreducible] valB pb cmpZ lstWp p2 cst doI doZ denP foldP followP rightP checkP GoodG Below
theorem grid_nil (G : Imm) : BGrid G [] [] := ⟨rfl, fun i hi => absurd hi (Nat.not_lt_zero _)⟩
theorem even_nil (m : Nat) : EvenB m 0 [] := fun z hz => by cases hz
theorem c10V (G : Imm) (p : PV) (ac ao ga : Option Addr) (cc co gc : Nat) (gl : List SV) (gs : List (List Int)) (hc : Arr G ac p.code) (ho : Arr G ao p.outs) (hga : Arr G ga gl) (hgg : BGrid G gl gs) (hbel : ∀ z ∈ gs, Below 2 z) (hlen : ∀ z ∈ gs, z.length ≤ 1048576) (hR : rightP p = true) (hl : gl.length ≤ 1048576) :
    Does Tryz.prog 10 [.agg #[.int .i64 p.ins, .int .i64 p.regs, .slice ac p.code.length cc, .slice ao p.outs.length co], .slice ga gl.length gc] G [] (fun v G' Ho => ∃ (b : Option Addr) (r : List SV) (c' : Nat) (k e : Int) (os : List (List Int)) (N : Nat), v = .tuple #[.slice b r.length c', .int .i64 k, .int .i64 e] ∧ Arr G' b r ∧
      RowsVal p gs e os ∧ BGrid G' r os ∧ EvenB 49154 N os ∧ N ≤ 4096 ∧ r.length ≤ 1048576 ∧ Ho = []) := by
  obtain ⟨f1, f2, f3, f4, f5, f6, f7, f8⟩ := right_facts hR
  have hgl := hgg.1
  by_cases hn : (gl.length : Int) = p.ins
  · have hg0 : 0 < gl.length := by omega
    have e0 : ∀ k : Nat, k < gl.length → (gl[k]?.getD default).n = (gs[k]?.getD []).length := fun k hk => by
      obtain ⟨l1, a1, a2, a3, a4⟩ := hgg.2 k hk
      rw [← a1, a4.1]
    have hmem : ∀ k : Nat, k < gl.length → gs[k]?.getD [] ∈ gs := fun k hk => by
      rw [List.getElem?_eq_getElem (by omega)]; exact List.getElem_mem _
    by_cases hgood : ∀ k : Nat, k < gl.length → (gl[k]?.getD default).n = (gl[(0 : Int).toNat]?.getD default).n ∧ (gl[(0 : Int).toNat]?.getD default).n ≤ 4096
    · have hN := (hgood 0 hg0).2
      have hev : EvenB 2 (gl[(0 : Int).toNat]?.getD default).n gs := fun z hz => by
        obtain ⟨k, hk, rfl⟩ := List.mem_iff_getElem.1 hz
        have h1 := (hgood k (by omega)).1
        have h2 := e0 k (by omega)
        rw [List.getElem?_eq_getElem hk] at h2
        exact ⟨by rw [← h1, h2]; rfl, hbel _ hz⟩
      have hG : GoodG p gs := by unfold GoodG; exact ⟨by omega, _, hN, fun z hz => (hev z hz).1⟩
      refine (c10 G p ac ao ga cc co gc gl gs 2 _ hc ho hga hgg hev (by decide) hN hR hn).mono fun v G' Ho _ ⟨h0, h⟩ => ?_
      rcases h with ⟨os, b, r, c', e1, e2, e3, e4, e5, e6⟩ | ⟨e1, k, e2⟩
      · refine ⟨b, r, c', 0, 0, os, _, e2, e3, .inl ⟨hG, e1, rfl⟩, e5, e6.mono (by omega), hN, ?_, h0⟩
        have hlos : os.length = p.outs.length := by
          unfold followP at e1
          obtain ⟨rs, _, e⟩ := Option.map_eq_some_iff.1 e1
          rw [← e]; unfold outsOf; rw [List.length_map]
        have := e5.1
        omega
      · exact ⟨none, [], 0, k, 20, [], 0, e2, Arr.nil _, .inr (.inl ⟨hG, e1, rfl, rfl⟩), grid_nil _, even_nil _, by decide, by decide, h0⟩
    · refine (c10E G p ac ao ga cc co gc gl (c24N G p ac ao ga cc co gc gl gs hgg hc ho hga hR hn (by rw [show (0 : Int).toNat = 0 from rfl, e0 0 hg0]; exact hlen _ (hmem 0 hg0)) hgood)).mono fun v G' Ho _ ⟨e1, e2⟩ => ?_
      refine ⟨none, [], 0, 0, 5, [], 0, e1, Arr.nil _, .inr (.inr ⟨fun h => ?_, rfl, rfl⟩), grid_nil _, even_nil _, by decide, by decide, e2⟩
      unfold GoodG at h
      obtain ⟨g1, N, g2, g3⟩ := h
      refine absurd (fun k hk => ?_) hgood
      rw [show (0 : Int).toNat = 0 from rfl, e0 k hk, e0 0 hg0, g3 _ (hmem k hk), g3 _ (hmem 0 hg0)]
      exact ⟨rfl, g2⟩
  · refine (c10E G p ac ao ga cc co gc gl (c24M G p ac ao ga cc co gc gl hc ho (by omega) (by omega) hR hl hn)).mono fun v G' Ho _ ⟨e1, e2⟩ => ?_
    exact ⟨none, [], 0, 0, 5, [], 0, e1, Arr.nil _, .inr (.inr ⟨fun h => by unfold GoodG at h; exact absurd (by omega) hn, rfl, rfl⟩), grid_nil _, even_nil _, by decide, by decide, e2⟩
theorem c9V (G : Imm) (p : PV) (ac ao ga : Option Addr) (cc co gc : Nat) (gl : List SV) (gs : List (List Int)) (hc : Arr G ac p.code) (ho : Arr G ao p.outs) (hga : Arr G ga gl) (hgg : BGrid G gl gs) (hbel : ∀ z ∈ gs, Below 2 z) (hlen : ∀ z ∈ gs, z.length ≤ 1048576) (hR : rightP p = true) (hl : gl.length ≤ 1048576) :
    Does Tryz.prog 9 [.agg #[.int .i64 p.ins, .int .i64 p.regs, .slice ac p.code.length cc, .slice ao p.outs.length co], .slice ga gl.length gc] G [] (fun v G' Ho => ∃ (k e : Int) (os : List (List Int)), v = .tuple #[.int .i64 k, .int .i64 e] ∧ RowsVal p gs e os ∧ Ho = []) := by
  refine Does.enter Tryz.func9 rfl Tryz.ntmps9 rfl (fun w => ?_)
  refine Wc.gl 2 [] ?_
  refine Wl.box 0 rfl rfl rfl (fun b1 => ?_)
  refine Wl.gl 8 [0] ?_
  refine Wl.k 1 rfl (c10V _ p ac ao ga cc co gc gl gs hc ho hga hgg hbel hlen hR hl) (fun v1 G1 Ho1 hle1 hp => ?_)
  obtain ⟨b1, r1, c1, k1, e1, os1, n1, rfl, hA1, hv1, hB1, hE1, hN1, hL1, rfl⟩ := hp
  replace hc := hc.up hle1
  replace ho := ho.up hle1
  replace hga := hga.up hle1
  refine Wl.ga 18 [] ?_
  refine Ar.e2 ?_
  exact ⟨_, _, _, rfl, by assumption, rfl⟩
theorem c6WF (G : Imm) (hT : TabOk G) (p : PV) (ac ao : Option Addr) (cc co : Nat) (hc : Arr G ac p.code) (ho : Arr G ao p.outs) (h1 : p.code.length ≤ 1048576) (h2 : p.outs.length ≤ 1048576) (hR : ¬ rightP p = true) :
    Does Tryz.prog 6 [.agg #[.int .i64 p.ins, .int .i64 p.regs, .slice ac p.code.length cc, .slice ao p.outs.length co]] G [] (fun v G' Ho =>
      ∃ bc bo dc do_, v = .tuple #[.agg #[.int .i64 0, .int .i64 0, .slice bc 0 dc, .slice bo 0 do_], .int .i64 80] ∧ Ho = []) :=
  (c6F G hT p ac ao cc co hc ho h1 h2).mono fun v G' Ho _ ⟨q', e, bc, bo, dc, do_, e1, ⟨e2, e3⟩, e4, e5, e6⟩ => by
    have e7 : q' = ⟨0, 0, [], []⟩ := by rw [e2]; unfold foldE; rw [if_neg hR]
    have e8 : e = 80 := by rw [e3]; unfold errP; rw [if_neg hR]
    subst e7
    subst e8
    exact ⟨bc, bo, dc, do_, e1, e6⟩
theorem c3W (G : Imm) (hT : TabOk G) (p : PV) (ac ao ga : Option Addr) (cc co gc : Nat) (gl : List SV) (hc : Arr G ac p.code) (ho : Arr G ao p.outs) (h1' : p.code.length ≤ 1048576) (h2' : p.outs.length ≤ 1048576) (hR : ¬ rightP p = true) :
    Does Tryz.prog 3 [.agg #[.int .i64 p.ins, .int .i64 p.regs, .slice ac p.code.length cc, .slice ao p.outs.length co], .slice ga gl.length gc] G [] (fun v G' Ho => v = .bool true ∧ Ho = []) := by
  have h1 : p.code.length ≤ 1099511627776 := by omega
  have h2 : p.outs.length ≤ 1099511627776 := by omega
  refine Does.enter Tryz.func3 rfl Tryz.ntmps3 rfl (fun w => ?_)
  refine Wc.gl 2 [] ?_
  refine Wl.box 0 rfl rfl rfl (fun b1 => ?_)
  refine Wl.gl 6 [] ?_
  refine Wl.k0 rfl (c4 _ hT) ?_
  refine Wl.gl 10 [0, 0] ?_
  refine Wl.k0 rfl (c5 _ p _ _ _ _ h1 h2) ?_
  refine Wl.ll0 1 [] ?_
  apply Wl.joinOr 5 25 30 rfl
  intro hg1
  refine Wl.ll0 9 [0] ?_
  exact Wl.back 5 0 rfl rfl rfl rfl rfl
  intro hg1
  refine Wl.ll0 5 [] ?_
  exact Wl.back 5 0 rfl rfl rfl rfl rfl
  refine Wl.ll0 1 [] ?_
  apply Wl.joinOr 4 31 35 rfl
  intro hg1
  refine Wl.ll0 7 [0] ?_
  exact Wl.back 4 0 rfl rfl rfl rfl rfl
  intro hg1
  refine Wl.ll0 4 [] ?_
  exact Wl.back 4 0 rfl rfl rfl rfl rfl
  refine Wl.ll0 1 [] ?_
  apply Wl.joinOr 4 36 40 rfl
  intro hg1
  refine Wl.ll0 7 [] ?_
  exact Wl.back 4 0 rfl rfl rfl rfl rfl
  intro hg1
  refine Wl.ll0 4 [] ?_
  exact Wl.back 4 0 rfl rfl rfl rfl rfl
  refine Wl.gc 2 [] ?_
  refine Wc.cond rfl (fun hc1 => ?_) (fun hc1 => ?_)
  refine Wc.ga 7 [] ?_
  refine Ar.e1 ?_
  rotate_left
  refine Wc.gl 5 [0] ?_
  refine Wl.k 1 rfl (c6WF _ hT p _ _ _ _ (by assumption) (by assumption) h1' h2' hR) (fun v1 G1 Ho1 hle1 hp => ?_)
  obtain ⟨bc1, bo1, dc1, dd1, rfl, rfl⟩ := hp
  replace hc := hc.up hle1
  replace ho := ho.up hle1
  refine Wl.ll0 3 [] ?_
  refine Wl.alloc 1 rfl T.zero25 (fun b2 => ?_)
  refine Wl.ga 21 [1, 1] ?_
  refine Ar.e1 ?_
  rotate_left
  all_goals exact ⟨rfl, rfl⟩
theorem c8E (G : Imm) (a : Option Addr) (c : Nat) (l : List Int) (ha : Arr G a l) (h1 : l.length ≤ 1048576) (hl : ∀ x ∈ l, -9223372036854775808 ≤ x ∧ x ≤ 9223372036854775807) :
    Does Tryz.prog 8 [.slice a l.length c] G [] (fun v G' Ho => ∃ (b : Option Addr) (r : List IV) (c' : Nat), v = .slice b r.length c' ∧ Arr G' b r ∧ Bigs G' r l ∧ r.length = l.length ∧ r.length ≤ c' ∧ Ho = []) :=
  (c8 G a c l ha h1 hl).mono fun v G' Ho _ ⟨b, r, c', e1, e2, e3, e4, e5⟩ => ⟨b, r, c', e1, e2, e3, e3.1, e4, e5⟩
theorem c3Y (G : Imm) (hT : TabOk G) (p : PV) (ac ao ga : Option Addr) (cc co gc : Nat) (gl : List SV) (ls : List (List Int)) (hc : Arr G ac p.code) (ho : Arr G ao p.outs) (hga : Arr G ga gl) (hgg : IGrid G gl ls) (h1' : p.code.length ≤ 1048576) (h2' : p.outs.length ≤ 1048576) (h4 : gl.length ≤ 1048576) (h5 : ∀ z ∈ ls, z.length ≤ 1048576) (hR : rightP p = true) :
    Does Tryz.prog 3 [.agg #[.int .i64 p.ins, .int .i64 p.regs, .slice ac p.code.length cc, .slice ao p.outs.length co], .slice ga gl.length gc] G [] (fun v G' Ho => v = .bool true ∧ Ho = []) := by
  obtain ⟨q, hq⟩ : ∃ q, q = foldP p := ⟨_, rfl⟩
  have h1 : p.code.length ≤ 1099511627776 := by omega
  have h2 : p.outs.length ≤ 1099511627776 := by omega
  have hRq : rightP q = true := by rw [hq]; exact fold_right hR
  have hrq := right_facts hRq
  have h1q : q.code.length ≤ 1099511627776 := by omega
  have h2q : q.outs.length ≤ 1099511627776 := by omega
  have hiq : p.ins = q.ins := by rw [hq]; unfold foldP; rfl
  have hp128 := (right_facts hR).2.2.2.2.2.1
  have hq128 := (right_facts hRq).2.2.2.2.2.1
  refine Does.enter Tryz.func3 rfl Tryz.ntmps3 rfl (fun w => ?_)
  refine Wc.nilRow 0 (Row 36 ([] : List SV) []) ?_
  refine Wc.gl 2 [] ?_
  refine Wl.box 1 rfl rfl rfl (fun b1 => ?_)
  refine Wl.gl 6 [] ?_
  refine Wl.k0 rfl (c4 _ hT) ?_
  refine Wl.gl 10 [0, 1] ?_
  refine Wl.k0 rfl (c5 _ p _ _ _ _ h1 h2) ?_
  refine Wl.ll0 1 [] ?_
  apply Wl.joinOr 5 25 30 rfl
  intro hg1
  refine Wl.ll0 9 [1] ?_
  exact Wl.back 5 0 rfl rfl rfl rfl rfl
  intro hg1
  refine Wl.ll0 5 [] ?_
  exact Wl.back 5 0 rfl rfl rfl rfl rfl
  refine Wl.ll0 1 [] ?_
  apply Wl.joinOr 4 31 35 rfl
  intro hg1
  refine Wl.ll0 7 [1] ?_
  exact Wl.back 4 0 rfl rfl rfl rfl rfl
  intro hg1
  refine Wl.ll0 4 [] ?_
  exact Wl.back 4 0 rfl rfl rfl rfl rfl
  refine Wl.ll0 1 [] ?_
  apply Wl.joinOr 4 36 40 rfl
  intro hg1
  refine Wl.ll0 7 [] ?_
  exact Wl.back 4 0 rfl rfl rfl rfl rfl
  intro hg1
  refine Wl.ll0 4 [] ?_
  exact Wl.back 4 0 rfl rfl rfl rfl rfl
  refine Wl.gc 2 [] ?_
  refine Wc.cond rfl (fun hc1 => ?_) (fun hc1 => ?_)
  refine Wc.ga 7 [] ?_
  rotate_left
  refine Wc.gl 5 [1] ?_
  refine Wl.k 2 rfl (c6QF _ hT p q _ _ _ _ (by assumption) (by assumption) h1' h2' hR hq) (fun v1 G1 Ho1 hle1 hp => ?_)
  obtain ⟨bc1, bo1, dc1, dd1, rfl, hbc1, hbo1, rfl⟩ := hp
  replace hc := hc.up hle1
  replace ho := ho.up hle1
  replace hga := hga.up hle1
  refine Wl.ll0 3 [] ?_
  refine Wl.alloc 2 rfl T.zero25 (fun b2 => ?_)
  refine Wl.gl 18 [2, 0, 1, 2] ?_
  rotate_left
  · refine Ar.e1 ?_
    exact ⟨rfl, rfl⟩
  have hsame : ∀ os os', denP p = some os → denP q = some os' → os = os' := fun os os' e1 e2 => by
    rw [hq] at e2; exact fold_denP hR e1 e2
  refine Wl.k 33 rfl (c7 _ p q ac ao bc1 bo1 cc co dc1 dd1 hc ho hbc1 hbo1 hR hRq hiq hsame) (fun v7 G7 Ho7 hle7 hp => ?_)
  obtain ⟨hp, rfl⟩ := hp
  replace hc := hc.up hle7
  replace ho := ho.up hle7
  replace hga := hga.up hle7
  replace hbc1 := hbc1.up hle7
  replace hbo1 := hbo1.up hle7
  have hv7 : ∃ (b7 : Bool) (e7 : Int), v7 = .tuple #[.bool b7, .int .i64 e7] ∧ ((b7 = true ∧ e7 = 0) ∨ (b7 = false ∧ e7 = 3)) := by
    rcases hp with ⟨n1, n2, e⟩ | ⟨hnn, e⟩
    · exact ⟨_, _, e, .inl ⟨rfl, rfl⟩⟩
    · exact ⟨_, _, e, .inr ⟨rfl, rfl⟩⟩
  obtain ⟨b7, e7, rfl, h7⟩ := hv7
  refine Wl.gc 7 [] ?_
  refine Wc.meet (ι := Unit) (fun _ => ([(2, .pointer (some ⟨b1, 0, none⟩)), (5, .pointer (some ⟨b2, 0, none⟩)), (1, .slice ga gl.length gc)], [(2, Option.some b2, Go.Obj.cells #[Go.Value.int Go.IntKind.i64 (Go.Proofs.YtbppmiimeccclaaGreatDoor.PV.ins q), Go.Value.int Go.IntKind.i64 (Go.Proofs.YtbppmiimeccclaaGreatDoor.PV.regs q), Go.Value.slice bc1 (List.length (Go.Proofs.YtbppmiimeccclaaGreatDoor.PV.code q)) dc1, Go.Value.slice bo1 (List.length (Go.Proofs.YtbppmiimeccclaaGreatDoor.PV.outs q)) dd1] 25), (1, Option.some b1, Go.Obj.cells #[Go.Value.int Go.IntKind.i64 (Go.Proofs.YtbppmiimeccclaaGreatDoor.PV.ins p), Go.Value.int Go.IntKind.i64 (Go.Proofs.YtbppmiimeccclaaGreatDoor.PV.regs p), Go.Value.slice ac (List.length (Go.Proofs.YtbppmiimeccclaaGreatDoor.PV.code p)) cc, Go.Value.slice ao (List.length (Go.Proofs.YtbppmiimeccclaaGreatDoor.PV.outs p)) co] 25), (0, Option.none, Go.Sl.Row (α := Go.Sl.SV) 36 ([]) ([]))])) (fun _ => True) ?_ (fun _ => fun (hk : True) => ?_)
  · rcases h7 with ⟨g7, g8⟩ | ⟨g7, g8⟩
    · subst g7
      subst g8
      refine Wc.gl 5 [] ?_
      refine Wl.yes 58 rfl (by first | assumption | omega) ?_
      refine Wl.ll0 6 [] ?_
      refine Wl.no 61 rfl (by first | assumption | omega) ?_
      refine Wl.ga 11 [0] ?_
      refine Ar.meet (()) ?_ rfl ⟨rfl, rfl, rfl, trivial⟩ ⟨rfl, rfl, rfl, trivial⟩
      exact trivial
    · subst g7
      subst g8
      refine Wc.gl 5 [] ?_
      refine Wl.no 58 rfl (by first | assumption | omega) ?_
      refine Wl.ll0 3 [] ?_
      refine Wl.passU rfl rfl rfl ?_
      refine Wl.passU rfl rfl rfl ?_
      refine Wl.ga 6 [0] ?_
      refine Ar.meet (()) ?_ rfl ⟨rfl, rfl, rfl, trivial⟩ ⟨rfl, rfl, rfl, trivial⟩
      exact trivial
  refine Wc.gc 14 [] ?_
  have hglg : IGrid G7 gl ls := (hgg.up hle1).up hle7
  have hls := hgg.1
  refine Wc.loopG (ι := Nat × Imm × List SV × (Option Addr × Nat × List Value)) (fun (i, Gx, g9, (o, d, j)) => ([(68, .int .i64 (i : Int)), (8, .slice o g9.length d), (2, .pointer (some ⟨b1, 0, none⟩)), (5, .pointer (some ⟨b2, 0, none⟩)), (67, Go.Value.int Go.IntKind.i64 (↑(List.length gl) : Int)), (66, Go.Value.slice ga (List.length gl) gc)], [(0, o.map (·.block), Row 36 g9 j), (2, Option.some b2, Go.Obj.cells #[Go.Value.int Go.IntKind.i64 (Go.Proofs.YtbppmiimeccclaaGreatDoor.PV.ins q), Go.Value.int Go.IntKind.i64 (Go.Proofs.YtbppmiimeccclaaGreatDoor.PV.regs q), Go.Value.slice bc1 (List.length (Go.Proofs.YtbppmiimeccclaaGreatDoor.PV.code q)) dc1, Go.Value.slice bo1 (List.length (Go.Proofs.YtbppmiimeccclaaGreatDoor.PV.outs q)) dd1] 25), (1, Option.some b1, Go.Obj.cells #[Go.Value.int Go.IntKind.i64 (Go.Proofs.YtbppmiimeccclaaGreatDoor.PV.ins p), Go.Value.int Go.IntKind.i64 (Go.Proofs.YtbppmiimeccclaaGreatDoor.PV.regs p), Go.Value.slice ac (List.length (Go.Proofs.YtbppmiimeccclaaGreatDoor.PV.code p)) cc, Go.Value.slice ao (List.length (Go.Proofs.YtbppmiimeccclaaGreatDoor.PV.outs p)) co] 25)])) (fun (i, Gx, g9, (o, d, j)) => Gx) (fun (i, Gx, g9, (o, d, j)) => i ≤ gl.length ∧ G7.le Gx ∧ g9.length = i ∧ (∀ t : Nat, t < i → BRow Gx (g9[t]?.getD default) (ls[t]?.getD [])) ∧ OwnA o d g9 j) (fun (i, Gx, g9, (o, d, j)) => gl.length - i) ((0, G7, [], (none, 0, []))) (⟨Nat.zero_le _, Imm.le_refl _, rfl, fun t ht => by omega, OwnA.nil⟩) rfl ⟨rfl, rfl, rfl, rfl, rfl, rfl, trivial⟩ ⟨rfl, rfl, rfl, trivial⟩ (fun ⟨i, Gx, g9, (o, d, j)⟩ => fun (hk : i ≤ gl.length ∧ G7.le Gx ∧ g9.length = i ∧ (∀ t : Nat, t < i → BRow Gx (g9[t]?.getD default) (ls[t]?.getD [])) ∧ OwnA o d g9 j) => ?_)
  obtain ⟨hi0, hgx, hqi, hrows, hoq⟩ := hk
  replace hga := hga.up hgx
  replace hglg := hglg.up hgx
  rcases Nat.lt_or_ge i gl.length with hil | hil
  · obtain ⟨ir1, ir2, ir3⟩ := hglg.2 i hil
    have hli : (ls[i]?.getD []).length ≤ 1048576 := h5 _ (by rw [List.getElem?_eq_getElem (by omega)]; exact List.getElem_mem _)
    skip
    refine Wc.gl 13 [1] ?_
    refine Wl.q rfl (Qy.at (α := SV) T.sl26 rfl rfl (by assumption) (by omega)) ?_
    refine Wl.q rfl (Qy.loadG T.one35 rfl (Arr.cell (by assumption) (by omega) 0 rfl rfl)) ?_
    refine Wl.gl 6 [] ?_
    refine Wl.re 73 rfl (show _ = Value.slice (gl[i]?.getD default).a (ls[i]?.getD []).length (gl[i]?.getD default).c by rw [ir1]; rfl) ?_
    refine Wl.k 34 rfl (c8E _ _ _ (ls[i]?.getD []) ir2 hli ir3) (fun v8 G8 Ho8 hle8 hp => ?_)
    obtain ⟨b8, r8, c8, rfl, hA8, hB8, hL8, hC8, rfl⟩ := hp
    have hle8' : Gx.le G8 := hle8
    refine Wl.lit (α := SV) 3 [⟨_, _, _⟩] rfl T.sl34 T.el36 rfl rfl rfl rfl rfl (fun b3 => ?_)
    refine Wl.append (α := SV) 0 rfl T.sl34 T.el36 rfl rfl rfl (by first | assumption | exact OwnA.nil | exact OwnA.made (by simp)) (Src.row 3 rfl) (by first | omega | (simp only [List.length_append, List.length_cons, List.length_nil, maxLen]; omega)) (by first | omega | (simp only [List.length_append, List.length_cons, List.length_nil, maxLen]; omega)) (fun a1 c1 junk1 ho1 => ?_)
    refine Wl.ga 8 [] ?_
    refine Ar.again ((i + 1, G8, g9 ++ [⟨b8, r8.length, c8⟩], (a1, c1, junk1))) ?_ ?_ rfl ⟨rfl, rfl, rfl, rfl, rfl, rfl, trivial⟩ ⟨rfl, rfl, rfl, trivial⟩
    · refine ⟨by omega, Imm.le_trans hgx hle8', by rw [List.length_append, hqi]; rfl, brow_snoc (fun t ht => (hrows t ht).up hle8') hqi ⟨r8, rfl, hC8, hA8, hB8⟩, by assumption⟩
    · show gl.length - (i + 1) < gl.length - i
      omega
  · have hii : i = gl.length := by omega
    subst hii
    refine Wc.gl 16 [0, 1] ?_
    refine Wl.freezeRow 0 rfl hoq (fun G9 hle9 hA9 => ?_)
    have hle9' : Gx.le G9 := hle9
    have hle79 := Imm.le_trans hgx hle9'
    have hgg9 : BGrid G9 g9 ls := ⟨by omega, fun t ht => (hrows t (by omega)).up hle9'⟩
    have hbel : ∀ z ∈ ls, Below 2 z := fun z hz => by
      obtain ⟨k, hk, rfl⟩ := List.mem_iff_getElem.1 hz
      have h9 := (hgg.2 k (by omega)).2.2
      rw [List.getElem?_eq_getElem hk] at h9
      exact low2 h9
    have hc9 := hc.up hle79
    have ho9 := ho.up hle79
    have hb9 := hbc1.up hle79
    have hd9 := hbo1.up hle79
    have hl9 : g9.length ≤ 1048576 := by omega
    refine Wl.k 35 rfl (c9V _ p ac ao o cc co d g9 ls hc9 ho9 hA9 hgg9 hbel h5 hR hl9) (fun v10 G10 Ho10 hle10 hp => ?_)
    obtain ⟨k10, e10, os10, rfl, hv10, rfl⟩ := hp
    refine Wl.gl 11 [2] ?_
    refine Wl.k 36 rfl (c9V _ q bc1 bo1 o dc1 dd1 d g9 ls (hb9.up hle10) (hd9.up hle10) (hA9.up hle10) (hgg9.up hle10) hbel h5 hRq hl9) (fun v11 G11 Ho11 hle11 hp => ?_)
    obtain ⟨k11, e11, os11, rfl, hv11, rfl⟩ := hp
    have h9b := Imm.le_trans hle10 hle11
    refine Wl.gl 11 [1] ?_
    refine Wl.k 37 rfl (c10V _ p ac ao o cc co d g9 ls (hc9.up h9b) (ho9.up h9b) (hA9.up h9b) (hgg9.up h9b) hbel h5 hR hl9) (fun v12 G12 Ho12 hle12 hp => ?_)
    obtain ⟨b12, r12, c12, k12, e12, os12, N12, rfl, hA12, hv12, hB12, hE12, hN12, hL12, rfl⟩ := hp
    have h9c := Imm.le_trans h9b hle12
    refine Wl.gl 13 [2] ?_
    refine Wl.k 38 rfl (c10V _ q bc1 bo1 o dc1 dd1 d g9 ls (hb9.up h9c) (hd9.up h9c) (hA9.up h9c) (hgg9.up h9c) hbel h5 hRq hl9) (fun v13 G13 Ho13 hle13 hp => ?_)
    obtain ⟨b13, r13, c13, k13, e13, os13, N13, rfl, hA13, hv13, hB13, hE13, hN13, hL13, rfl⟩ := hp
    have hgq : GoodG q ls ↔ GoodG p ls := by rw [hq]; exact fold_good2
    have hfq : followP q ls = followP p ls := by rw [hq]; exact fold_follow hR ls
    obtain ⟨s1, _⟩ := rows_same hgq hfq hv10 hv11
    obtain ⟨_, s2⟩ := rows_same hgq hfq hv12 hv13
    subst s1
    subst s2
    have hA12' := hA12.up hle13
    have hB12' := hB12.up hle13
    refine Wl.gl 15 [] ?_
    refine Wl.yes 107 rfl (by first | assumption | omega) ?_
    refine Wl.ll0 5 [] ?_
    refine Wl.k0 rfl (c11T _ _ _ _ _ r12 r13 os12 N12 hA12' hA13 hB12' hB13 hE12 hN12 hL12) ?_
    refine Wl.ga 5 [] ?_
    refine Ar.e1 ?_
    exact ⟨rfl, rfl⟩
theorem c3 (G : Imm) (hT : TabOk G) (p : PV) (ac ao ga : Option Addr) (cc co gc : Nat) (gl : List SV) (ls : List (List Int)) (hc : Arr G ac p.code) (ho : Arr G ao p.outs) (hga : Arr G ga gl) (hgg : IGrid G gl ls) (h1' : p.code.length ≤ 1048576) (h2' : p.outs.length ≤ 1048576) (h4 : gl.length ≤ 1048576) (h5 : ∀ z ∈ ls, z.length ≤ 1048576) :
    Does Tryz.prog 3 [.agg #[.int .i64 p.ins, .int .i64 p.regs, .slice ac p.code.length cc, .slice ao p.outs.length co], .slice ga gl.length gc] G [] (fun v G' Ho => v = .bool true ∧ Ho = []) := by
  by_cases hR : rightP p = true
  · exact c3Y G hT p ac ao ga cc co gc gl ls hc ho hga hgg h1' h2' h4 h5 hR
  · exact c3W G hT p ac ao ga cc co gc gl hc ho h1' h2' hR
end Go.Proofs.YtbppmiimeccclaaGreatDoor
namespace Go.Proofs.YtbppmiimeccclaaGreatDoor
open Go Go.Sl Go.ChangeShapes Go.WideShapes Go.RowKit Go.Joins
set_option linter.unusedVariables false
set_option maxRecDepth 100000
theorem und35 : Tryz.prog.underlying 26 = some (.slice 35) := by kernel_rfl
theorem und38 : Tryz.prog.underlying 35 = some (.slice 2) := by kernel_rfl
theorem cells38 : Tryz.prog.cellsOf 35 = 1 := by kernel_rfl
theorem bulk_mem {H : Type} {l : List (DataW H)} {i : Nat} {d : DataW H} (h : l[i]? = some d) : Rows.uptoBulk d ≤ Rows.uptoBulkAll l := by
  induction l generalizing i with
  | nil => simp at h
  | cons x r ih =>
    simp only [Rows.uptoBulkAll]
    cases i with
    | zero => simp at h; subst h; omega
    | succ i => have := ih (i := i) (by simpa using h); omega
section
variable {H : Type} {enc : TypeId × Value → H}
theorem dec_irow {W : World} : Dec (α := SV) enc Tryz.prog W 35 (fun s d => ∃ l : List Int, IRow (heapG W) s l ∧ l.length ≤ Rows.uptoBulk d) := fun n cs x h => by
  obtain ⟨a, c, xs, e, hA, hl, hd⟩ := open_arr (α := Int) und38 cells2 (by decide) (dec_int und2) h
  refine ⟨⟨a, xs.length, c⟩, e, xs, ⟨rfl, hA, fun y hy => ?_⟩, ?_⟩
  · rcases hd with ⟨_, rfl⟩ | ⟨l, r, e, hl, hi⟩
    · cases hy
    · obtain ⟨i, hi1, rfl⟩ := List.mem_iff_getElem.1 hy
      obtain ⟨d, _, _, hw⟩ := hi i hi1
      rw [List.getElem?_eq_getElem hi1] at hw
      unfold Lit.wf at hw
      rw [Bool.and_eq_true, decide_eq_true_eq, decide_eq_true_eq] at hw
      exact hw
  · rcases hd with ⟨_, rfl⟩ | ⟨l, r, e, hl, _⟩
    · exact Nat.zero_le _
    · rw [e, ← hl]; exact bulk_slice l r
theorem open_grid {W : World} {r : Reach} {b0 : Nat} {v : Value} {d : DataW H} {ps : List MemPlace} (hv : Value.okWide Tryz.prog W r b0 26 v) (h : DataW.Trod enc Tryz.prog W 0 (fun _ => true) true 26 v d ps) :
    ∃ (a : Option Addr) (c : Nat) (gl : List SV) (ls : List (List Int)), v = .slice a gl.length c ∧ Arr (heapG W) a gl ∧ IGrid (heapG W) gl ls ∧ gl.length ≤ Rows.uptoBulk d ∧ ∀ l ∈ ls, l.length ≤ Rows.uptoBulk d := by
  obtain ⟨a0, n0, c0, rfl⟩ := okWide_slice und35 hv
  obtain ⟨n, h⟩ := h
  obtain ⟨a, c, gl, e, hA, hl, hd⟩ := open_arr (α := SV) und35 cells38 (by decide) dec_irow h
  have e' : [Value.slice a0 n0 c0] = [.slice a gl.length c] := e
  simp only [List.cons.injEq, and_true] at e'
  have hrow : ∀ i, i < gl.length → ∃ l : List Int, IRow (heapG W) (gl[i]?.getD default) l ∧ l.length ≤ Rows.uptoBulk d := fun i hi => by
    rcases hd with ⟨_, rfl⟩ | ⟨l, r, e, hl, hx⟩
    · exact absurd hi (Nat.not_lt_zero _)
    · obtain ⟨d', h1, l', h2, h3⟩ := hx i hi
      refine ⟨l', h2, Nat.le_trans h3 ?_⟩
      have := bulk_mem h1
      have e2 : d = .slice l r := e
      rw [e2]
      simp only [Rows.uptoBulk]
      omega
  obtain ⟨Y, hY⟩ := Deep.choose_lt hrow
  refine ⟨a, c, gl, (List.range gl.length).map Y, e', hA, ⟨by simp, fun i hi => ?_⟩, ?_, fun l hl => ?_⟩
  · have : ((List.range gl.length).map Y)[i]?.getD [] = Y i := by simp [hi]
    rw [this]
    exact (hY i hi).1
  · rcases hd with ⟨_, rfl⟩ | ⟨l, r, e, hl, _⟩
    · exact Nat.zero_le _
    · have e2 : d = .slice l r := e
      rw [e2, ← hl]; exact bulk_slice l r
  · obtain ⟨i, hi, rfl⟩ := List.mem_map.1 hl
    exact (hY i (List.mem_range.1 hi)).2
end
end Go.Proofs.YtbppmiimeccclaaGreatDoor
