import Derived.Test.YtfleehgbpgmcnaaNt
import Derived.Test.YtfleehgbpgmcnaaAi
set_option maxRecDepth 100000
set_option linter.unusedVariables false
namespace Go.Proofs.Ytfleehgbpgmcnaa
open Go Go.Sl

set_option maxHeartbeats 4000000
/-- a row of int64 that came in -/
def IRow (G : Imm) (s : SV) (l : List Int) : Prop := l.length = s.n ∧ Arr G s.a l ∧ ∀ x ∈ l, -9223372036854775808 ≤ x ∧ x ≤ 9223372036854775807
theorem IRow.up {G G' : Imm} {s : SV} {l : List Int} (h : IRow G s l) (hl : G.le G') : IRow G' s l := ⟨h.1, h.2.1.up hl, h.2.2⟩
def IGrid (G : Imm) (gl : List SV) (ls : List (List Int)) : Prop := gl.length = ls.length ∧ ∀ i : Nat, i < gl.length → IRow G (gl[i]?.getD default) (ls[i]?.getD [])
theorem IGrid.up {G G' : Imm} {gl : List SV} {ls : List (List Int)} (h : IGrid G gl ls) (hl : G.le G') : IGrid G' gl ls := ⟨h.1, fun i hi => (h.2 i hi).up hl⟩
theorem IGrid.at {G : Imm} {gl : List SV} {ls : List (List Int)} (h : IGrid G gl ls) {m : Int} (hm : 0 ≤ m ∧ m < gl.length) : IRow G (gl[m.toNat]?.getD default) (ls[m.toNat]?.getD []) := h.2 _ (by omega)
theorem follow_none (G : Imm) (p : PV) (ac ao ga : Option Addr) (cc co gc : Nat) (gl : List SV) (gs : List (List Int)) (N : Nat) (hc : Arr G ac p.code) (ho : Arr G ao p.outs) (hga : Arr G ga gl) (hgg : Grid G gl gs) (hev : Even 4 N gs) (hN : N ≤ 1048576) (hR : rightP p = true) (hgi : (gl.length : Int) = p.ins) (hcl : p.code.length ≤ 1024) (hf : followP p gs = none) :
    Does Try.prog 21 [.agg #[.int .i64 p.ins, .int .i64 p.regs, .slice ac p.code.length cc, .slice ao p.outs.length co], .slice ga gl.length gc] G [] (fun v G' Ho => ∃ sv bad, v = .tuple #[sv, .int .i64 bad, .slice none 0 0] ∧ 0 ≤ bad ∧ Ho = []) := by
  refine (c21 G p ac ao ga cc co gc gl gs N hc ho hga hgg hev hN hR hgi hcl).mono fun v G' Ho _ ⟨sv, bad, ov, e, h1, h2, h3⟩ => ?_
  obtain ⟨e1, e2⟩ := h1 hf
  subst e2
  exact ⟨sv, bad, e, e1, h3⟩
theorem follow_some (G : Imm) (p : PV) (ac ao ga : Option Addr) (cc co gc : Nat) (gl : List SV) (gs : List (List Int)) (N : Nat) (hc : Arr G ac p.code) (ho : Arr G ao p.outs) (hga : Arr G ga gl) (hgg : Grid G gl gs) (hev : Even 4 N gs) (hN : N ≤ 1048576) (hR : rightP p = true) (hgi : (gl.length : Int) = p.ins) (hcl : p.code.length ≤ 1024) (os : List (List Int)) (hf : followP p gs = some os) :
    Does Try.prog 21 [.agg #[.int .i64 p.ins, .int .i64 p.regs, .slice ac p.code.length cc, .slice ao p.outs.length co], .slice ga gl.length gc] G [] (fun v G' Ho => ∃ sv oa oc ol, v = .tuple #[sv, .int .i64 (-1), .slice oa ol.length oc] ∧ Arr G' oa ol ∧ Grid G' ol os ∧ Ho = []) := by
  refine (c21 G p ac ao ga cc co gc gl gs N hc ho hga hgg hev hN hR hgi hcl).mono fun v G' Ho _ ⟨sv, bad, ov, e, h1, h2, h3⟩ => ?_
  obtain ⟨e1, oa, oc, ol, e2, e3, e4⟩ := h2 os hf
  subst e1 e2
  exact ⟨sv, oa, oc, ol, e, e3, e4, h3⟩
theorem c14P (G : Imm) (p : PV) (ac ao : Option Addr) (cc co : Nat) (hc : Arr G ac p.code) (ho : Arr G ao p.outs) (h1 : p.code.length ≤ 1099511627776) (h2 : p.outs.length ≤ 1099511627776) (hR : rightP p = true) :
    Does Try.prog 14 [.agg #[.int .i64 p.ins, .int .i64 p.regs, .slice ac p.code.length cc, .slice ao p.outs.length co]] G [] (fun v G' Ho =>
      ∃ bc bo dc do_ j1 j2, v = .tuple #[.agg #[.int .i64 (passP p).ins, .int .i64 (passP p).regs, .slice bc (passP p).code.length dc, .slice bo (passP p).outs.length do_], .int .i64 0] ∧
        OwnA bc dc (passP p).code j1 ∧ OwnA bo do_ (passP p).outs j2 ∧ Ho = [(0, bc.map (·.block), Row 34 (passP p).code j1), (1, bo.map (·.block), Row 3 (passP p).outs j2)] ∧ G' = G) := c14R G p ac ao cc co hc ho h1 h2 hR
theorem take_next {l : List Int} {k : Nat} (h : k < l.length) : l.take (k + 1) = l.take k ++ [l[((k : Nat) : Int).toNat]?.getD default] := by
  rw [List.take_succ_eq_append_getElem h, Int.toNat_natCast, List.getElem?_eq_getElem h]; rfl
theorem ls_next {l : List (List Int)} {k : Nat} (h : k < l.length) : l.take (k + 1) = l.take k ++ [l[((k : Nat) : Int).toNat]?.getD []] := by
  rw [List.take_succ_eq_append_getElem h, Int.toNat_natCast, List.getElem?_eq_getElem h]; rfl
theorem pw4 : pw 4 = 18446744073709551616 := by decide
theorem follow_len {p : PV} {gs os : List (List Int)} (h : followP p gs = some os) : os.length = p.outs.length := by
  unfold followP at h
  obtain ⟨rs, h1, h2⟩ := Option.map_eq_some_iff.1 h
  subst h2
  unfold outsOf; rw [List.length_map]
theorem pass_ins (p : PV) : (passP p).ins = p.ins := rfl
theorem row_same (G : Imm) (s t : SV) (xs ys : List Int) (hs : RowS G s xs) (ht : RowS G t ys) (m : Nat) (hm : m ≤ 1073741824) (bx : Below m xs) (by' : Below m ys) (h1 : s.n ≤ 1048576) (h2 : t.n ≤ 1048576) :
    Does Try.prog 22 [.slice s.a s.n s.c, .slice t.a t.n t.c] G [] (fun v G' Ho => v = .bool (decide (xs = ys)) ∧ G' = G ∧ Ho = []) := by
  obtain ⟨sa, sn, sc⟩ := s
  obtain ⟨ta, tn, tc⟩ := t
  obtain ⟨l, hl, hc, hA, hN⟩ := hs
  obtain ⟨l', hl', hc', hA', hN'⟩ := ht
  simp only at hl hc hA h1 hl' hc' hA' h2
  subst hl hl'
  exact c22 G sa ta sc tc l l' xs ys hA hA' hN hN' m hm bx by' (by omega) (by omega)
theorem run_even {p : PV} {gs : List (List Int)} {N : Nat} (hR : rightP p = true) (hev : Even 4 N gs) (h0 : 0 < gs.length) : ∀ (k : Nat) (rs : List (List Int)), k ≤ p.code.length → runTo p gs k = some rs → Even (4 + 5 * k) N rs ∧ rs.length = p.regs.toNat
  | 0, rs, _, h => by
    cases h
    exact ⟨even_regs0 hev h0, regs0_len p gs⟩
  | k + 1, rs, hk, h => by
    obtain ⟨f1, f2, f3, f4, f5, f6, f7, f8⟩ := right_facts hR
    unfold runTo at h
    obtain ⟨rs0, h1, h2⟩ := Option.bind_eq_some_iff.1 h
    obtain ⟨y, h3, h4⟩ := Option.map_eq_some_iff.1 h2
    obtain ⟨he, hl⟩ := run_even hR hev h0 k rs0 (by omega) h1
    subst h4
    have hmem : (p.code[((k : Nat) : Int).toNat]?.getD default) ∈ p.code := by
      rw [Int.toNat_natCast, List.getElem?_eq_getElem (by omega)]; exact List.getElem_mem _
    obtain ⟨m1, m2, m3, m4, m5, m6, m7, m8⟩ := may_facts (f8 _ hmem)
    have hx := doI_even (i := p.code[((k : Nat) : Int).toNat]?.getD default) he (by omega) (fun h => by have := m4 h; omega) (fun h => (m6 (by omega) (by omega) (by omega) (by omega)).2) h3
    refine ⟨?_, by rw [List.length_set]; exact hl⟩
    rw [show 4 + 5 * (k + 1) = 5 + (4 + 5 * k) by omega]
    exact even_set (he.mono (by omega)) hx _
theorem follow_even {p : PV} {gs os : List (List Int)} {N : Nat} (hR : rightP p = true) (hev : Even 4 N gs) (h0 : 0 < gs.length) (h : followP p gs = some os) : Even (4 + 5 * p.code.length) N os := by
  obtain ⟨f1, f2, f3, f4, f5, f6, f7, f8⟩ := right_facts hR
  unfold followP at h
  obtain ⟨rs, h1, h2⟩ := Option.map_eq_some_iff.1 h
  obtain ⟨he, hl⟩ := run_even hR hev h0 _ rs (Nat.le_refl _) h1
  subst h2
  intro zs hz
  unfold outsOf at hz
  obtain ⟨r, hr, rfl⟩ := List.mem_map.1 hz
  exact he.at (k := r) (by have := f7 r hr; omega)
attribute [local irreducible] valL pw cmpZ p2 passP passTo followP rightP
theorem c4 (G : Imm) (p : PV) (ac ao ga : Option Addr) (cc co gc : Nat) (gl : List SV) (ls : List (List Int)) (hc : Arr G ac p.code) (ho : Arr G ao p.outs) (hga : Arr G ga gl) (hg : IGrid G gl ls) (h1 : p.code.length ≤ 1099511627776) (h2 : p.outs.length ≤ 1099511627776) (h3 : gl.length ≤ 1099511627776) (h4 : ∀ l ∈ ls, l.length ≤ 1099511627776) :
    Does Try.prog 4 [.agg #[.int .i64 p.ins, .int .i64 p.regs, .slice ac p.code.length cc, .slice ao p.outs.length co], .slice ga gl.length gc] G [] (fun v G' Ho => v = .bool true ∧ Ho = []) := by
  have hgl := hg.1
  refine Does.enter Try.func4 rfl Try.ntmps4 rfl (fun w => ?_)
  refine Wc.seq ?_
  refine Wc.region rfl ?_
  refine Wl.box 0 rfl rfl rfl (fun b1 => ?_)
  refine Wl.q rfl (Qy.assign rfl) ?_
  refine Wl.done ?_
  refine Ar.next ?_
  refine Wc.seq ?_
  refine Wc.seq ?_
  refine Wc.region rfl ?_
  refine Wl.callB 1 rfl T.fn11 rfl (fun Gx hGx hgx => (c11 _)) (fun v1 Gx1 G1 Ho1 hlx1 hp => ?_)
  obtain ⟨rfl, rfl, rfl⟩ := hp
  refine Wl.q rfl (Qy.notD rfl) ?_
  refine Wl.done ?_
  refine Ar.next ?_
  refine Wc.cond rfl (fun hc1 => ?_) (fun hc1 => ?_)
  refine Wc.seq ?_
  refine Wc.region rfl ?_
  refine Wl.q rfl (Qy.assign rfl) ?_
  refine Wl.done ?_
  refine Ar.next ?_
  refine Wc.ret ?_
  refine Ar.passRet ?_
  rotate_left
  refine Wc.skip ?_
  refine Ar.next ?_
  refine Wc.seq ?_
  refine Wc.region rfl ?_
  refine Wl.q rfl (Qy.loadAll 0 T.agg25 rfl rfl rfl) ?_
  refine Wl.callB 1 rfl T.fn15 rfl (fun Gx hGx hgx => (c15 _ _ _ _ _ _ (by first | exact Arr.up (by assumption) hGx | exact Arr.nil _) (by first | exact Arr.up (by assumption) hGx | exact Arr.nil _) (by omega) (by omega))) (fun v2 Gx2 G2 Ho2 hlx2 hp => ?_)
  obtain ⟨rfl, rfl, rfl⟩ := hp
  refine Wl.q rfl (Qy.assign rfl) ?_
  refine Wl.done ?_
  refine Ar.next ?_
  rotate_left
  · exact absurd yes hc1
  refine Wc.seq ?_
  refine Wc.seq ?_
  refine Wc.region rfl ?_
  refine Wl.q rfl (Qy.loadAll 0 T.agg25 rfl rfl rfl) ?_
  refine Wl.call0 rfl T.fn12 rfl (c12 _ _ _ _ _ _ (by omega) (by omega)) ?_
  refine Wl.q rfl (Qy.move rfl) ?_
  apply Wl.joinOr 3 26 29 rfl
  intro hg1
  refine Wl.want rfl rfl ?_
  refine Wl.q rfl (Qy.move rfl) ?_
  refine Wl.want rfl rfl ?_
  refine Wl.q rfl (Qy.notD rfl) ?_
  refine Wl.q rfl (Qy.pick rfl rfl) ?_
  exact Wl.back 3 0 rfl rfl rfl rfl rfl
  intro hg1
  refine Wl.pass rfl rfl rfl ?_
  refine Wl.pass rfl rfl rfl ?_
  refine Wl.q rfl (Qy.pick rfl rfl) ?_
  exact Wl.back 3 0 rfl rfl rfl rfl rfl
  refine Wl.q rfl (Qy.move rfl) ?_
  apply Wl.joinOr 6 30 36 rfl
  intro hg1
  refine Wl.want rfl rfl ?_
  refine Wl.q rfl (Qy.move rfl) ?_
  refine Wl.want rfl rfl ?_
  refine Wl.q rfl (Qy.len T.sl35 rfl) ?_
  refine Wl.want rfl rfl ?_
  refine Wl.q rfl (Qy.fieldAddr T.fa25_0 rfl) ?_
  refine Wl.want rfl rfl ?_
  refine Wl.q rfl (Qy.load 0 T.one3 rfl rfl rfl) ?_
  refine Wl.want rfl rfl ?_
  refine Wl.q rfl (Qy.neq rfl rfl) ?_
  refine Wl.q rfl (Qy.pick rfl rfl) ?_
  exact Wl.back 6 0 rfl rfl rfl rfl rfl
  intro hg1
  refine Wl.pass rfl rfl rfl ?_
  refine Wl.pass rfl rfl rfl ?_
  refine Wl.pass rfl rfl rfl ?_
  refine Wl.pass rfl rfl rfl ?_
  refine Wl.pass rfl rfl rfl ?_
  refine Wl.q rfl (Qy.pick rfl rfl) ?_
  exact Wl.back 6 0 rfl rfl rfl rfl rfl
  refine Wl.q rfl (Qy.move rfl) ?_
  apply Wl.joinOr 4 37 41 rfl
  intro hg1
  refine Wl.want rfl rfl ?_
  refine Wl.q rfl (Qy.loadAll 0 T.agg25 rfl rfl rfl) ?_
  refine Wl.want rfl rfl ?_
  refine Wl.callB 1 rfl T.fn19 rfl (fun Gx hGx hgx => (c19 _ _ _ _ _ _ (by first | exact Arr.up (by assumption) hGx | exact Arr.nil _) (by first | exact Arr.up (by assumption) hGx | exact Arr.nil _) (by omega) (by omega))) (fun v3 Gx3 G3 Ho3 hlx3 hp => ?_)
  obtain ⟨rfl, rfl, rfl⟩ := hp
  refine Wl.want rfl rfl ?_
  refine Wl.q rfl (Qy.gtr rfl rfl) ?_
  refine Wl.q rfl (Qy.pick rfl rfl) ?_
  exact Wl.back 4 0 rfl rfl rfl rfl rfl
  intro hg1
  refine Wl.pass rfl rfl rfl ?_
  refine Wl.pass rfl rfl rfl ?_
  refine Wl.pass rfl rfl rfl ?_
  refine Wl.q rfl (Qy.pick rfl rfl) ?_
  exact Wl.back 4 0 rfl rfl rfl rfl rfl
  refine Wl.done ?_
  refine Ar.next ?_
  refine Wc.cond rfl (fun hc2 => ?_) (fun hc2 => ?_)
  refine Wc.seq ?_
  refine Wc.region rfl ?_
  refine Wl.q rfl (Qy.assign rfl) ?_
  refine Wl.done ?_
  refine Ar.next ?_
  refine Wc.ret ?_
  refine Ar.passRet ?_
  rotate_left
  refine Wc.skip ?_
  refine Ar.next ?_
  rotate_left
  · refine Ar.out1 (.inr rfl) (Ho := []) rfl (.tmp rfl) trivial ?_
    exact ⟨rfl, rfl⟩
  obtain ⟨hcl, hR, hgi⟩ : p.code.length ≤ 150 ∧ rightP p = true ∧ (gl.length : Int) = p.ins := by
    refine ⟨Nat.le_of_not_lt fun h => hc2 (.inl (.inl (.inl (.inl (by omega))))), Classical.not_not.1 fun h => hc2 (.inl (.inl (.inr h))), Classical.not_not.1 fun h => hc2 (.inl (.inr h))⟩
  clear hc2 hc1
  refine Wc.seq ?_
  refine Wc.region rfl ?_
  refine Wl.q rfl (Qy.assign rfl) ?_
  refine Wl.done ?_
  refine Ar.next ?_
  refine Wc.seq ?_
  refine Wc.seq ?_
  refine Wc.region rfl ?_
  refine Wl.q rfl (Qy.assign rfl) ?_
  refine Wl.done ?_
  refine Ar.next ?_
  refine Wc.block ?_
  obtain ⟨hql, hqo⟩ := pass_len hR
  have hRq := (pass_idem hR).1
  obtain ⟨f1, f2, f3, f4, f5, f6, f7, f8⟩ := right_facts hR
  refine Wc.nilRow 6 (Row 40 ([] : List SV) []) ?_
  refine Wc.loopG (ι := Nat × Imm × List SV × (Option Addr × Nat × List Value)) (fun (i, Gx, r, (o, d, j)) => ([(7, .int .i64 (i : Int)), (6, .slice o r.length d), (2, Go.Value.pointer (Option.some (Go.Addr.mk b1 0 Option.none))), (1, Go.Value.slice ga (List.length gl) gc)], [(6, o.map (·.block), Row 40 r j), (0, Option.some b1, Go.Obj.cells #[Go.Value.int Go.IntKind.i64 (Go.Proofs.Ytfleehgbpgmcnaa.PV.ins p), Go.Value.int Go.IntKind.i64 (Go.Proofs.Ytfleehgbpgmcnaa.PV.regs p), Go.Value.slice ac (List.length (Go.Proofs.Ytfleehgbpgmcnaa.PV.code p)) cc, Go.Value.slice ao (List.length (Go.Proofs.Ytfleehgbpgmcnaa.PV.outs p)) co] 25)])) (fun (i, Gx, r, (o, d, j)) => Gx) (fun (i, Gx, r, (o, d, j)) => i ≤ gl.length ∧ G.le Gx ∧ r.length = i ∧ Grid Gx r (ls.take i) ∧ OwnA o d r j ∧ (∀ k : Nat, k < i → (ls[k]?.getD []).length = (ls[0]?.getD []).length ∧ (ls[0]?.getD []).length ≤ 20)) (fun (i, Gx, r, (o, d, j)) => gl.length - i) ((0, G, [], (none, 0, []))) (⟨Nat.zero_le _, Imm.le_refl _, rfl, by rw [List.take_zero]; exact Grid.nil _, OwnA.nil, fun k hk => by omega⟩) rfl ⟨rfl, rfl, rfl, rfl, trivial⟩ ⟨rfl, rfl, trivial⟩ (fun ⟨i, Gx, r, (o, d, j)⟩ => fun (hk : i ≤ gl.length ∧ G.le Gx ∧ r.length = i ∧ Grid Gx r (ls.take i) ∧ OwnA o d r j ∧ (∀ k : Nat, k < i → (ls[k]?.getD []).length = (ls[0]?.getD []).length ∧ (ls[0]?.getD []).length ≤ 20)) => ?_)
  obtain ⟨hi, hgx, hri, hrs, hob, hfit⟩ := hk
  replace hc := hc.up hgx
  replace ho := ho.up hgx
  replace hga := hga.up hgx
  replace hg := hg.up hgx
  rcases Nat.lt_or_ge i gl.length with hia | hia
  · have hg0 := hg.at (m := 0) (by omega)
    have hgI := hg.at (m := (i : Int)) (by omega)
    refine Wc.seq ?_
    refine Wc.seq ?_
    refine Wc.region rfl ?_
    refine Wl.q rfl (Qy.move rfl) ?_
    refine Wl.q rfl (Qy.move rfl) ?_
    refine Wl.q rfl (Qy.len T.sl35 rfl) ?_
    refine Wl.q rfl (Qy.lss rfl rfl) ?_
    refine Wl.done ?_
    refine Ar.next ?_
    refine Wc.condP rfl (by first | assumption | omega) ?_
    refine Wc.skip ?_
    refine Ar.next ?_
    refine Wc.seq ?_
    refine Wc.block ?_
    refine Wc.seq ?_
    refine Wc.seq ?_
    refine Wc.draw [0, 6] [] T.mixed rfl ?_
    refine Gm.q 0 [] (by kernel_rfl) rfl rfl (Qy.move rfl) ?_
    refine Gm.q 1 [] (by kernel_rfl) rfl rfl (Qy.move rfl) ?_
    refine Gm.q 2 [] (by kernel_rfl) rfl rfl (Qy.at (α := SV) T.sl35 rfl rfl (by assumption) (by omega)) ?_
    refine Gm.q 3 [0] (by kernel_rfl) rfl rfl (Qy.loadG T.one38 rfl (Arr.cell (by assumption) (by omega) 0 rfl rfl)) ?_
    refine Gm.q 4 [] (by kernel_rfl) rfl rfl (Qy.len T.sl38 rfl) ?_
    refine Gm.q 5 [] (by kernel_rfl) rfl rfl (Qy.move rfl) ?_
    refine Gm.q 6 [] (by kernel_rfl) rfl rfl (Qy.at (α := SV) T.sl35 rfl rfl (by assumption) (by omega)) ?_
    refine Gm.q 7 [0] (by kernel_rfl) rfl rfl (Qy.loadG T.one38 rfl (Arr.cell (by assumption) (by omega) 0 rfl rfl)) ?_
    refine Gm.q 8 [] (by kernel_rfl) rfl rfl (Qy.len T.sl38 rfl) ?_
    refine Gm.q 9 [] (by kernel_rfl) rfl rfl (Qy.neq rfl rfl) ?_
    refine Gm.q 10 [] (by kernel_rfl) rfl rfl (Qy.move rfl) ?_
    refine Gm.cases 58 rfl (fun hg1 => ?_) (fun hg1 => ?_)
    refine Gm.qNo 11 (by kernel_rfl) rfl rfl rfl rfl ?_
    refine Gm.qNo 12 (by kernel_rfl) rfl rfl rfl rfl ?_
    refine Gm.qNo 13 (by kernel_rfl) rfl rfl rfl rfl ?_
    refine Gm.qNo 14 (by kernel_rfl) rfl rfl rfl rfl ?_
    refine Gm.qNo 15 (by kernel_rfl) rfl rfl rfl rfl ?_
    refine Gm.qNo 16 (by kernel_rfl) rfl rfl rfl rfl ?_
    refine Gm.q 17 [] (by kernel_rfl) rfl rfl (Qy.pick rfl rfl) ?_
    refine Gm.doneA (by kernel_rfl) ⟨rfl, rfl, trivial⟩ (by first | exact Imm.le_refl _ | assumption | (refine Imm.le_trans ?_ (by assumption); first | assumption | (refine Imm.le_trans ?_ (by assumption); assumption))) ?_
    refine Ar.next ?_
    refine Wc.condT rfl ?_
    refine Wc.seq ?_
    refine Wc.region rfl ?_
    refine Wl.q rfl (Qy.assign rfl) ?_
    refine Wl.done ?_
    refine Ar.next ?_
    refine Wc.ret ?_
    refine Ar.passRet ?_
    refine Ar.outRet ?_
    refine Ar.passRet ?_
    refine Ar.passRet ?_
    refine Ar.outRet ?_
    refine Ar.passRet ?_
    rotate_left
    refine Gm.qYes 11 [] (by kernel_rfl) rfl rfl rfl rfl (Qy.move rfl) ?_
    refine Gm.qYes 12 [] (by kernel_rfl) rfl rfl rfl rfl (Qy.move rfl) ?_
    refine Gm.qYes 13 [] (by kernel_rfl) rfl rfl rfl rfl (Qy.at (α := SV) T.sl35 rfl rfl (by assumption) (by omega)) ?_
    refine Gm.qYes 14 [0] (by kernel_rfl) rfl rfl rfl rfl (Qy.loadG T.one38 rfl (Arr.cell (by assumption) (by omega) 0 rfl rfl)) ?_
    refine Gm.qYes 15 [] (by kernel_rfl) rfl rfl rfl rfl (Qy.len T.sl38 rfl) ?_
    refine Gm.qYes 16 [] (by kernel_rfl) rfl rfl rfl rfl (Qy.gtr rfl rfl) ?_
    refine Gm.q 17 [] (by kernel_rfl) rfl rfl (Qy.pick rfl rfl) ?_
    refine Gm.doneA (by kernel_rfl) ⟨rfl, rfl, trivial⟩ (by first | exact Imm.le_refl _ | assumption | (refine Imm.le_trans ?_ (by assumption); first | assumption | (refine Imm.le_trans ?_ (by assumption); assumption))) ?_
    refine Ar.next ?_
    refine Wc.cond rfl (fun hc1 => ?_) (fun hc1 => ?_)
    refine Wc.seq ?_
    refine Wc.region rfl ?_
    refine Wl.q rfl (Qy.assign rfl) ?_
    refine Wl.done ?_
    refine Ar.next ?_
    refine Wc.ret ?_
    refine Ar.passRet ?_
    refine Ar.outRet ?_
    refine Ar.passRet ?_
    refine Ar.passRet ?_
    refine Ar.outRet ?_
    refine Ar.passRet ?_
    rotate_left
    refine Wc.skip ?_
    refine Ar.next ?_
    refine Wc.seq ?_
    refine Wc.region rfl ?_
    refine Wl.lit0 7 rfl T.sl40 (fun b2 => ?_)
    refine Wl.q rfl (Qy.assign rfl) ?_
    refine Wl.done ?_
    refine Ar.next ?_
    rotate_left
    · refine Ar.out1 (.inr rfl) (Ho := []) rfl (.tmp rfl) trivial ?_
      exact ⟨rfl, rfl⟩
    · refine Ar.out1 (.inr rfl) (Ho := []) rfl (.tmp rfl) trivial ?_
      exact ⟨rfl, rfl⟩
    obtain ⟨li, hli⟩ : ∃ li, li = ls[((i : Nat) : Int).toNat]?.getD [] := ⟨_, rfl⟩
    rw [← hli] at hgI
    obtain ⟨gI1, gI2, gI3⟩ := hgI
    skip
    refine Wc.seq ?_
    refine Wc.seq ?_
    refine Wc.region rfl ?_
    refine Wl.q rfl (Qy.assign rfl) ?_
    refine Wl.done ?_
    refine Ar.next ?_
    refine Wc.block ?_
    refine Wc.reH 7 (Row 43 ([] : List IV) []) rfl rfl ?_
    refine Wc.re 8 rfl (show _ = Value.slice (some ⟨b2, 0, none⟩) ([] : List IV).length 0 from rfl) ?_
    refine Wc.loopG (ι := Nat × Imm × List IV × (Option Addr × Nat × List Value)) (fun (k, Gy, r2, (o2, d2, j2)) => ([(9, .int .i64 (k : Int)), (8, .slice o2 r2.length d2), (7, Go.Value.int Go.IntKind.i64 (↑i : Int)), (6, Go.Value.slice o (List.length r) d), (2, Go.Value.pointer (Option.some (Go.Addr.mk b1 0 Option.none))), (1, Go.Value.slice ga (List.length gl) gc)], [(7, o2.map (·.block), Row 43 r2 j2), (6, Option.map (fun x => Go.Addr.block x) o, Go.Sl.Row (α := Go.Sl.SV) 40 (r) (j)), (0, Option.some b1, Go.Obj.cells #[Go.Value.int Go.IntKind.i64 (Go.Proofs.Ytfleehgbpgmcnaa.PV.ins p), Go.Value.int Go.IntKind.i64 (Go.Proofs.Ytfleehgbpgmcnaa.PV.regs p), Go.Value.slice ac (List.length (Go.Proofs.Ytfleehgbpgmcnaa.PV.code p)) cc, Go.Value.slice ao (List.length (Go.Proofs.Ytfleehgbpgmcnaa.PV.outs p)) co] 25)])) (fun (k, Gy, r2, (o2, d2, j2)) => Gy) (fun (k, Gy, r2, (o2, d2, j2)) => k ≤ li.length ∧ Gx.le Gy ∧ r2.length = k ∧ Nums Gy r2 (li.take k) ∧ OwnA o2 d2 r2 j2) (fun (k, Gy, r2, (o2, d2, j2)) => li.length - k) ((0, Gx, [], (some ⟨b2, 0, none⟩, 0, []))) (⟨Nat.zero_le _, Imm.le_refl _, rfl, by rw [List.take_zero]; exact Nums.nil _, .inr ⟨b2, rfl, rfl, Nat.le_refl _, by simp [maxLen]⟩⟩) rfl ⟨rfl, rfl, rfl, rfl, rfl, rfl, trivial⟩ ⟨rfl, rfl, rfl, trivial⟩ (fun ⟨k, Gy, r2, (o2, d2, j2)⟩ => fun (hk : k ≤ li.length ∧ Gx.le Gy ∧ r2.length = k ∧ Nums Gy r2 (li.take k) ∧ OwnA o2 d2 r2 j2) => ?_)
    obtain ⟨hk0, hgy, hr2, hn2, hob2⟩ := hk
    replace hc := hc.up hgy
    replace ho := ho.up hgy
    replace hga := hga.up hgy
    replace hg := hg.up hgy
    replace hrs := hrs.up hgy
    replace gI2 := gI2.up hgy
    rcases Nat.lt_or_ge k li.length with hkl | hkl
    · have hx9 := gI3 (li[((k : Nat) : Int).toNat]?.getD default) (by rw [Int.toNat_natCast, List.getElem?_eq_getElem hkl]; exact List.getElem_mem hkl)
      refine Wc.seq ?_
      refine Wc.seq ?_
      refine Wc.region rfl ?_
      refine Wl.q rfl (Qy.move rfl) ?_
      refine Wl.q rfl (Qy.move rfl) ?_
      refine Wl.q rfl (Qy.move rfl) ?_
      refine Wl.q rfl (Qy.at (α := SV) T.sl35 rfl rfl (by assumption) (by omega)) ?_
      refine Wl.q rfl (Qy.loadG T.one38 rfl (Arr.cell (by assumption) (by omega) 0 rfl rfl)) ?_
      refine Wl.q rfl (Qy.len T.sl38 rfl) ?_
      refine Wl.q rfl (Qy.lss rfl rfl) ?_
      refine Wl.done ?_
      refine Ar.next ?_
      refine Wc.condP rfl (by first | assumption | omega) ?_
      refine Wc.skip ?_
      refine Ar.next ?_
      refine Wc.seq ?_
      refine Wc.block ?_
      refine Wc.region rfl ?_
      refine Wl.q rfl (Qy.move rfl) ?_
      refine Wl.q rfl (Qy.move rfl) ?_
      refine Wl.q rfl (Qy.move rfl) ?_
      refine Wl.q rfl (Qy.at (α := SV) T.sl35 rfl rfl (by assumption) (by omega)) ?_
      refine Wl.q rfl (Qy.loadG T.one38 rfl (Arr.cell (by assumption) (by omega) 0 rfl rfl)) ?_
      refine Wl.q rfl (Qy.move rfl) ?_
      refine Wl.re 80 rfl (show _ = Value.slice (gl[((i : Nat) : Int).toNat]?.getD default).a li.length (gl[((i : Nat) : Int).toNat]?.getD default).c by rw [gI1]) ?_
      refine Wl.q rfl (Qy.at (α := Int) T.sl38 rfl rfl (by assumption) (by omega)) ?_
      refine Wl.q rfl (Qy.loadG T.one2 rfl (Arr.cell (by assumption) (by omega) 0 rfl rfl)) ?_
      refine Wl.call 8 rfl T.fn20 rfl (num_of _ _ hx9) (tags_of trivial) (fun v1 G1 Ho1 hle1 hp => ?_)
      obtain ⟨ri1, rfl, hri1, rfl⟩ := hp
      replace hn2 := hn2.up hle1
      replace hc := hc.up hle1
      replace ho := ho.up hle1
      replace hga := hga.up hle1
      replace hrs := hrs.up hle1
      replace gI2 := gI2.up hle1
      refine Wl.lit (α := IV) 8 [(ri1)] rfl T.sl40 T.el43 rfl rfl rfl rfl rfl (fun b3 => ?_)
      refine Wl.append (α := IV) 7 rfl T.sl40 T.el43 rfl rfl rfl (by first | assumption | exact OwnA.nil | exact OwnA.made (by simp)) (Src.row 8 rfl) (by first | omega | (simp only [List.length_append, List.length_cons, List.length_nil, maxLen]; omega)) (by first | omega | (simp only [List.length_append, List.length_cons, List.length_nil, maxLen]; omega)) (fun a1 c1 junk1 ho1 => ?_)
      refine Wl.q rfl (Qy.assign rfl) ?_
      refine Wl.done ?_
      refine Ar.outNormal ?_
      refine Ar.next ?_
      refine Wc.region rfl ?_
      refine Wl.q rfl (Qy.move rfl) ?_
      refine Wl.q rfl (Qy.add rfl rfl (by omega)) ?_
      refine Wl.q rfl (Qy.assign rfl) ?_
      refine Wl.done ?_
      refine Ar.again ((k + 1, G1, r2 ++ [ri1], (a1, c1, junk1))) ?_ ?_ rfl ⟨rfl, rfl, rfl, rfl, rfl, rfl, trivial⟩ ⟨rfl, rfl, rfl, trivial⟩
      · exact ⟨by omega, Imm.le_trans hgy hle1, by rw [List.length_append]; show r2.length + 1 = k + 1; omega, by rw [take_next hkl]; exact hn2.snoc hri1, ho1⟩
      · show li.length - (k + 1) < li.length - k
        omega
    · refine Wc.seq ?_
      refine Wc.seq ?_
      refine Wc.region rfl ?_
      refine Wl.q rfl (Qy.move rfl) ?_
      refine Wl.q rfl (Qy.move rfl) ?_
      refine Wl.q rfl (Qy.move rfl) ?_
      refine Wl.q rfl (Qy.at (α := SV) T.sl35 rfl rfl (by assumption) (by omega)) ?_
      refine Wl.q rfl (Qy.loadG T.one38 rfl (Arr.cell (by assumption) (by omega) 0 rfl rfl)) ?_
      refine Wl.q rfl (Qy.len T.sl38 rfl) ?_
      refine Wl.q rfl (Qy.lss rfl rfl) ?_
      refine Wl.done ?_
      refine Ar.next ?_
      refine Wc.condN rfl (by first | assumption | omega) ?_
      refine Wc.exit ?_
      refine Ar.passExit ?_
      refine Ar.passExit ?_
      refine Ar.here ?_
      refine Ar.next ?_
      refine Wc.region rfl ?_
      refine Wl.q rfl (Qy.move rfl) ?_
      refine Wl.q rfl (Qy.move rfl) ?_
      refine Wl.lit (α := SV) 8 [⟨_, _, _⟩] rfl T.sl37 T.el40 rfl rfl rfl rfl rfl (fun b3 => ?_)
      refine Wl.append (α := SV) 6 rfl T.sl37 T.el40 rfl rfl rfl (by first | assumption | exact OwnA.nil | exact OwnA.made (by simp)) (Src.row 8 rfl) (by first | omega | (simp only [List.length_append, List.length_cons, List.length_nil, maxLen]; omega)) (by first | omega | (simp only [List.length_append, List.length_cons, List.length_nil, maxLen]; omega)) (fun a1 c1 junk1 ho1 => ?_)
      refine Wl.q rfl (Qy.assign rfl) ?_
      refine Wl.done ?_
      refine Ar.outNormal ?_
      refine Ar.next ?_
      refine Wc.region rfl ?_
      refine Wl.q rfl (Qy.move rfl) ?_
      refine Wl.q rfl (Qy.add rfl rfl (by omega)) ?_
      refine Wl.q rfl (Qy.assign rfl) ?_
      refine Wl.done ?_
      refine Ar.freezeRow 7 rfl hob2 (fun G9 hle9 hA => ?_)
      have hke : k = li.length := by omega
      rw [List.take_of_length_le (by omega)] at hn2
      refine Ar.again ((i + 1, G9, r ++ [⟨o2, r2.length, d2⟩], (a1, c1, junk1))) ?_ ?_ rfl ⟨rfl, rfl, rfl, rfl, trivial⟩ ⟨rfl, rfl, trivial⟩
      · refine ⟨by omega, Imm.le_trans hgx (Imm.le_trans hgy hle9), by rw [List.length_append]; show r.length + 1 = i + 1; omega, ?_, ho1, fun q hq => ?_⟩
        · rw [ls_next (by omega), ← hli]
          exact (hrs.up hle9).snoc ⟨r2, rfl, hob2.le, hA, hn2.up hle9⟩
        · have e0 := hg0.1
          have hc1' : (gl[((i : Nat) : Int).toNat]?.getD default).n = (gl[((0 : Int)).toNat]?.getD default).n := by omega
          have e1 : (ls[((i : Nat) : Int).toNat]?.getD []).length = (ls[((0 : Int)).toNat]?.getD []).length := by rw [← hli, gI1, e0]; exact hc1'
          rw [Int.toNat_natCast] at e1
          by_cases hqi : q = i
          · subst hqi
            refine ⟨e1, ?_⟩
            show (ls[((0 : Int)).toNat]?.getD []).length ≤ 20
            rw [e0]; omega
          · exact hfit q (by omega)
      · show gl.length - (i + 1) < gl.length - i
        omega
  · have hie : i = gl.length := by omega
    subst hie
    have hev : Even 4 (ls[0]?.getD []).length ls := by
      intro zs hz
      obtain ⟨q, hq, rfl⟩ := List.mem_iff_getElem.1 hz
      have h9 := (hfit q (by omega)).1
      rw [List.getElem?_eq_getElem hq] at h9
      refine ⟨h9, fun z hz2 => ?_⟩
      have hr9 := (hg.2 q (by omega)).2.2 z (by rw [List.getElem?_eq_getElem hq]; exact hz2)
      rw [pw4]; omega
    have hN9 : (ls[0]?.getD []).length ≤ 1048576 := by have := (hfit 0 (by omega)).2; omega
    rw [List.take_of_length_le (by omega)] at hrs
    have hpl := (pass_facts hR).1
    have hpf := pass_follow (gs := ls) hR (by omega)
    refine Wc.seq ?_
    refine Wc.seq ?_
    refine Wc.region rfl ?_
    refine Wl.q rfl (Qy.move rfl) ?_
    refine Wl.q rfl (Qy.move rfl) ?_
    refine Wl.q rfl (Qy.len T.sl35 rfl) ?_
    refine Wl.q rfl (Qy.lss rfl rfl) ?_
    refine Wl.done ?_
    refine Ar.next ?_
    refine Wc.condN rfl (by first | assumption | omega) ?_
    refine Wc.exit ?_
    refine Ar.passExit ?_
    refine Ar.passExit ?_
    refine Ar.here ?_
    refine Ar.next ?_
    refine Wc.seq ?_
    refine Wc.region rfl ?_
    refine Wl.q rfl (Qy.loadAll 0 T.agg25 rfl rfl rfl) ?_
    refine Wl.callB 7 rfl T.fn14 rfl (fun Gx hGx hgx => (c14P _ _ _ _ _ _ (by first | exact Arr.up (by assumption) hGx | exact Arr.nil _ | exact Arr.own hgx 6 rfl (by first | assumption | exact OwnA.made (by simp [maxLen]))) (by first | exact Arr.up (by assumption) hGx | exact Arr.nil _ | exact Arr.own hgx 6 rfl (by first | assumption | exact OwnA.made (by simp [maxLen]))) (by omega) (by omega) hR)) (fun v3 Gx3 G3 Ho3 hlx3 hp => ?_)
    obtain ⟨qc3, qo3, qcc3, qoc3, qj3, qk3, rfl, hqc3, hqo3, rfl, rfl⟩ := hp
    refine Wl.q rfl (Qy.move rfl) ?_
    refine Wl.q rfl (Qy.extract rfl rfl) ?_
    refine Wl.q rfl (Qy.extract rfl rfl) ?_
    refine Wl.alloc 9 rfl T.zero25 (fun b2 => ?_)
    refine Wl.storeAll 9 T.size25 rfl rfl rfl rfl rfl rfl ?_
    refine Wl.q rfl (Qy.assign rfl) ?_
    refine Wl.done ?_
    refine Ar.next ?_
    refine Wc.seq ?_
    refine Wc.region rfl ?_
    refine Wl.q rfl (Qy.loadAll 9 T.agg25 rfl rfl rfl) ?_
    refine Wl.callB 10 rfl T.fn15 rfl (fun Gx hGx hgx => (c15 _ _ _ _ _ _ (by first | exact Arr.up (by assumption) hGx | exact Arr.nil _ | exact Arr.own hgx 7 rfl (by first | assumption | exact OwnA.made (by simp [maxLen])) | exact Arr.own hgx 8 rfl (by first | assumption | exact OwnA.made (by simp [maxLen])) | exact Arr.own hgx 6 rfl (by first | assumption | exact OwnA.made (by simp [maxLen]))) (by first | exact Arr.up (by assumption) hGx | exact Arr.nil _ | exact Arr.own hgx 7 rfl (by first | assumption | exact OwnA.made (by simp [maxLen])) | exact Arr.own hgx 8 rfl (by first | assumption | exact OwnA.made (by simp [maxLen])) | exact Arr.own hgx 6 rfl (by first | assumption | exact OwnA.made (by simp [maxLen]))) (by omega) (by omega))) (fun v4 Gx4 G4 Ho4 hlx4 hp => ?_)
    obtain ⟨rfl, rfl, rfl⟩ := hp
    refine Wl.q rfl (Qy.assign rfl) ?_
    refine Wl.done ?_
    refine Ar.next ?_
    refine Wc.seq ?_
    refine Wc.seq ?_
    refine Wc.region rfl ?_
    refine Wl.q rfl (Qy.move rfl) ?_
    refine Wl.q rfl (Qy.neq rfl rfl) ?_
    refine Wl.q rfl (Qy.move rfl) ?_
    refine Wl.no 100 rfl (by first | assumption | omega) ?_
    refine Wl.want rfl rfl ?_
    refine Wl.q rfl (Qy.move rfl) ?_
    refine Wl.want rfl rfl ?_
    refine Wl.q rfl (Qy.notD rfl) ?_
    refine Wl.q rfl (Qy.pick rfl rfl) ?_
    refine Wl.done ?_
    refine Ar.next ?_
    refine Wc.cond rfl (fun hc1 => ?_) (fun hc1 => ?_)
    refine Wc.seq ?_
    refine Wc.region rfl ?_
    refine Wl.q rfl (Qy.assign rfl) ?_
    refine Wl.done ?_
    refine Ar.next ?_
    refine Wc.ret ?_
    refine Ar.passRet ?_
    rotate_left
    refine Wc.skip ?_
    refine Ar.next ?_
    refine Wc.seq ?_
    refine Wc.region rfl ?_
    refine Wl.q rfl (Qy.loadAll 0 T.agg25 rfl rfl rfl) ?_
    refine Wl.q rfl (Qy.move rfl) ?_
    rotate_left
    · exact absurd hRq hc1
    clear hc1
    refine Wl.freezeRow 7 rfl hqc3 (fun G5 hle5 hAc => ?_)
    refine Wl.freezeRow 8 rfl hqo3 (fun G6 hle6 hAo => ?_)
    refine Wl.freezeRow 6 rfl hob (fun G7 hle7 hAg => ?_)
    replace hAc := hAc.up (Imm.le_trans hle6 hle7)
    replace hAo := hAo.up hle7
    have hl57 := Imm.le_trans hle5 (Imm.le_trans hle6 hle7)
    replace hc := hc.up hl57
    replace ho := ho.up hl57
    replace hrs := hrs.up hl57
    by_cases hf : followP p ls = none
    · have hf2 := hpf.trans hf
      refine Wl.call 10 rfl T.fn21 rfl (follow_none _ p _ _ _ _ _ _ r ls _ hc ho hAg hrs hev hN9 hR (by omega) (by omega) hf) (tags_of trivial) (fun v8 G8 Ho8 hle8 hp => ?_)
      obtain ⟨sv8, bad8, rfl, hb8, rfl⟩ := hp
      replace hAc := hAc.up hle8
      replace hAo := hAo.up hle8
      replace hAg := hAg.up hle8
      replace hrs := hrs.up hle8
      refine Wl.q rfl (Qy.move rfl) ?_
      refine Wl.q rfl (Qy.extract rfl rfl) ?_
      refine Wl.q rfl (Qy.extract rfl rfl) ?_
      refine Wl.q rfl (Qy.extract rfl rfl) ?_
      refine Wl.q rfl (Qy.assign rfl) ?_
      refine Wl.q rfl (Qy.assign rfl) ?_
      refine Wl.q rfl (Qy.assign rfl) ?_
      refine Wl.done ?_
      refine Ar.next ?_
      refine Wc.seq ?_
      refine Wc.region rfl ?_
      refine Wl.q rfl (Qy.loadAll 9 T.agg25 rfl rfl rfl) ?_
      refine Wl.q rfl (Qy.move rfl) ?_
      refine Wl.call 10 rfl T.fn21 rfl (follow_none _ (passP p) _ _ _ _ _ _ r ls _ hAc hAo hAg hrs hev hN9 hRq (by rw [pass_ins]; omega) (by omega) hf2) (tags_of trivial) (fun v9 G9 Ho9 hle9 hp => ?_)
      obtain ⟨sv9, bad9, rfl, hb9, rfl⟩ := hp
      refine Wl.q rfl (Qy.move rfl) ?_
      refine Wl.q rfl (Qy.extract rfl rfl) ?_
      refine Wl.q rfl (Qy.extract rfl rfl) ?_
      refine Wl.q rfl (Qy.extract rfl rfl) ?_
      refine Wl.q rfl (Qy.assign rfl) ?_
      refine Wl.q rfl (Qy.assign rfl) ?_
      refine Wl.q rfl (Qy.assign rfl) ?_
      refine Wl.done ?_
      refine Ar.next ?_
      refine Wc.seq ?_
      refine Wc.seq ?_
      refine Wc.region rfl ?_
      refine Wl.q rfl (Qy.move rfl) ?_
      refine Wl.q rfl (Qy.geq rfl rfl) ?_
      refine Wl.q rfl (Qy.move rfl) ?_
      refine Wl.q rfl (Qy.geq rfl rfl) ?_
      refine Wl.q rfl (Qy.neqB T.u4 rfl rfl) ?_
      refine Wl.q rfl (Qy.move rfl) ?_
      apply Wl.joinOr 6 123 129 rfl
      intro hg1
      refine Wl.want rfl rfl ?_
      refine Wl.q rfl (Qy.move rfl) ?_
      refine Wl.want rfl rfl ?_
      refine Wl.q rfl (Qy.len T.sl37 rfl) ?_
      refine Wl.want rfl rfl ?_
      refine Wl.q rfl (Qy.move rfl) ?_
      refine Wl.want rfl rfl ?_
      refine Wl.q rfl (Qy.len T.sl37 rfl) ?_
      refine Wl.want rfl rfl ?_
      refine Wl.q rfl (Qy.neq rfl rfl) ?_
      refine Wl.q rfl (Qy.pick rfl rfl) ?_
      exact Wl.back 6 0 rfl rfl rfl rfl rfl
      intro hg1
      refine Wl.pass rfl rfl rfl ?_
      refine Wl.pass rfl rfl rfl ?_
      refine Wl.pass rfl rfl rfl ?_
      refine Wl.pass rfl rfl rfl ?_
      refine Wl.pass rfl rfl rfl ?_
      refine Wl.q rfl (Qy.pick rfl rfl) ?_
      exact Wl.back 6 0 rfl rfl rfl rfl rfl
      refine Wl.done ?_
      refine Ar.next ?_
      refine Wc.cond rfl (fun hc1 => ?_) (fun hc1 => ?_)
      refine Wc.seq ?_
      refine Wc.region rfl ?_
      refine Wl.q rfl (Qy.assign rfl) ?_
      refine Wl.done ?_
      refine Ar.next ?_
      refine Wc.ret ?_
      refine Ar.passRet ?_
      rotate_left
      refine Wc.skip ?_
      refine Ar.next ?_
      refine Wc.seq ?_
      refine Wc.seq ?_
      refine Wc.region rfl ?_
      refine Wl.q rfl (Qy.assign rfl) ?_
      refine Wl.done ?_
      refine Ar.next ?_
      refine Wc.block ?_
      rotate_left
      · exact absurd hc1 (by simp [hb8, hb9])
      refine Wc.loop (ι := Nat) (fun q => ([(19, .int .i64 (q : Int)), (18, Go.Value.slice Option.none 0 0), (15, Go.Value.slice Option.none 0 0)], [(9, Option.some b2, Go.Obj.cells #[Go.Value.int Go.IntKind.i64 (Go.Proofs.Ytfleehgbpgmcnaa.PV.ins (Go.Proofs.Ytfleehgbpgmcnaa.passP p)), Go.Value.int Go.IntKind.i64 (Go.Proofs.Ytfleehgbpgmcnaa.PV.regs (Go.Proofs.Ytfleehgbpgmcnaa.passP p)), Go.Value.slice qc3 (List.length (Go.Proofs.Ytfleehgbpgmcnaa.PV.code (Go.Proofs.Ytfleehgbpgmcnaa.passP p))) qcc3, Go.Value.slice qo3 (List.length (Go.Proofs.Ytfleehgbpgmcnaa.PV.outs (Go.Proofs.Ytfleehgbpgmcnaa.passP p))) qoc3] 25), (0, Option.some b1, Go.Obj.cells #[Go.Value.int Go.IntKind.i64 (Go.Proofs.Ytfleehgbpgmcnaa.PV.ins p), Go.Value.int Go.IntKind.i64 (Go.Proofs.Ytfleehgbpgmcnaa.PV.regs p), Go.Value.slice ac (List.length (Go.Proofs.Ytfleehgbpgmcnaa.PV.code p)) cc, Go.Value.slice ao (List.length (Go.Proofs.Ytfleehgbpgmcnaa.PV.outs p)) co] 25)])) (fun q => q ≤ 0) (fun q => 0 - q) (0) (Nat.le_refl _) ⟨rfl, rfl, rfl, trivial⟩ ⟨rfl, rfl, trivial⟩ (fun q => fun (hk : q ≤ 0) => ?_)
      have hk : q = 0 := Nat.le_zero.1 hk
      subst hk
      refine Wc.seq ?_
      refine Wc.seq ?_
      refine Wc.region rfl ?_
      refine Wl.q rfl (Qy.move rfl) ?_
      refine Wl.q rfl (Qy.move rfl) ?_
      refine Wl.q rfl (Qy.len T.sl37 rfl) ?_
      refine Wl.q rfl (Qy.lss rfl rfl) ?_
      refine Wl.done ?_
      refine Ar.next ?_
      refine Wc.condN rfl (by first | assumption | omega) ?_
      refine Wc.exit ?_
      refine Ar.passExit ?_
      refine Ar.passExit ?_
      refine Ar.here ?_
      refine Ar.next ?_
      refine Wc.seq ?_
      refine Wc.region rfl ?_
      refine Wl.q rfl (Qy.assign rfl) ?_
      refine Wl.done ?_
      refine Ar.next ?_
      refine Wc.ret ?_
      refine Ar.out1 (.inr rfl) (Ho := []) rfl (.tmp rfl) trivial ?_
      exact ⟨rfl, rfl⟩
    · obtain ⟨os, hf⟩ := Option.ne_none_iff_exists'.1 hf
      have hf2 := hpf.trans hf
      have heo := follow_even hR hev (by omega) hf
      refine Wl.call 10 rfl T.fn21 rfl (follow_some _ p _ _ _ _ _ _ r ls _ hc ho hAg hrs hev hN9 hR (by omega) (by omega) os hf) (tags_of trivial) (fun v8 G8 Ho8 hle8 hp => ?_)
      obtain ⟨sv8, xo, xc, xl, rfl, hxA, hxG, rfl⟩ := hp
      replace hAc := hAc.up hle8
      replace hAo := hAo.up hle8
      replace hAg := hAg.up hle8
      replace hrs := hrs.up hle8
      refine Wl.q rfl (Qy.move rfl) ?_
      refine Wl.q rfl (Qy.extract rfl rfl) ?_
      refine Wl.q rfl (Qy.extract rfl rfl) ?_
      refine Wl.q rfl (Qy.extract rfl rfl) ?_
      refine Wl.q rfl (Qy.assign rfl) ?_
      refine Wl.q rfl (Qy.assign rfl) ?_
      refine Wl.q rfl (Qy.assign rfl) ?_
      refine Wl.done ?_
      refine Ar.next ?_
      refine Wc.seq ?_
      refine Wc.region rfl ?_
      refine Wl.q rfl (Qy.loadAll 9 T.agg25 rfl rfl rfl) ?_
      refine Wl.q rfl (Qy.move rfl) ?_
      refine Wl.call 10 rfl T.fn21 rfl (follow_some _ (passP p) _ _ _ _ _ _ r ls _ hAc hAo hAg hrs hev hN9 hRq (by rw [pass_ins]; omega) (by omega) os hf2) (tags_of trivial) (fun v9 G9 Ho9 hle9 hp => ?_)
      obtain ⟨sv9, yo, yc, yl, rfl, hyA, hyG, rfl⟩ := hp
      replace hxA := hxA.up hle9
      replace hxG := hxG.up hle9
      have hxl := hxG.1
      have hyl := hyG.1
      have hol := follow_len hf
      refine Wl.q rfl (Qy.move rfl) ?_
      refine Wl.q rfl (Qy.extract rfl rfl) ?_
      refine Wl.q rfl (Qy.extract rfl rfl) ?_
      refine Wl.q rfl (Qy.extract rfl rfl) ?_
      refine Wl.q rfl (Qy.assign rfl) ?_
      refine Wl.q rfl (Qy.assign rfl) ?_
      refine Wl.q rfl (Qy.assign rfl) ?_
      refine Wl.done ?_
      refine Ar.next ?_
      refine Wc.seq ?_
      refine Wc.seq ?_
      refine Wc.region rfl ?_
      refine Wl.q rfl (Qy.move rfl) ?_
      refine Wl.q rfl (Qy.geq rfl rfl) ?_
      refine Wl.q rfl (Qy.move rfl) ?_
      refine Wl.q rfl (Qy.geq rfl rfl) ?_
      refine Wl.q rfl (Qy.neqB T.u4 rfl rfl) ?_
      refine Wl.q rfl (Qy.move rfl) ?_
      apply Wl.joinOr 6 123 129 rfl
      intro hg1
      refine Wl.want rfl rfl ?_
      refine Wl.q rfl (Qy.move rfl) ?_
      refine Wl.want rfl rfl ?_
      refine Wl.q rfl (Qy.len T.sl37 rfl) ?_
      refine Wl.want rfl rfl ?_
      refine Wl.q rfl (Qy.move rfl) ?_
      refine Wl.want rfl rfl ?_
      refine Wl.q rfl (Qy.len T.sl37 rfl) ?_
      refine Wl.want rfl rfl ?_
      refine Wl.q rfl (Qy.neq rfl rfl) ?_
      refine Wl.q rfl (Qy.pick rfl rfl) ?_
      exact Wl.back 6 0 rfl rfl rfl rfl rfl
      intro hg1
      refine Wl.pass rfl rfl rfl ?_
      refine Wl.pass rfl rfl rfl ?_
      refine Wl.pass rfl rfl rfl ?_
      refine Wl.pass rfl rfl rfl ?_
      refine Wl.pass rfl rfl rfl ?_
      refine Wl.q rfl (Qy.pick rfl rfl) ?_
      exact Wl.back 6 0 rfl rfl rfl rfl rfl
      refine Wl.done ?_
      refine Ar.next ?_
      refine Wc.cond rfl (fun hc1 => ?_) (fun hc1 => ?_)
      refine Wc.seq ?_
      refine Wc.region rfl ?_
      refine Wl.q rfl (Qy.assign rfl) ?_
      refine Wl.done ?_
      refine Ar.next ?_
      refine Wc.ret ?_
      refine Ar.passRet ?_
      rotate_left
      refine Wc.skip ?_
      refine Ar.next ?_
      refine Wc.seq ?_
      refine Wc.seq ?_
      refine Wc.region rfl ?_
      refine Wl.q rfl (Qy.assign rfl) ?_
      refine Wl.done ?_
      refine Ar.next ?_
      refine Wc.block ?_
      rotate_left
      · exact absurd hc1 (by simp [hxl, hyl])
      clear hc1
      refine Wc.loop (ι := Nat) (fun q => ([(19, .int .i64 (q : Int)), (18, Go.Value.slice yo (List.length yl) yc), (15, Go.Value.slice xo (List.length xl) xc)], [(9, Option.some b2, Go.Obj.cells #[Go.Value.int Go.IntKind.i64 (Go.Proofs.Ytfleehgbpgmcnaa.PV.ins (Go.Proofs.Ytfleehgbpgmcnaa.passP p)), Go.Value.int Go.IntKind.i64 (Go.Proofs.Ytfleehgbpgmcnaa.PV.regs (Go.Proofs.Ytfleehgbpgmcnaa.passP p)), Go.Value.slice qc3 (List.length (Go.Proofs.Ytfleehgbpgmcnaa.PV.code (Go.Proofs.Ytfleehgbpgmcnaa.passP p))) qcc3, Go.Value.slice qo3 (List.length (Go.Proofs.Ytfleehgbpgmcnaa.PV.outs (Go.Proofs.Ytfleehgbpgmcnaa.passP p))) qoc3] 25), (0, Option.some b1, Go.Obj.cells #[Go.Value.int Go.IntKind.i64 (Go.Proofs.Ytfleehgbpgmcnaa.PV.ins p), Go.Value.int Go.IntKind.i64 (Go.Proofs.Ytfleehgbpgmcnaa.PV.regs p), Go.Value.slice ac (List.length (Go.Proofs.Ytfleehgbpgmcnaa.PV.code p)) cc, Go.Value.slice ao (List.length (Go.Proofs.Ytfleehgbpgmcnaa.PV.outs p)) co] 25)])) (fun q => q ≤ xl.length) (fun q => xl.length - q) (0) (Nat.zero_le _) ⟨rfl, rfl, rfl, trivial⟩ ⟨rfl, rfl, trivial⟩ (fun q => fun (hk : q ≤ xl.length) => ?_)
      rcases Nat.lt_or_ge q xl.length with hqx | hqx
      · have hxR := hxG.at (m := (q : Int)) (by omega)
        have hyR := hyG.at (m := (q : Int)) (by omega)
        obtain ⟨hbL, hbB⟩ := heo.at (k := (q : Int)) (by omega)
        have hmm : 4 + 5 * p.code.length ≤ 1073741824 := by omega
        have hnx : (xl[((q : Nat) : Int).toNat]?.getD default).n ≤ 1048576 := by rw [hxR.len, hbL]; exact hN9
        have hny : (yl[((q : Nat) : Int).toNat]?.getD default).n ≤ 1048576 := by rw [hyR.len, hbL]; exact hN9
        refine Wc.seq ?_
        refine Wc.seq ?_
        refine Wc.region rfl ?_
        refine Wl.q rfl (Qy.move rfl) ?_
        refine Wl.q rfl (Qy.move rfl) ?_
        refine Wl.q rfl (Qy.len T.sl37 rfl) ?_
        refine Wl.q rfl (Qy.lss rfl rfl) ?_
        refine Wl.done ?_
        refine Ar.next ?_
        refine Wc.condP rfl (by first | assumption | omega) ?_
        refine Wc.skip ?_
        refine Ar.next ?_
        refine Wc.seq ?_
        refine Wc.block ?_
        refine Wc.seq ?_
        refine Wc.draw [0, 9] [] T.mixed rfl ?_
        refine Gm.q 0 [] (by kernel_rfl) rfl rfl (Qy.move rfl) ?_
        refine Gm.q 1 [] (by kernel_rfl) rfl rfl (Qy.move rfl) ?_
        refine Gm.q 2 [] (by kernel_rfl) rfl rfl (Qy.at (α := SV) T.sl37 rfl rfl (by assumption) (by omega)) ?_
        refine Gm.q 3 [0] (by kernel_rfl) rfl rfl (Qy.loadG T.one40 rfl (Arr.cell (by assumption) (by omega) 0 rfl rfl)) ?_
        refine Gm.q 4 [] (by kernel_rfl) rfl rfl (Qy.move rfl) ?_
        refine Gm.q 5 [] (by kernel_rfl) rfl rfl (Qy.move rfl) ?_
        refine Gm.q 6 [] (by kernel_rfl) rfl rfl (Qy.at (α := SV) T.sl37 rfl rfl (by assumption) (by omega)) ?_
        refine Gm.q 7 [0] (by kernel_rfl) rfl rfl (Qy.loadG T.one40 rfl (Arr.cell (by assumption) (by omega) 0 rfl rfl)) ?_
        refine Gm.one 8 ⟨rfl, rfl, trivial⟩ (by first | exact Imm.le_refl _ | assumption | (refine Imm.le_trans ?_ (by assumption); first | assumption | (refine Imm.le_trans ?_ (by assumption); assumption))) (by kernel_rfl) rfl ?_
        refine Wl.call0 rfl T.fn22 rfl (row_same _ _ _ _ _ hxR hyR _ hmm hbB hbB hnx hny) ?_
        refine Wl.on0 ?_
        refine Gm.q 9 [] (by kernel_rfl) rfl rfl (Qy.notD rfl) ?_
        refine Gm.doneA (by kernel_rfl) ⟨rfl, rfl, trivial⟩ (by first | exact Imm.le_refl _ | assumption | (refine Imm.le_trans ?_ (by assumption); first | assumption | (refine Imm.le_trans ?_ (by assumption); assumption))) ?_
        refine Ar.next ?_
        refine Wc.cond rfl (fun hc1 => ?_) (fun hc1 => ?_)
        refine Wc.seq ?_
        refine Wc.region rfl ?_
        refine Wl.q rfl (Qy.assign rfl) ?_
        refine Wl.done ?_
        refine Ar.next ?_
        refine Wc.ret ?_
        refine Ar.outRet ?_
        refine Ar.passRet ?_
        refine Ar.passRet ?_
        refine Ar.outRet ?_
        refine Ar.passRet ?_
        rotate_left
        refine Wc.skip ?_
        refine Ar.outNormal ?_
        refine Ar.next ?_
        refine Wc.region rfl ?_
        refine Wl.q rfl (Qy.move rfl) ?_
        refine Wl.q rfl (Qy.add rfl rfl (by omega)) ?_
        refine Wl.q rfl (Qy.assign rfl) ?_
        refine Wl.done ?_
        rotate_left
        · exact absurd rfl hc1
        refine Ar.again (q + 1) ?_ ?_ rfl ⟨rfl, rfl, rfl, trivial⟩ ⟨rfl, rfl, trivial⟩
        · exact hqx
        · show xl.length - (q + 1) < xl.length - q
          omega
      · refine Wc.seq ?_
        refine Wc.seq ?_
        refine Wc.region rfl ?_
        refine Wl.q rfl (Qy.move rfl) ?_
        refine Wl.q rfl (Qy.move rfl) ?_
        refine Wl.q rfl (Qy.len T.sl37 rfl) ?_
        refine Wl.q rfl (Qy.lss rfl rfl) ?_
        refine Wl.done ?_
        refine Ar.next ?_
        refine Wc.condN rfl (by first | assumption | omega) ?_
        refine Wc.exit ?_
        refine Ar.passExit ?_
        refine Ar.passExit ?_
        refine Ar.here ?_
        refine Ar.next ?_
        refine Wc.seq ?_
        refine Wc.region rfl ?_
        refine Wl.q rfl (Qy.assign rfl) ?_
        refine Wl.done ?_
        refine Ar.next ?_
        refine Wc.ret ?_
        refine Ar.out1 (.inr rfl) (Ho := []) rfl (.tmp rfl) trivial ?_
        exact ⟨rfl, rfl⟩
end Go.Proofs.Ytfleehgbpgmcnaa
