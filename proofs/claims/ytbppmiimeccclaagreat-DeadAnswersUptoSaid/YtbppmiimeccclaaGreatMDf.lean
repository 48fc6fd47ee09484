/- Parts of the proof (part 6): what the rows' text needs of the texts that lead to it. -/
import Derived.Test.YtbppmiimeccclaaGreatMDe
set_option linter.unusedVariables false
set_option linter.unusedSimpArgs false
set_option linter.unusedSectionVars false
set_option linter.unusedVariables false
namespace Go.Proofs.YtbppmiimeccclaaGreat
open Go Go.Sl
theorem steps_below {p : PV} {zs : List Int} {m : Nat} (hm : Below m zs) (hmay : ∀ i ∈ p.code, mayOk i p.regs = true) : ∀ {k : Nat} {rs : List Int}, k ≤ p.code.length → stepsZ p zs k = some rs → Below (m + 3 * k) rs
  | 0, rs, _, h => by unfold stepsZ at h; cases h; exact hm
  | k + 1, rs, hk, h => by
    unfold stepsZ at h
    cases h1 : stepsZ p zs k with
    | none => rw [h1] at h; cases h
    | some r1 =>
      rw [h1] at h
      simp only [Option.bind_some] at h
      obtain ⟨x, hx, rfl⟩ := Option.map_eq_some_iff.1 h
      have ih := steps_below hm hmay (by omega) h1
      have hmem : (p.code[((k : Nat) : Int).toNat]?.getD default) ∈ p.code := by
        rw [Int.toNat_natCast, List.getElem?_eq_getElem (by omega)]; exact List.getElem_mem _
      obtain ⟨m1, m2, m3, m4, m5, m6, m7, m8⟩ := may_facts (hmay _ hmem)
      have hs := doZ_small ih (fun h => Int.lt_of_lt_of_le (m6 (by omega) (by omega) (by omega) (by omega)).2 pw5_pb3) hx
      rw [show m + 3 * (k + 1) = m + 3 * k + 3 by omega]
      exact below_set (ih.mono (by omega)) hs _
theorem ans_below {p : PV} {zs os : List Int} {m : Nat} (hR : rightP p = true) (hm : Below m zs) (h : ansZ p zs = some os) : Below (m + 49152) os := by
  obtain ⟨f1, f2, f3, f4, f5, f6, f7, f8⟩ := right_facts hR
  unfold ansZ at h
  obtain ⟨rs, hrs, rfl⟩ := Option.map_eq_some_iff.1 h
  have hb := (steps_below (below_append hm (below_zeros m _)) f8 (Nat.le_refl _) hrs).mono (show m + 3 * p.code.length ≤ m + 49152 by omega)
  intro z hz
  unfold outsZ at hz
  obtain ⟨r, _, rfl⟩ := List.mem_map.1 hz
  exact hb.at _
end Go.Proofs.YtbppmiimeccclaaGreat
set_option maxRecDepth 100000
set_option linter.unusedVariables false
namespace Go.Proofs.YtbppmiimeccclaaGreat
open Go Go.Sl
set_option maxHeartbeats 4000000
theorem low2 {y : List Int} (hy : ∀ z ∈ y, -9223372036854775808 ≤ z ∧ z ≤ 9223372036854775807) : Below 2 y := fun z hz => by
  have := hy z hz
  have h64 : pb 2 = 18446744073709551616 := by unfold pb; decide
  omega
theorem dead_ins (p : PV) : p.ins = (deadP p).ins := rfl
theorem dead_good {p : PV} {gs : List (List Int)} (h : GoodG p gs) : GoodG (deadP p) gs := h
attribute [local irreducible] valB pb cmpZ lstWp p2 cst doI doZ denP deadP ansZ followP rightP checkP GoodG Below
theorem c20E (G : Imm) (a : Option Addr) (c : Nat) (l : List Int) (ha : Arr G a l) (h1 : l.length ≤ 1048576) (hl : ∀ x ∈ l, -9223372036854775808 ≤ x ∧ x ≤ 9223372036854775807) :
    Does Tryz.prog 20 [.slice a l.length c] G [] (fun v G' Ho => ∃ (b : Option Addr) (r : List IV) (c' : Nat), v = .slice b r.length c' ∧ Arr G' b r ∧ Bigs G' r l ∧ r.length = l.length ∧ r.length ≤ c' ∧ Ho = []) :=
  (c20 G a c l ha h1 hl).mono fun v G' Ho _ ⟨b, r, c', e1, e2, e3, e4, e5⟩ => ⟨b, r, c', e1, e2, e3, e3.1, e4, e5⟩
theorem c17D (G : Imm) (p q : PV) (ac ao : Option Addr) (cc co : Nat) (hc : Arr G ac p.code) (ho : Arr G ao p.outs) (h1 : p.code.length ≤ 1099511627776) (h2 : p.outs.length ≤ 1099511627776) (hR : rightP p = true) (hq : q = deadP p) :
    Does Tryz.prog 17 [.agg #[.int .i64 p.ins, .int .i64 p.regs, .slice ac p.code.length cc, .slice ao p.outs.length co]] G [] (fun v G' Ho =>
      ∃ bc bo dc do_, v = .tuple #[.agg #[.int .i64 q.ins, .int .i64 q.regs, .slice bc q.code.length dc, .slice bo q.outs.length do_], .int .i64 0] ∧ Arr G' bc q.code ∧ Arr G' bo q.outs ∧ Ho = []) :=
  (c17F G p ac ao cc co hc ho h1 h2).mono fun v G' Ho _ ⟨q', e, bc, bo, dc, do_, e1, ⟨e2, e3⟩, e4, e5, e6⟩ => by
    have e7 : q' = q := by rw [e2, hq]; unfold deadE; rw [if_pos hR]
    have e8 : e = 0 := by rw [e3]; unfold errP; rw [if_pos hR]
    subst e7
    subst e8
    exact ⟨bc, bo, dc, do_, e1, e4, e5, e6⟩
theorem c17W' (G : Imm) (p : PV) (ac ao : Option Addr) (cc co : Nat) (hc : Arr G ac p.code) (ho : Arr G ao p.outs) (h1 : p.code.length ≤ 1099511627776) (h2 : p.outs.length ≤ 1099511627776) (hR : ¬ rightP p = true) :
    Does Tryz.prog 17 [.agg #[.int .i64 p.ins, .int .i64 p.regs, .slice ac p.code.length cc, .slice ao p.outs.length co]] G [] (fun v G' Ho =>
      ∃ bc bo dc do_, v = .tuple #[.agg #[.int .i64 0, .int .i64 0, .slice bc 0 dc, .slice bo 0 do_], .int .i64 80] ∧ Ho = []) :=
  (c17F G p ac ao cc co hc ho h1 h2).mono fun v G' Ho _ ⟨q', e, bc, bo, dc, do_, e1, ⟨e2, e3⟩, e4, e5, e6⟩ => by
    have e7 : q' = ⟨0, 0, [], []⟩ := by rw [e2]; unfold deadE; rw [if_neg hR]
    have e8 : e = 80 := by rw [e3]; unfold errP; rw [if_neg hR]
    subst e7
    subst e8
    exact ⟨bc, bo, dc, do_, e1, e6⟩
theorem c5W (G : Imm) (p : PV) (ac ao ai ga : Option Addr) (cc co ci gc : Nat) (l : List Int) (gl : List SV) (hc : Arr G ac p.code) (ho : Arr G ao p.outs) (h1 : p.code.length ≤ 1099511627776) (h2 : p.outs.length ≤ 1099511627776) (hR : ¬ rightP p = true) :
    Does Tryz.prog 5 [.agg #[.int .i64 p.ins, .int .i64 p.regs, .slice ac p.code.length cc, .slice ao p.outs.length co], .slice ai l.length ci, .slice ga gl.length gc] G [] (fun v G' Ho => v = .bool true ∧ Ho = []) := by
  refine Does.enter Tryz.func5 rfl Tryz.ntmps5 rfl (fun w => ?_)
  refine Wc.gl 2 [] ?_
  refine Wl.box 0 rfl rfl rfl (fun b1 => ?_)
  refine Wl.gl 6 [] ?_
  refine Wl.k0 rfl (c15 _) ?_
  refine Wl.gl 10 [0, 0] ?_
  refine Wl.k0 rfl (c16 _ p _ _ _ _ h1 h2) ?_
  refine Wl.ll0 1 [] ?_
  apply Wl.joinOr 4 30 34 rfl
  intro hg1
  refine Wl.ll0 7 [] ?_
  exact Wl.back 4 0 rfl rfl rfl rfl rfl
  intro hg1
  refine Wl.ll0 4 [] ?_
  exact Wl.back 4 0 rfl rfl rfl rfl rfl
  refine Wl.ll0 1 [] ?_
  apply Wl.joinOr 5 35 40 rfl
  intro hg1
  refine Wl.ll0 9 [0] ?_
  exact Wl.back 5 0 rfl rfl rfl rfl rfl
  intro hg1
  refine Wl.ll0 5 [] ?_
  exact Wl.back 5 0 rfl rfl rfl rfl rfl
  refine Wl.ll0 1 [] ?_
  apply Wl.joinOr 4 41 45 rfl
  intro hg1
  refine Wl.ll0 7 [0] ?_
  exact Wl.back 4 0 rfl rfl rfl rfl rfl
  intro hg1
  refine Wl.ll0 4 [] ?_
  exact Wl.back 4 0 rfl rfl rfl rfl rfl
  refine Wl.ll0 1 [] ?_
  apply Wl.joinOr 4 46 50 rfl
  intro hg1
  refine Wl.ll0 7 [] ?_
  exact Wl.back 4 0 rfl rfl rfl rfl rfl
  intro hg1
  refine Wl.ll0 4 [] ?_
  exact Wl.back 4 0 rfl rfl rfl rfl rfl
  refine Wl.gc 2 [] ?_
  refine Wc.cond rfl (fun hc1 => ?_) (fun hc1 => ?_)
  refine Wc.ga 7 [] ?_
  refine Ar.e1 ?_
  rotate_left
  refine Wc.gl 5 [0] ?_
  refine Wl.k 1 rfl (c17W' _ p _ _ _ _ (by assumption) (by assumption) h1 h2 hR) (fun v1 G1 Ho1 hle1 hp => ?_)
  obtain ⟨bc1, bo1, dc1, dd1, rfl, rfl⟩ := hp
  replace hc := hc.up hle1
  replace ho := ho.up hle1
  refine Wl.ll0 3 [] ?_
  refine Wl.alloc 1 rfl T.zero25 (fun b2 => ?_)
  refine Wl.ga 21 [1, 1] ?_
  refine Ar.e1 ?_
  rotate_left
  all_goals exact ⟨rfl, rfl⟩
theorem c21V (G : Imm) (a b : Option Addr) (ca cb : Nat) (la lb : List IV) (os : List Int) (ha : Arr G a la) (hb : Arr G b lb) (hA : Bigs G la os) (hB : Bigs G lb os) (h1 : la.length ≤ 1048576) (h2 : lb.length ≤ 1048576) (ba : Below 49154 os) :
    Does Tryz.prog 21 [.slice a la.length ca, .slice b lb.length cb] G [] (fun v G' Ho => v = .bool true ∧ G' = G ∧ Ho = []) := by
  have h := c21 G a b ca cb la lb os os ha hb hA hB h1 h2 49154 (by decide) ba ba
  rw [decide_eq_true rfl] at h; exact h
theorem c5Y (G : Imm) (p : PV) (ac ao ai ga : Option Addr) (cc co ci gc : Nat) (l : List Int) (gl : List SV) (ls : List (List Int)) (hc : Arr G ac p.code) (ho : Arr G ao p.outs) (hi : Arr G ai l) (hga : Arr G ga gl) (hgg : IGrid G gl ls) (h1 : p.code.length ≤ 1099511627776) (h2 : p.outs.length ≤ 1099511627776) (h3 : l.length ≤ 1048576) (hlr : ∀ x ∈ l, -9223372036854775808 ≤ x ∧ x ≤ 9223372036854775807) (h4 : gl.length ≤ 1048576) (h5 : ∀ z ∈ ls, z.length ≤ 1048576) (hR : rightP p = true) :
    Does Tryz.prog 5 [.agg #[.int .i64 p.ins, .int .i64 p.regs, .slice ac p.code.length cc, .slice ao p.outs.length co], .slice ai l.length ci, .slice ga gl.length gc] G [] (fun v G' Ho => v = .bool true ∧ Ho = []) := by
  obtain ⟨q, hq⟩ : ∃ q, q = deadP p := ⟨_, rfl⟩
  have hRq : rightP q = true := by rw [hq]; exact dead_right hR
  have hrq := right_facts hRq
  have h1q : q.code.length ≤ 1099511627776 := by omega
  have h2q : q.outs.length ≤ 1099511627776 := by omega
  have hiq : p.ins = q.ins := by rw [hq]; exact dead_ins p
  have hb2 := low2 hlr
  have hp128 := (right_facts hR).2.2.2.2.2.1
  have hq128 := (right_facts hRq).2.2.2.2.2.1
  refine Does.enter Tryz.func5 rfl Tryz.ntmps5 rfl (fun w => ?_)
  refine Wc.nilRow 0 (Row 44 ([] : List SV) []) ?_
  refine Wc.gl 2 [] ?_
  refine Wl.box 1 rfl rfl rfl (fun b1 => ?_)
  refine Wl.gl 6 [] ?_
  refine Wl.k0 rfl (c15 _) ?_
  refine Wl.gl 10 [0, 1] ?_
  refine Wl.k0 rfl (c16 _ p _ _ _ _ h1 h2) ?_
  refine Wl.ll0 1 [] ?_
  apply Wl.joinOr 4 30 34 rfl
  intro hg1
  refine Wl.ll0 7 [] ?_
  exact Wl.back 4 0 rfl rfl rfl rfl rfl
  intro hg1
  refine Wl.ll0 4 [] ?_
  exact Wl.back 4 0 rfl rfl rfl rfl rfl
  refine Wl.ll0 1 [] ?_
  apply Wl.joinOr 5 35 40 rfl
  intro hg1
  refine Wl.ll0 9 [1] ?_
  exact Wl.back 5 0 rfl rfl rfl rfl rfl
  intro hg1
  refine Wl.ll0 5 [] ?_
  exact Wl.back 5 0 rfl rfl rfl rfl rfl
  refine Wl.ll0 1 [] ?_
  apply Wl.joinOr 4 41 45 rfl
  intro hg1
  refine Wl.ll0 7 [1] ?_
  exact Wl.back 4 0 rfl rfl rfl rfl rfl
  intro hg1
  refine Wl.ll0 4 [] ?_
  exact Wl.back 4 0 rfl rfl rfl rfl rfl
  refine Wl.ll0 1 [] ?_
  apply Wl.joinOr 4 46 50 rfl
  intro hg1
  refine Wl.ll0 7 [] ?_
  exact Wl.back 4 0 rfl rfl rfl rfl rfl
  intro hg1
  refine Wl.ll0 4 [] ?_
  exact Wl.back 4 0 rfl rfl rfl rfl rfl
  refine Wl.gc 2 [] ?_
  refine Wc.cond rfl (fun hc1 => ?_) (fun hc1 => ?_)
  refine Wc.ga 7 [] ?_
  rotate_left
  refine Wc.gl 5 [1] ?_
  refine Wl.k 2 rfl (c17D _ p q _ _ _ _ (by assumption) (by assumption) h1 h2 hR hq) (fun v1 G1 Ho1 hle1 hp => ?_)
  obtain ⟨bc1, bo1, dc1, dd1, rfl, hbc1, hbo1, rfl⟩ := hp
  replace hc := hc.up hle1
  replace ho := ho.up hle1
  replace hi := hi.up hle1
  replace hga := hga.up hle1
  refine Wl.ll0 3 [] ?_
  refine Wl.alloc 2 rfl T.zero25 (fun b2 => ?_)
  refine Wl.gl 17 [2, 0, 2] ?_
  refine Wl.k0 rfl (c18R _ q _ _ _ _ (by assumption) (by assumption) h1q h2q hRq) ?_
  refine Wl.gc 8 [] ?_
  refine Wc.draw [0, 1, 2] [(2, 3), (1, 3), (0, 3)] T.mixed rfl ?_
  refine Gm.c 0 [1] [1] ?_
  refine Gm.c 1 [] [] ?_
  refine Gm.o1 2 ?_
  refine Wl.k 3 rfl (c20E _ _ _ l (by assumption) h3 hlr) (fun v2 G2 Ho2 hle2 hp => ?_)
  obtain ⟨ob2, or2, oc2, rfl, hoA2, hoB2, hoL2, hoC2, rfl⟩ := hp
  replace hbc1 := hbc1.up hle2
  replace hbo1 := hbo1.up hle2
  replace hc := hc.up hle2
  replace ho := ho.up hle2
  replace hi := hi.up hle2
  replace hga := hga.up hle2
  refine Wl.on0 ?_
  refine Gm.o1 3 ?_
  rotate_left
  · refine Ar.e1 ?_
    exact ⟨rfl, rfl⟩
  refine Wl.k 30 rfl (c19U _ p ac ao ob2 cc co oc2 or2 l hc ho hoA2 hoB2 hb2 hR (by omega)) (fun v3 G3 Ho3 hle3 hp => ?_)
  obtain ⟨b3', r3, c3, k3, e3, rfl, hA3, hy3, hz3, rfl⟩ := hp
  replace hc := hc.up hle3
  replace ho := ho.up hle3
  replace hi := hi.up hle3
  replace hga := hga.up hle3
  replace hbc1 := hbc1.up hle3
  replace hbo1 := hbo1.up hle3
  refine Wl.on0 ?_
  refine Gm.c 4 [] [] ?_
  refine Gm.c 5 [] [] ?_
  refine Gm.c 6 [] [] ?_
  refine Gm.c 7 [] [] ?_
  refine Gm.c 8 [] [] ?_
  refine Gm.c 9 [] [] ?_
  refine Gm.c 10 [] [] ?_
  refine Gm.doneA (by kernel_rfl) trivial (by first | exact Imm.le_refl _ | repeat (first | assumption | refine Imm.le_trans ?_ (by assumption))) ?_
  refine Ar.gc 2 [] ?_
  refine Wc.draw [0, 1, 2] [(2, 3), (1, 3), (0, 3)] T.mixed rfl ?_
  refine Gm.c 0 [2] [2] ?_
  refine Gm.c 1 [] [] ?_
  refine Gm.o1 2 ?_
  refine Wl.k 3 rfl (c20E _ _ _ l (by assumption) h3 hlr) (fun v4 G4 Ho4 hle4 hp => ?_)
  obtain ⟨ob4, or4, oc4, rfl, hoA4, hoB4, hoL4, hoC4, rfl⟩ := hp
  replace hA3 := hA3.up hle4
  replace hc := hc.up hle4
  replace ho := ho.up hle4
  replace hi := hi.up hle4
  replace hga := hga.up hle4
  replace hbc1 := hbc1.up hle4
  replace hbo1 := hbo1.up hle4
  refine Wl.on0 ?_
  refine Gm.o1 3 ?_
  refine Wl.k 31 rfl (c19U _ q bc1 bo1 ob4 dc1 dd1 oc4 or4 l hbc1 hbo1 hoA4 hoB4 hb2 hRq (by omega)) (fun v5 G5 Ho5 hle5 hp => ?_)
  obtain ⟨b5', r5, c5', k5, e5, rfl, hA5, hy5, hz5, rfl⟩ := hp
  replace hc := hc.up hle5
  replace ho := ho.up hle5
  replace hga := hga.up hle5
  replace hbc1 := hbc1.up hle5
  replace hbo1 := hbo1.up hle5
  replace hA3 := hA3.up hle5
  have hle35 := Imm.le_trans hle4 hle5
  refine Wl.on0 ?_
  refine Gm.c 4 [] [] ?_
  refine Gm.c 5 [] [] ?_
  refine Gm.c 6 [] [] ?_
  refine Gm.c 7 [] [] ?_
  refine Gm.c 8 [] [] ?_
  refine Gm.c 9 [] [] ?_
  refine Gm.c 10 [] [] ?_
  refine Gm.doneA (by kernel_rfl) trivial (by first | exact Imm.le_refl _ | repeat (first | assumption | refine Imm.le_trans ?_ (by assumption))) ?_
  refine Ar.next ?_
  refine Wc.meet (ι := Unit) (fun _ => ([(3, .pointer (some ⟨b1, 0, none⟩)), (7, .pointer (some ⟨b2, 0, none⟩)), (2, .slice ga gl.length gc), (13, Go.Value.int Go.IntKind.i64 e3), (8, Go.Value.int Go.IntKind.i64 0)], [(2, Option.some b2, Go.Obj.cells #[Go.Value.int Go.IntKind.i64 (Go.Proofs.YtbppmiimeccclaaGreat.PV.ins q), Go.Value.int Go.IntKind.i64 (Go.Proofs.YtbppmiimeccclaaGreat.PV.regs q), Go.Value.slice bc1 (List.length (Go.Proofs.YtbppmiimeccclaaGreat.PV.code q)) dc1, Go.Value.slice bo1 (List.length (Go.Proofs.YtbppmiimeccclaaGreat.PV.outs q)) dd1] 25), (1, Option.some b1, Go.Obj.cells #[Go.Value.int Go.IntKind.i64 (Go.Proofs.YtbppmiimeccclaaGreat.PV.ins p), Go.Value.int Go.IntKind.i64 (Go.Proofs.YtbppmiimeccclaaGreat.PV.regs p), Go.Value.slice ac (List.length (Go.Proofs.YtbppmiimeccclaaGreat.PV.code p)) cc, Go.Value.slice ao (List.length (Go.Proofs.YtbppmiimeccclaaGreat.PV.outs p)) co] 25), (0, Option.none, Go.Sl.Row (α := Go.Sl.SV) 44 ([]) ([]))])) (fun _ => True) ?_ (fun _ => fun (hk : True) => ?_)
  · by_cases he3 : e3 = 0
    · obtain ⟨os, hn, hos, hB3, hl3⟩ := hy3 he3
      have hosq : ansZ q l = some os := by rw [hq]; exact dead_ansZ hR (by rw [← hoL2]; exact hn) hos
      have he5 := hz5 (by rw [hoL4, ← hoL2, ← hiq]; exact hn) (fun h => by rw [hosq] at h; cases h)
      obtain ⟨os', hn', hos', hB5, hl5⟩ := hy5 he5
      rw [hosq] at hos'
      cases hos'
      subst he3
      subst he5
      have hB3' := hB3.up hle35
      have hbo := ans_below (m := 2) hR hb2 hos
      have hl3' : r3.length ≤ 1048576 := by omega
      have hl5' : r5.length ≤ 1048576 := by omega
      refine Wc.gl 5 [] ?_
      refine Wl.no 83 rfl (by first | assumption | omega) ?_
      refine Wl.ll0 6 [] ?_
      refine Wl.yes 86 rfl (by first | assumption | omega) ?_
      refine Wl.ll0 6 [] ?_
      refine Wl.no 89 rfl (by first | assumption | omega) ?_
      refine Wl.ll0 5 [] ?_
      refine Wl.k0 rfl (c21V _ _ _ _ _ r3 r5 os hA3 hA5 hB3' hB5 hl3' hl5' hbo) ?_
      refine Wl.ga 11 [0] ?_
      refine Ar.meet (()) ?_ rfl ⟨rfl, rfl, rfl, rfl, rfl, trivial⟩ ⟨rfl, rfl, rfl, trivial⟩
      exact trivial
    · refine Wc.gl 5 [] ?_
      refine Wl.no 83 rfl (by first | assumption | omega) ?_
      refine Wl.ll0 6 [] ?_
      refine Wl.no 86 rfl (by first | assumption | omega) ?_
      refine Wl.ll0 3 [] ?_
      refine Wl.passU rfl rfl rfl ?_
      refine Wl.passU rfl rfl rfl ?_
      refine Wl.passU rfl rfl rfl ?_
      refine Wl.passU rfl rfl rfl ?_
      refine Wl.ga 8 [0] ?_
      refine Ar.meet (()) ?_ rfl ⟨rfl, rfl, rfl, rfl, rfl, trivial⟩ ⟨rfl, rfl, rfl, trivial⟩
      exact trivial
  refine Wc.gl 3 [1] ?_
  refine Wl.k 32 rfl (c22 _ p ac ao cc co hc ho hR) (fun v6 G6 Ho6 hle6 hp => ?_)
  obtain ⟨rfl, hp⟩ := hp
  replace hc := hc.up hle6
  replace ho := ho.up hle6
  replace hga := hga.up hle6
  replace hbc1 := hbc1.up hle6
  replace hbo1 := hbo1.up hle6
  have hle06 : G2.le G6 := Imm.le_trans hle3 (Imm.le_trans hle35 hle6)
  have hsame : ∀ os os', denP p = some os → denP q = some os' → os = os' := fun os os' h1 h2 => by
    have := dead_denP hR h1
    rw [← hq, h2] at this
    exact (Option.some.inj this).symm
  have hval : ∃ (w6 : Value) (e6 : Int), v6 = .tuple #[w6, .int .i64 e6] ∧ (e6 = 0 → denP p ≠ none ∧ denP q ≠ none) := by
    rcases hp with ⟨os1, o1, q1, d1, e1, rfl, _⟩ | ⟨e1, rfl⟩
    · exact ⟨_, _, rfl, fun _ => ⟨(fun h => by rw [e1] at h; cases h), (fun h => by rw [hq, dead_denP hR e1] at h; cases h)⟩⟩
    · exact ⟨_, _, rfl, fun h => absurd h (by decide)⟩
  obtain ⟨w6, e6, rfl, h6⟩ := hval
  refine Wl.gl 10 [1, 2] ?_
  refine Wl.k 33 rfl (c23 _ p q ac ao bc1 bo1 cc co dc1 dd1 hc ho hbc1 hbo1 hR hRq hiq hsame) (fun v7 G7 Ho7 hle7 hp => ?_)
  obtain ⟨hp, rfl⟩ := hp
  replace hc := hc.up hle7
  replace ho := ho.up hle7
  replace hga := hga.up hle7
  replace hbc1 := hbc1.up hle7
  replace hbo1 := hbo1.up hle7
  have hle07 : G2.le G7 := Imm.le_trans hle06 hle7
  have hv7 : ∃ (b7 : Bool) (e7 : Int), v7 = .tuple #[.bool b7, .int .i64 e7] ∧ (e6 = 0 → b7 = true ∧ e7 = 0) := by
    rcases hp with ⟨n1, n2, e⟩ | ⟨hnn, e⟩
    · exact ⟨_, _, e, fun _ => ⟨rfl, rfl⟩⟩
    · refine ⟨_, _, e, fun h => ?_⟩
      rcases hnn with h9 | h9
      · exact absurd h9 (h6 h).1
      · exact absurd h9 (h6 h).2
  obtain ⟨b7, e7, rfl, h7⟩ := hv7
  refine Wl.gc 7 [] ?_
  refine Wc.meet (ι := Unit) (fun _ => ([(3, .pointer (some ⟨b1, 0, none⟩)), (7, .pointer (some ⟨b2, 0, none⟩)), (2, .slice ga gl.length gc), (8, Go.Value.int Go.IntKind.i64 e6), (13, Go.Value.int Go.IntKind.i64 e3)], [(2, Option.some b2, Go.Obj.cells #[Go.Value.int Go.IntKind.i64 (Go.Proofs.YtbppmiimeccclaaGreat.PV.ins q), Go.Value.int Go.IntKind.i64 (Go.Proofs.YtbppmiimeccclaaGreat.PV.regs q), Go.Value.slice bc1 (List.length (Go.Proofs.YtbppmiimeccclaaGreat.PV.code q)) dc1, Go.Value.slice bo1 (List.length (Go.Proofs.YtbppmiimeccclaaGreat.PV.outs q)) dd1] 25), (1, Option.some b1, Go.Obj.cells #[Go.Value.int Go.IntKind.i64 (Go.Proofs.YtbppmiimeccclaaGreat.PV.ins p), Go.Value.int Go.IntKind.i64 (Go.Proofs.YtbppmiimeccclaaGreat.PV.regs p), Go.Value.slice ac (List.length (Go.Proofs.YtbppmiimeccclaaGreat.PV.code p)) cc, Go.Value.slice ao (List.length (Go.Proofs.YtbppmiimeccclaaGreat.PV.outs p)) co] 25), (0, Option.none, Go.Sl.Row (α := Go.Sl.SV) 44 ([]) ([]))])) (fun _ => True) ?_ (fun _ => fun (hk : True) => ?_)
  · by_cases h60 : e6 = 0
    · obtain ⟨g7, g8⟩ := h7 h60
      subst g7
      subst g8
      subst h60
      refine Wc.gl 5 [] ?_
      refine Wl.yes 110 rfl (by first | assumption | omega) ?_
      refine Wl.ll0 6 [] ?_
      refine Wl.no 113 rfl (by first | assumption | omega) ?_
      refine Wl.ga 11 [0] ?_
      refine Ar.meet (()) ?_ rfl ⟨rfl, rfl, rfl, rfl, rfl, trivial⟩ ⟨rfl, rfl, rfl, trivial⟩
      exact trivial
    · refine Wc.gl 5 [] ?_
      refine Wl.no 110 rfl (by first | assumption | omega) ?_
      refine Wl.ll0 3 [] ?_
      refine Wl.passU rfl rfl rfl ?_
      refine Wl.passU rfl rfl rfl ?_
      refine Wl.ga 6 [0] ?_
      refine Ar.meet (()) ?_ rfl ⟨rfl, rfl, rfl, rfl, rfl, trivial⟩ ⟨rfl, rfl, rfl, trivial⟩
      exact trivial
  refine Wc.gc 14 [] ?_
  have hglg : IGrid G7 gl ls := (hgg.up (Imm.le_trans hle1 hle2)).up hle07
  have hls := hgg.1
  refine Wc.loopG (ι := Nat × Imm × List SV × (Option Addr × Nat × List Value)) (fun (i, Gx, g9, (o, d, j)) => ([(120, .int .i64 (i : Int)), (19, .slice o g9.length d), (3, .pointer (some ⟨b1, 0, none⟩)), (7, .pointer (some ⟨b2, 0, none⟩)), (119, Go.Value.int Go.IntKind.i64 (↑(List.length gl) : Int)), (118, Go.Value.slice ga (List.length gl) gc), (8, Go.Value.int Go.IntKind.i64 e6), (13, Go.Value.int Go.IntKind.i64 e3)], [(0, o.map (·.block), Row 44 g9 j), (2, Option.some b2, Go.Obj.cells #[Go.Value.int Go.IntKind.i64 (Go.Proofs.YtbppmiimeccclaaGreat.PV.ins q), Go.Value.int Go.IntKind.i64 (Go.Proofs.YtbppmiimeccclaaGreat.PV.regs q), Go.Value.slice bc1 (List.length (Go.Proofs.YtbppmiimeccclaaGreat.PV.code q)) dc1, Go.Value.slice bo1 (List.length (Go.Proofs.YtbppmiimeccclaaGreat.PV.outs q)) dd1] 25), (1, Option.some b1, Go.Obj.cells #[Go.Value.int Go.IntKind.i64 (Go.Proofs.YtbppmiimeccclaaGreat.PV.ins p), Go.Value.int Go.IntKind.i64 (Go.Proofs.YtbppmiimeccclaaGreat.PV.regs p), Go.Value.slice ac (List.length (Go.Proofs.YtbppmiimeccclaaGreat.PV.code p)) cc, Go.Value.slice ao (List.length (Go.Proofs.YtbppmiimeccclaaGreat.PV.outs p)) co] 25)])) (fun (i, Gx, g9, (o, d, j)) => Gx) (fun (i, Gx, g9, (o, d, j)) => i ≤ gl.length ∧ G7.le Gx ∧ g9.length = i ∧ (∀ t : Nat, t < i → BRow Gx (g9[t]?.getD default) (ls[t]?.getD [])) ∧ OwnA o d g9 j) (fun (i, Gx, g9, (o, d, j)) => gl.length - i) ((0, G7, [], (none, 0, []))) (⟨Nat.zero_le _, Imm.le_refl _, rfl, fun t ht => by omega, OwnA.nil⟩) rfl ⟨rfl, rfl, rfl, rfl, rfl, rfl, rfl, rfl, trivial⟩ ⟨rfl, rfl, rfl, trivial⟩ (fun ⟨i, Gx, g9, (o, d, j)⟩ => fun (hk : i ≤ gl.length ∧ G7.le Gx ∧ g9.length = i ∧ (∀ t : Nat, t < i → BRow Gx (g9[t]?.getD default) (ls[t]?.getD [])) ∧ OwnA o d g9 j) => ?_)
  obtain ⟨hi0, hgx, hqi, hrows, hoq⟩ := hk
  replace hga := hga.up hgx
  replace hglg := hglg.up hgx
  rcases Nat.lt_or_ge i gl.length with hil | hil
  · obtain ⟨ir1, ir2, ir3⟩ := hglg.2 i hil
    have hli : (ls[i]?.getD []).length ≤ 1048576 := h5 _ (by rw [List.getElem?_eq_getElem (by omega)]; exact List.getElem_mem _)
    skip
    refine Wc.gl 13 [1] ?_
    refine Wl.q rfl (Qy.at (α := SV) T.sl40 rfl rfl (by assumption) (by omega)) ?_
    refine Wl.q rfl (Qy.loadG T.one39 rfl (Arr.cell (by assumption) (by omega) 0 rfl rfl)) ?_
    refine Wl.gl 6 [] ?_
    refine Wl.re 125 rfl (show _ = Value.slice (gl[i]?.getD default).a (ls[i]?.getD []).length (gl[i]?.getD default).c by rw [ir1]; rfl) ?_
    refine Wl.k 34 rfl (c20E _ _ _ (ls[i]?.getD []) ir2 hli ir3) (fun v8 G8 Ho8 hle8 hp => ?_)
    obtain ⟨b8, r8, c8, rfl, hA8, hB8, hL8, hC8, rfl⟩ := hp
    have hle8' : Gx.le G8 := hle8
    refine Wl.lit (α := SV) 3 [⟨_, _, _⟩] rfl T.sl53 T.el44 rfl rfl rfl rfl rfl (fun b3 => ?_)
    refine Wl.append (α := SV) 0 rfl T.sl53 T.el44 rfl rfl rfl (by first | assumption | exact OwnA.nil | exact OwnA.made (by simp)) (Src.row 3 rfl) (by first | omega | (simp only [List.length_append, List.length_cons, List.length_nil, maxLen]; omega)) (by first | omega | (simp only [List.length_append, List.length_cons, List.length_nil, maxLen]; omega)) (fun a1 c1 junk1 ho1 => ?_)
    refine Wl.ga 8 [] ?_
    refine Ar.again ((i + 1, G8, g9 ++ [⟨b8, r8.length, c8⟩], (a1, c1, junk1))) ?_ ?_ rfl ⟨rfl, rfl, rfl, rfl, rfl, rfl, rfl, rfl, trivial⟩ ⟨rfl, rfl, rfl, trivial⟩
    · refine ⟨by omega, Imm.le_trans hgx hle8', by rw [List.length_append, hqi]; rfl, brow_snoc (fun t ht => (hrows t ht).up hle8') hqi ⟨r8, rfl, hC8, hA8, hB8⟩, by assumption⟩
    · show gl.length - (i + 1) < gl.length - i
      omega
  · have hii : i = gl.length := by omega
    subst hii
    refine Wc.gl 16 [0, 1] ?_
    refine Wl.freezeRow 0 rfl hoq (fun G9 hle9 hA9 => ?_)
    have hle9' : Gx.le G9 := hle9
    have hle79 := Imm.le_trans hgx hle9'
    have hgg9 : BGrid G9 g9 ls := ⟨by omega, fun t ht => (hrows t (by omega)).up hle9'⟩
    have hbel : ∀ z ∈ ls, Below 2 z := fun z hz => by
      obtain ⟨k, hk, rfl⟩ := List.mem_iff_getElem.1 hz
      have h9 := (hgg.2 k (by omega)).2.2
      rw [List.getElem?_eq_getElem hk] at h9
      exact low2 h9
    have hc9 := hc.up hle79
    have ho9 := ho.up hle79
    have hb9 := hbc1.up hle79
    have hd9 := hbo1.up hle79
    refine Wl.k 35 rfl (c24U _ p ac ao o cc co d g9 ls hc9 ho9 hA9 hgg9 hbel h5 hR (by omega)) (fun v10 G10 Ho10 hle10 hp => ?_)
    obtain ⟨b10, r10, c10, k10, e10, rfl, hA10, hy10, hz10, rfl⟩ := hp
    refine Wl.gl 13 [2] ?_
    refine Wl.k 36 rfl (c24U _ q bc1 bo1 o dc1 dd1 d g9 ls (hb9.up hle10) (hd9.up hle10) (hA9.up hle10) (hgg9.up hle10) hbel h5 hRq (by omega)) (fun v11 G11 Ho11 hle11 hp => ?_)
    obtain ⟨b11, r11, c11, k11, e11, rfl, hA11, hy11, hz11, rfl⟩ := hp
    by_cases h10 : e10 = 0
    · obtain ⟨os, N, hG, hf, hB10, hev, hN⟩ := hy10 h10
      have hfq : followP q ls = some os := by rw [hq]; exact dead_follow hR hf
      have h11 := hz11 (by rw [hq]; exact dead_good hG) (fun h => by rw [hfq] at h; cases h)
      obtain ⟨os', N', hG', hf', hB11, hev', hN'⟩ := hy11 h11
      rw [hfq] at hf'
      cases hf'
      subst h10
      subst h11
      have hA10' := hA10.up hle11
      have hB10' := hB10.up hle11
      have hlos : os.length = p.outs.length := by
        unfold followP at hf
        obtain ⟨rs, _, e⟩ := Option.map_eq_some_iff.1 hf
        rw [← e]; unfold outsOf; rw [List.length_map]
      have hl10 : r10.length ≤ 1048576 := by have := hB10.1; omega
      refine Wl.gl 14 [] ?_
      refine Wl.no 146 rfl (by first | assumption | omega) ?_
      refine Wl.ll0 6 [] ?_
      refine Wl.yes 149 rfl (by first | assumption | omega) ?_
      refine Wl.ll0 5 [] ?_
      refine Wl.k0 rfl (c25T _ _ _ _ _ r10 r11 os N hA10' hA11 hB10' hB11 hev hN hl10) ?_
      refine Wl.ga 7 [] ?_
      refine Ar.e1 ?_
      exact ⟨rfl, rfl⟩
    · refine Wl.gl 14 [] ?_
      refine Wl.yes 146 rfl (by first | assumption | omega) ?_
      refine Wl.ll0 3 [] ?_
      refine Wl.passU rfl rfl rfl ?_
      refine Wl.passU rfl rfl rfl ?_
      refine Wl.passU rfl rfl rfl ?_
      refine Wl.ga 6 [] ?_
      refine Ar.e1 ?_
      exact ⟨rfl, rfl⟩
theorem c5 (G : Imm) (p : PV) (ac ao ai ga : Option Addr) (cc co ci gc : Nat) (l : List Int) (gl : List SV) (ls : List (List Int)) (hc : Arr G ac p.code) (ho : Arr G ao p.outs) (hi : Arr G ai l) (hga : Arr G ga gl) (hgg : IGrid G gl ls) (h1 : p.code.length ≤ 1099511627776) (h2 : p.outs.length ≤ 1099511627776) (h3 : l.length ≤ 1048576) (hlr : ∀ x ∈ l, -9223372036854775808 ≤ x ∧ x ≤ 9223372036854775807) (h4 : gl.length ≤ 1048576) (h5 : ∀ z ∈ ls, z.length ≤ 1048576) :
    Does Tryz.prog 5 [.agg #[.int .i64 p.ins, .int .i64 p.regs, .slice ac p.code.length cc, .slice ao p.outs.length co], .slice ai l.length ci, .slice ga gl.length gc] G [] (fun v G' Ho => v = .bool true ∧ Ho = []) := by
  by_cases hR : rightP p = true
  · exact c5Y G p ac ao ai ga cc co ci gc l gl ls hc ho hi hga hgg h1 h2 h3 hlr h4 h5 hR
  · exact c5W G p ac ao ai ga cc co ci gc l gl hc ho h1 h2 hR
end Go.Proofs.YtbppmiimeccclaaGreat
