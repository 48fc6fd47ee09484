import Derived.Test.YtfleehgbpgmcnaaNn
import Derived.Test.YtfleehgbpgmcnaaAd
set_option maxRecDepth 100000
set_option linter.unusedVariables false
namespace Go.Proofs.Ytfleehgbpgmcnaa
open Go Go.Sl

set_option maxHeartbeats 4000000
theorem p2_64_lt : ∀ c : Nat, c ≤ 64 → ((p2 c).natAbs : Int) < pw 5 := fun c hc => by
  have h1 := p2_le hc
  have h2 := p2_pos c
  have h3 : p2 64 < pw 5 := by unfold p2 pw; decide
  omega
theorem may_facts {i : Sl.Instr} {regs : Int} (h : mayOk i regs = true) : (1 ≤ i.op ∧ i.op ≤ 8) ∧ (0 ≤ i.to ∧ i.to < regs) ∧ (0 ≤ i.a ∧ i.a < regs) ∧ (i.op = 3 ∨ i.op = 4 → 0 ≤ i.b ∧ i.b < regs) ∧ constOk i.op i.c = true ∧
    (i.op ≠ 1 → i.op ≠ 2 → i.op ≠ 3 → i.op ≠ 4 → cst i ≠ 0 ∧ ((cst i).natAbs : Int) < pw 5) ∧ (i.op = 5 ∨ i.op = 6 → -9223372036854775808 ≤ i.c ∧ i.c ≤ 9223372036854775807) ∧ (¬ (i.op = 5 ∨ i.op = 6) → 0 ≤ i.c ∧ i.c ≤ 64) := by
  unfold mayOk at h
  rw [Bool.and_eq_true, Bool.and_eq_true, decide_eq_true_eq, List.all_eq_true] at h
  obtain ⟨⟨⟨g1, g2, g3, g4, g5⟩, g6⟩, g7⟩ := h
  have hA : ∀ r ∈ asks i, 0 ≤ r ∧ r < regs := fun r hr => by have := g7 r hr; rwa [decide_eq_true_eq] at this
  have ha : i.a ∈ asks i := by
    unfold asks
    split
    · exact List.mem_cons_self
    · rw [if_pos ⟨g1, g2⟩]; exact List.mem_cons_self
  have hc := g6
  unfold constOk at g6
  have k1 : i.op = 5 ∨ i.op = 6 → i.c ≠ 0 ∧ -512 ≤ i.c ∧ i.c ≤ 512 := fun h => by rw [if_pos h, decide_eq_true_eq] at g6; exact g6
  have k2 : ¬ (i.op = 5 ∨ i.op = 6) → (i.op = 7 ∨ i.op = 8 → 1 ≤ i.c ∧ i.c ≤ 64) ∧ (¬ (i.op = 7 ∨ i.op = 8) → i.c = 0) := fun h => by
    rw [if_neg h] at g6
    refine ⟨fun h2 => ?_, fun h2 => ?_⟩
    · rw [if_pos h2, decide_eq_true_eq] at g6; exact g6
    · rw [if_neg h2, decide_eq_true_eq] at g6; exact g6
  refine ⟨⟨g1, g2⟩, ⟨g3, g4⟩, hA _ ha, fun h34 => hA _ (by unfold asks; rw [if_pos h34]; exact List.mem_cons_of_mem _ List.mem_cons_self), hc, fun n1 n2 n3 n4 => ?_, fun h56 => by have := k1 h56; omega, fun h56 => ?_⟩
  · by_cases h56 : i.op = 5 ∨ i.op = 6
    · rw [cst_c h56]
      have := k1 h56
      have h3 : (65536 : Int) < pw 5 := by unfold pw; decide
      exact ⟨this.1, by omega⟩
    · rw [cst_p h56]
      have h2 := (k2 h56).1 (by omega)
      have := p2_pos i.c.toNat
      exact ⟨by omega, p2_64_lt _ (by omega)⟩
  · by_cases h78 : i.op = 7 ∨ i.op = 8
    · have := (k2 h56).1 h78; omega
    · have := (k2 h56).2 h78; omega
theorem regs0_len (p : PV) (gs : List (List Int)) : (regs0 p gs).length = p.regs.toNat := by unfold regs0; rw [List.length_map, List.length_range]
theorem regs0_at {p : PV} {gs : List (List Int)} {k : Nat} (hk : k < p.regs.toNat) : (regs0 p gs)[k]?.getD [] = if k < gs.length then gs[k]?.getD [] else List.replicate (gs[0]?.getD []).length 0 := by
  unfold regs0
  rw [List.getElem?_map, List.getElem?_range hk]; rfl
theorem row_next {G : Imm} {r : List SV} {rs : List (List Int)} {k : Nat} {s : SV} (h : ∀ q : Nat, q < k → RowS G (r[q]?.getD default) (rs[q]?.getD [])) (hk : k < r.length) (hs : RowS G s (rs[k]?.getD [])) : ∀ q : Nat, q < k + 1 → RowS G ((r.set k s)[q]?.getD default) (rs[q]?.getD []) := fun q hq => by
  rw [List.getElem?_set]
  by_cases he : k = q
  · subst he; rw [if_pos rfl, if_pos hk]; exact hs
  · rw [if_neg he]; exact h q (by omega)
theorem rows_up {G G' : Imm} {r : List SV} {rs : List (List Int)} {k : Nat} (h : ∀ q : Nat, q < k → RowS G (r[q]?.getD default) (rs[q]?.getD [])) (hl : G.le G') : ∀ q : Nat, q < k → RowS G' (r[q]?.getD default) (rs[q]?.getD []) := fun q hq => (h q hq).up hl
theorem outs_succ {p : PV} {rs : List (List Int)} {q : Nat} (hq : q < p.outs.length) :
    (outsOf p rs).take (q + 1) = (outsOf p rs).take q ++ [rs[(p.outs[((q : Nat) : Int).toNat]?.getD default).toNat]?.getD []] := by
  have h1 : q < (outsOf p rs).length := by unfold outsOf; rw [List.length_map]; exact hq
  have h2 : (outsOf p rs)[q] = rs[(p.outs[q]).toNat]?.getD [] := List.getElem_map _
  rw [List.take_succ_eq_append_getElem h1, h2, Int.toNat_natCast, List.getElem?_eq_getElem hq]; rfl
attribute [local irreducible] valL pw cmpZ p2
theorem c21 (G : Imm) (p : PV) (ac ao ga : Option Addr) (cc co gc : Nat) (gl : List SV) (gs : List (List Int)) (N : Nat) (hc : Arr G ac p.code) (ho : Arr G ao p.outs) (hga : Arr G ga gl) (hgg : Grid G gl gs) (hev : Even 4 N gs) (hN : N ≤ 1048576) (hR : rightP p = true) (hgi : (gl.length : Int) = p.ins) (hcl : p.code.length ≤ 1024) :
    Does Try.prog 21 [.agg #[.int .i64 p.ins, .int .i64 p.regs, .slice ac p.code.length cc, .slice ao p.outs.length co], .slice ga gl.length gc] G [] (fun v G' Ho => ∃ sv bad ov, v = .tuple #[sv, .int .i64 bad, ov] ∧ (followP p gs = none → 0 ≤ bad ∧ ov = .slice none 0 0) ∧
      (∀ os, followP p gs = some os → bad = -1 ∧ ∃ (oa : Option Addr) (oc : Nat) (ol : List SV), ov = .slice oa ol.length oc ∧ Arr G' oa ol ∧ Grid G' ol os) ∧ Ho = []) := by
  obtain ⟨f1, f2, f3, f4, f5, f6, f7, f8⟩ := right_facts hR
  have hgl := hgg.1
  obtain ⟨R, hRR⟩ : ∃ R : Nat, p.regs = (R : Int) := ⟨p.regs.toNat, by omega⟩
  refine Does.enter Try.func21 rfl Try.ntmps21 rfl (fun w => ?_)
  have hM : p.regs.toNat = R := by omega
  have hrl0 := regs0_len p gs
  rw [hM] at hrl0
  have hgl0 : 0 < gl.length := by omega
  have h0R := hgg.at (m := 0) (by omega)
  obtain ⟨h0L, h0B⟩ := hev.at (k := 0) (by omega)
  have h0n : (gl[(0 : Int).toNat]?.getD default).n ≤ 1048576 := by rw [h0R.len, h0L]; exact hN
  refine Wc.seq ?_
  refine Wc.region rfl ?_
  refine Wl.box 0 rfl rfl rfl (fun b1 => ?_)
  refine Wl.q rfl (Qy.assign rfl) ?_
  refine Wl.q rfl (Qy.assign rfl) ?_
  refine Wl.q rfl (Qy.assign rfl) ?_
  refine Wl.done ?_
  refine Ar.next ?_
  refine Wc.seq ?_
  refine Wc.region rfl ?_
  refine Wl.q rfl (Qy.fieldAddr T.fa25_1 rfl) ?_
  refine Wl.q rfl (Qy.load 0 T.one3 rfl rfl rfl) ?_
  refine Wl.make (α := SV) 1 rfl T.sl37 T.el40 rfl rfl (by omega) (by omega) (fun b2 => ?_)
  refine Wl.q rfl (Qy.assign rfl) ?_
  refine Wl.done ?_
  refine Ar.next ?_
  refine Wc.seq ?_
  refine Wc.seq ?_
  refine Wc.region rfl ?_
  refine Wl.q rfl (Qy.assign rfl) ?_
  refine Wl.done ?_
  refine Ar.next ?_
  refine Wc.block ?_
  rw [hM]
  have hown : ∀ r : List SV, r.length = R → OwnA (some ⟨b2, 0, none⟩) R r [] := fun r hr => .inr ⟨b2, rfl, by rw [hr]; rfl, by omega, by simp only [maxLen]; omega⟩
  refine Wc.re 7 rfl (show _ = Value.slice (some ⟨b2, 0, none⟩) (List.replicate R (default : SV)).length R by rw [List.length_replicate]) ?_
  refine Wc.loopG (ι := Nat × Imm × List SV) (fun (k, Gx, r) => ([(8, .int .i64 (k : Int)), (7, .slice (some ⟨b2, 0, none⟩) r.length R), (6, Go.Value.slice Option.none 0 0), (5, Go.Value.int Go.IntKind.i64 0), (4, Go.Value.slice Option.none 0 0), (2, Go.Value.pointer (Option.some (Go.Addr.mk b1 0 Option.none))), (1, Go.Value.slice ga (List.length gl) gc)], [(1, some b2, Row 40 r []), (0, Option.some b1, Go.Obj.cells #[Go.Value.int Go.IntKind.i64 (Go.Proofs.Ytfleehgbpgmcnaa.PV.ins p), Go.Value.int Go.IntKind.i64 (Go.Proofs.Ytfleehgbpgmcnaa.PV.regs p), Go.Value.slice ac (List.length (Go.Proofs.Ytfleehgbpgmcnaa.PV.code p)) cc, Go.Value.slice ao (List.length (Go.Proofs.Ytfleehgbpgmcnaa.PV.outs p)) co] 25)])) (fun (k, Gx, r) => Gx) (fun (k, Gx, r) => k ≤ R ∧ G.le Gx ∧ r.length = R ∧ ∀ q : Nat, q < k → RowS Gx (r[q]?.getD default) ((regs0 p gs)[q]?.getD [])) (fun (k, Gx, r) => R - k) ((0, G, List.replicate R (default : SV))) (⟨Nat.zero_le _, Imm.le_refl _, List.length_replicate, fun q hq => by omega⟩) rfl ⟨rfl, rfl, rfl, rfl, rfl, rfl, rfl, trivial⟩ ⟨rfl, rfl, trivial⟩ (fun ⟨k, Gx, r⟩ => fun (hk : k ≤ R ∧ G.le Gx ∧ r.length = R ∧ ∀ q : Nat, q < k → RowS Gx (r[q]?.getD default) ((regs0 p gs)[q]?.getD [])) => ?_)
  obtain ⟨hk0, hgx, hrR, hrow⟩ := hk
  replace hc := hc.up hgx
  replace ho := ho.up hgx
  replace hga := hga.up hgx
  replace hgg := hgg.up hgx
  have hor := hown r hrR
  rcases Nat.lt_or_ge k R with hkR | hkR
  · by_cases hkg : k < gl.length
    · refine Wc.seq ?_
      refine Wc.seq ?_
      refine Wc.region rfl ?_
      refine Wl.q rfl (Qy.move rfl) ?_
      refine Wl.q rfl (Qy.fieldAddr T.fa25_1 rfl) ?_
      refine Wl.q rfl (Qy.load 0 T.one3 rfl rfl rfl) ?_
      refine Wl.q rfl (Qy.lss rfl rfl) ?_
      refine Wl.done ?_
      refine Ar.next ?_
      refine Wc.condP rfl (by first | assumption | omega) ?_
      refine Wc.skip ?_
      refine Ar.next ?_
      refine Wc.seq ?_
      refine Wc.block ?_
      refine Wc.seq ?_
      refine Wc.region rfl ?_
      refine Wl.q rfl (Qy.move rfl) ?_
      refine Wl.q rfl (Qy.move rfl) ?_
      refine Wl.q rfl (Qy.move rfl) ?_
      refine Wl.q rfl (Qy.at (α := SV) T.sl37 rfl rfl (by assumption) (by omega)) ?_
      refine Wl.q rfl (Qy.loadG T.one40 rfl (Arr.cell (by assumption) (by omega) 0 rfl rfl)) ?_
      refine Wl.q rfl (Qy.len T.sl40 rfl) ?_
      refine Wl.call 2 rfl T.fn61 rfl (c61 _ _ (by assumption)) (tags_of trivial) (fun v1 G1 Ho1 hle1 hp => ?_)
      obtain ⟨⟨zo1, zc1, zl1, rfl, hzA1, hzN1, hzl1⟩, rfl⟩ := hp
      replace hc := hc.up hle1
      replace ho := ho.up hle1
      replace hga := hga.up hle1
      replace hgg := hgg.up hle1
      refine Wl.q rfl (Qy.indexAddrO (α := SV) T.sl37 rfl rfl (by assumption) (by omega)) ?_
      refine Wl.setO (z := ⟨zo1, zl1.length, zc1⟩) 1 T.size40 rfl rfl rfl (by assumption) (by omega) rfl (fun ho1 => ?_)
      refine Wl.done ?_
      refine Ar.next ?_
      refine Wc.seq ?_
      refine Wc.region rfl ?_
      refine Wl.q rfl (Qy.move rfl) ?_
      refine Wl.q rfl (Qy.move rfl) ?_
      refine Wl.q rfl (Qy.len T.sl37 rfl) ?_
      refine Wl.q rfl (Qy.lss rfl rfl) ?_
      refine Wl.done ?_
      refine Ar.next ?_
      refine Wc.condP rfl (by first | assumption | omega) ?_
      refine Wc.region rfl ?_
      refine Wl.q rfl (Qy.move rfl) ?_
      refine Wl.q rfl (Qy.move rfl) ?_
      refine Wl.q rfl (Qy.move rfl) ?_
      refine Wl.q rfl (Qy.move rfl) ?_
      refine Wl.q rfl (Qy.at (α := SV) T.sl37 rfl rfl (by assumption) (by omega)) ?_
      refine Wl.q rfl (Qy.loadG T.one40 rfl (Arr.cell (by assumption) (by omega) 0 rfl rfl)) ?_
      refine Wl.q rfl (Qy.indexAddrO (α := SV) T.sl37 rfl rfl (by assumption) (by omega)) ?_
      refine Wl.setO (z := gl[((k : Nat) : Int).toNat]?.getD default) 1 T.size40 rfl rfl rfl (by assumption) (by rw [List.length_set]; omega) rfl (fun ho2 => ?_)
      refine Wl.done ?_
      refine Ar.outNormal ?_
      refine Ar.next ?_
      refine Wc.region rfl ?_
      refine Wl.q rfl (Qy.move rfl) ?_
      refine Wl.q rfl (Qy.add rfl rfl (by omega)) ?_
      refine Wl.q rfl (Qy.assign rfl) ?_
      refine Wl.done ?_
      rw [Int.toNat_natCast, List.set_set]
      refine Ar.re 7 rfl (show _ = Value.slice (some ⟨b2, 0, none⟩) (r.set k (gl[k]?.getD default)).length R by rw [List.length_set]) ?_
      refine Ar.again ((k + 1, G1, r.set k (gl[k]?.getD default))) ?_ ?_ rfl ⟨rfl, rfl, rfl, rfl, rfl, rfl, rfl, trivial⟩ ⟨rfl, rfl, trivial⟩
      · refine ⟨by omega, Imm.le_trans hgx hle1, by rw [List.length_set]; exact hrR, row_next (rows_up hrow hle1) (by omega) ?_⟩
        rw [regs0_at (by omega), if_pos (by omega)]
        exact hgg.2 k hkg
      · show R - (k + 1) < R - k
        omega
    · refine Wc.seq ?_
      refine Wc.seq ?_
      refine Wc.region rfl ?_
      refine Wl.q rfl (Qy.move rfl) ?_
      refine Wl.q rfl (Qy.fieldAddr T.fa25_1 rfl) ?_
      refine Wl.q rfl (Qy.load 0 T.one3 rfl rfl rfl) ?_
      refine Wl.q rfl (Qy.lss rfl rfl) ?_
      refine Wl.done ?_
      refine Ar.next ?_
      refine Wc.condP rfl (by first | assumption | omega) ?_
      refine Wc.skip ?_
      refine Ar.next ?_
      refine Wc.seq ?_
      refine Wc.block ?_
      refine Wc.seq ?_
      refine Wc.region rfl ?_
      refine Wl.q rfl (Qy.move rfl) ?_
      refine Wl.q rfl (Qy.move rfl) ?_
      refine Wl.q rfl (Qy.move rfl) ?_
      refine Wl.q rfl (Qy.at (α := SV) T.sl37 rfl rfl (by assumption) (by omega)) ?_
      refine Wl.q rfl (Qy.loadG T.one40 rfl (Arr.cell (by assumption) (by omega) 0 rfl rfl)) ?_
      refine Wl.q rfl (Qy.len T.sl40 rfl) ?_
      refine Wl.call 2 rfl T.fn61 rfl (c61 _ _ (by assumption)) (tags_of trivial) (fun v1 G1 Ho1 hle1 hp => ?_)
      obtain ⟨⟨zo1, zc1, zl1, rfl, hzA1, hzN1, hzl1⟩, rfl⟩ := hp
      replace hc := hc.up hle1
      replace ho := ho.up hle1
      replace hga := hga.up hle1
      replace hgg := hgg.up hle1
      refine Wl.q rfl (Qy.indexAddrO (α := SV) T.sl37 rfl rfl (by assumption) (by omega)) ?_
      refine Wl.setO (z := ⟨zo1, zl1.length, zc1⟩) 1 T.size40 rfl rfl rfl (by assumption) (by omega) rfl (fun ho1 => ?_)
      refine Wl.done ?_
      refine Ar.next ?_
      refine Wc.seq ?_
      refine Wc.region rfl ?_
      refine Wl.q rfl (Qy.move rfl) ?_
      refine Wl.q rfl (Qy.move rfl) ?_
      refine Wl.q rfl (Qy.len T.sl37 rfl) ?_
      refine Wl.q rfl (Qy.lss rfl rfl) ?_
      refine Wl.done ?_
      refine Ar.next ?_
      refine Wc.condN rfl (by first | assumption | omega) ?_
      refine Wc.skip ?_
      refine Ar.outNormal ?_
      refine Ar.next ?_
      refine Wc.region rfl ?_
      refine Wl.q rfl (Qy.move rfl) ?_
      refine Wl.q rfl (Qy.add rfl rfl (by omega)) ?_
      refine Wl.q rfl (Qy.assign rfl) ?_
      refine Wl.done ?_
      rw [Int.toNat_natCast]
      refine Ar.re 7 rfl (show _ = Value.slice (some ⟨b2, 0, none⟩) (r.set k (⟨zo1, zl1.length, zc1⟩ : SV)).length R by rw [List.length_set]) ?_
      refine Ar.again ((k + 1, G1, r.set k (⟨zo1, zl1.length, zc1⟩ : SV))) ?_ ?_ rfl ⟨rfl, rfl, rfl, rfl, rfl, rfl, rfl, trivial⟩ ⟨rfl, rfl, trivial⟩
      · refine ⟨by omega, Imm.le_trans hgx hle1, by rw [List.length_set]; exact hrR, row_next (rows_up hrow hle1) (by omega) ?_⟩
        rw [regs0_at (by omega), if_neg (by omega)]
        refine ⟨zl1, rfl, hzl1, hzA1, ?_⟩
        have e := hzN1
        rw [h0R.len] at e
        exact e
      · show R - (k + 1) < R - k
        omega
  · have hg0 : Grid Gx r (regs0 p gs) := ⟨by omega, fun q hq => hrow q (by omega)⟩
    have he0 : Even 4 N (regs0 p gs) := even_regs0 hev (by omega)
    refine Wc.seq ?_
    refine Wc.seq ?_
    refine Wc.region rfl ?_
    refine Wl.q rfl (Qy.move rfl) ?_
    refine Wl.q rfl (Qy.fieldAddr T.fa25_1 rfl) ?_
    refine Wl.q rfl (Qy.load 0 T.one3 rfl rfl rfl) ?_
    refine Wl.q rfl (Qy.lss rfl rfl) ?_
    refine Wl.done ?_
    refine Ar.next ?_
    refine Wc.condN rfl (by first | assumption | omega) ?_
    refine Wc.exit ?_
    refine Ar.passExit ?_
    refine Ar.passExit ?_
    refine Ar.here ?_
    refine Ar.next ?_
    refine Wc.seq ?_
    refine Wc.region rfl ?_
    refine Wl.q rfl (Qy.assign rfl) ?_
    refine Wl.done ?_
    refine Ar.next ?_
    refine Wc.seq ?_
    refine Wc.seq ?_
    refine Wc.region rfl ?_
    refine Wl.q rfl (Qy.assign rfl) ?_
    refine Wl.done ?_
    refine Ar.next ?_
    refine Wc.block ?_
    refine Wc.nilRow 3 (Row 40 ([] : List SV) []) ?_
    refine Wc.loopG (ι := Nat × Imm × List SV × List (List Int) × List SV × (Option Addr × Nat × List Value)) (fun (i, Gy, r2, rs, st, (o, d, j)) => ([(10, .int .i64 (i : Int)), (9, .slice o st.length d), (7, .slice (some ⟨b2, 0, none⟩) r2.length R), (2, Go.Value.pointer (Option.some (Go.Addr.mk b1 0 Option.none)))], [(3, o.map (·.block), Row 40 st j), (1, some b2, Row 40 r2 []), (0, Option.some b1, Go.Obj.cells #[Go.Value.int Go.IntKind.i64 (Go.Proofs.Ytfleehgbpgmcnaa.PV.ins p), Go.Value.int Go.IntKind.i64 (Go.Proofs.Ytfleehgbpgmcnaa.PV.regs p), Go.Value.slice ac (List.length (Go.Proofs.Ytfleehgbpgmcnaa.PV.code p)) cc, Go.Value.slice ao (List.length (Go.Proofs.Ytfleehgbpgmcnaa.PV.outs p)) co] 25)])) (fun (i, Gy, r2, rs, st, (o, d, j)) => Gy) (fun (i, Gy, r2, rs, st, (o, d, j)) => i ≤ p.code.length ∧ Gx.le Gy ∧ r2.length = R ∧ Grid Gy r2 rs ∧ Even (4 + 5 * i) N rs ∧ runTo p gs i = some rs ∧ OwnA o d st j ∧ st.length = i) (fun (i, Gy, r2, rs, st, (o, d, j)) => p.code.length - i) ((0, Gx, r, regs0 p gs, [], (none, 0, []))) (⟨Nat.zero_le _, Imm.le_refl _, hrR, hg0, he0, rfl, OwnA.nil, rfl⟩) rfl ⟨rfl, rfl, rfl, rfl, trivial⟩ ⟨rfl, rfl, rfl, trivial⟩ (fun ⟨i, Gy, r2, rs, st, (o, d, j)⟩ => fun (hk : i ≤ p.code.length ∧ Gx.le Gy ∧ r2.length = R ∧ Grid Gy r2 rs ∧ Even (4 + 5 * i) N rs ∧ runTo p gs i = some rs ∧ OwnA o d st j ∧ st.length = i) => ?_)
    obtain ⟨hi0, hgy, hr2, hg2, he2, hrun, hob, hst⟩ := hk
    replace hc := hc.up hgy
    replace ho := ho.up hgy
    have hor2 := hown r2 hr2
    have hg2l := hg2.1
    rcases Nat.lt_or_ge i p.code.length with hic | hic
    · have hmem : (p.code[((i : Nat) : Int).toNat]?.getD default) ∈ p.code := by
        rw [Int.toNat_natCast, List.getElem?_eq_getElem hic]; exact List.getElem_mem hic
      obtain ⟨m1, m2, m3, m4, m5, m6, m7, m8⟩ := may_facts (f8 _ hmem)
      have m3' : 0 ≤ (p.code[((i : Nat) : Int).toNat]?.getD default).a ∧ (p.code[((i : Nat) : Int).toNat]?.getD default).a < r2.length := by omega
      have m2' : 0 ≤ (p.code[((i : Nat) : Int).toNat]?.getD default).to ∧ (p.code[((i : Nat) : Int).toNat]?.getD default).to < r2.length := by omega
      have he9 := Even.at he2 (k := (p.code[((i : Nat) : Int).toNat]?.getD default).a) (by omega)
      obtain ⟨ci, hci⟩ : ∃ ci, ci = p.code[((i : Nat) : Int).toNat]?.getD default := ⟨_, rfl⟩
      refine Wc.seq ?_
      refine Wc.seq ?_
      refine Wc.region rfl ?_
      refine Wl.q rfl (Qy.move rfl) ?_
      refine Wl.q rfl (Qy.fieldAddr T.fa25_2 rfl) ?_
      refine Wl.q rfl (Qy.load 0 T.one22 rfl rfl rfl) ?_
      refine Wl.q rfl (Qy.len T.sl22 rfl) ?_
      refine Wl.q rfl (Qy.lss rfl rfl) ?_
      refine Wl.done ?_
      refine Ar.next ?_
      refine Wc.condP rfl (by first | assumption | omega) ?_
      refine Wc.skip ?_
      refine Ar.next ?_
      refine Wc.seq ?_
      refine Wc.block ?_
      refine Wc.seq ?_
      refine Wc.region rfl ?_
      refine Wl.q rfl (Qy.fieldAddr T.fa25_2 rfl) ?_
      refine Wl.q rfl (Qy.load 0 T.one22 rfl rfl rfl) ?_
      refine Wl.q rfl (Qy.move rfl) ?_
      refine Wl.q rfl (Qy.at (α := Sl.Instr) T.sl22 rfl rfl (by assumption) (by omega)) ?_
      refine Wl.q rfl (Qy.loadsG T.agg34 rfl (Arr.elem (by assumption) (by omega)) rfl) ?_
      refine Wl.q rfl (Qy.move rfl) ?_
      refine Wl.call 1 rfl T.fn62 rfl (c62 _ (p.code[((i : Nat) : Int).toNat]?.getD default) (some ⟨b2, 0, none⟩) R r2 [] rs (4 + 5 * i) N hor2 hg2 he2 hN (by omega) m1 m3' (fun h => by have := m4 h; omega) m5 (by omega) m6 m7 m8) (tags_of ⟨rfl, trivial⟩) (fun v1 G1 Ho1 hle1 hp => ?_)
      obtain ⟨rv, rfl, hrv, rfl⟩ := hp
      by_cases hd : doI (p.code[((i : Nat) : Int).toNat]?.getD default) rs = none
      · have hd2 : ¬ doI (p.code[((i : Nat) : Int).toNat]?.getD default) rs ≠ none := fun h => h hd
        refine Wl.q rfl (Qy.move rfl) ?_
        refine Wl.q rfl (Qy.extract rfl rfl) ?_
        refine Wl.q rfl (Qy.extract rfl rfl) ?_
        refine Wl.q rfl (Qy.assign rfl) ?_
        refine Wl.q rfl (Qy.assign rfl) ?_
        refine Wl.done ?_
        refine Ar.next ?_
        refine Wc.seq ?_
        refine Wc.seq ?_
        refine Wc.region rfl ?_
        refine Wl.q rfl (Qy.move rfl) ?_
        refine Wl.q rfl (Qy.notD rfl) ?_
        refine Wl.done ?_
        refine Ar.next ?_
        refine Wc.condP rfl (by first | assumption | omega) ?_
        refine Wc.seq ?_
        refine Wc.region rfl ?_
        refine Wl.q rfl (Qy.move rfl) ?_
        refine Wl.q rfl (Qy.move rfl) ?_
        refine Wl.q rfl (Qy.assign rfl) ?_
        refine Wl.q rfl (Qy.assign rfl) ?_
        refine Wl.q rfl (Qy.assign rfl) ?_
        refine Wl.done ?_
        refine Ar.next ?_
        refine Wc.ret ?_
        refine Ar.passRet ?_
        refine Ar.outRet ?_
        refine Ar.passRet ?_
        refine Ar.passRet ?_
        refine Ar.outRet ?_
        refine Ar.passRet ?_
        refine Ar.out3 (.inr rfl) (Ho := []) rfl (.tmp rfl) (.tmp rfl) (.tmp rfl) trivial ?_
        have hfn := runTo_stop hrun hd hic
        exact ⟨_, (i : Int), _, rfl, fun _ => ⟨Int.natCast_nonneg i, rfl⟩, fun os h => (by rw [hfn] at h; cases h), rfl⟩
      · obtain ⟨zs, hzs⟩ := Option.ne_none_iff_exists'.1 hd
        obtain ⟨s, rfl, hs⟩ := hrv zs hzs
        have hok : doI (p.code[((i : Nat) : Int).toNat]?.getD default) rs ≠ none := hd
        replace hc := hc.up hle1
        replace ho := ho.up hle1
        replace hg2 := hg2.up hle1
        refine Wl.q rfl (Qy.move rfl) ?_
        refine Wl.q rfl (Qy.extract rfl rfl) ?_
        refine Wl.q rfl (Qy.extract rfl rfl) ?_
        refine Wl.q rfl (Qy.assign rfl) ?_
        refine Wl.q rfl (Qy.assign rfl) ?_
        refine Wl.done ?_
        refine Ar.next ?_
        refine Wc.seq ?_
        refine Wc.seq ?_
        refine Wc.region rfl ?_
        refine Wl.q rfl (Qy.move rfl) ?_
        refine Wl.q rfl (Qy.notD rfl) ?_
        refine Wl.done ?_
        refine Ar.next ?_
        refine Wc.cond rfl (fun hc1 => ?_) (fun hc1 => ?_)
        refine Wc.seq ?_
        refine Wc.region rfl ?_
        refine Wl.q rfl (Qy.move rfl) ?_
        refine Wl.q rfl (Qy.move rfl) ?_
        refine Wl.q rfl (Qy.assign rfl) ?_
        refine Wl.q rfl (Qy.assign rfl) ?_
        refine Wl.q rfl (Qy.assign rfl) ?_
        refine Wl.done ?_
        refine Ar.next ?_
        refine Wc.ret ?_
        refine Ar.passRet ?_
        refine Ar.outRet ?_
        refine Ar.passRet ?_
        refine Ar.passRet ?_
        refine Ar.outRet ?_
        refine Ar.passRet ?_
        rotate_left
        refine Wc.skip ?_
        refine Ar.next ?_
        refine Wc.seq ?_
        refine Wc.region rfl ?_
        refine Wl.q rfl (Qy.move rfl) ?_
        refine Wl.q rfl (Qy.fieldAddr T.fa25_2 rfl) ?_
        refine Wl.q rfl (Qy.load 0 T.one22 rfl rfl rfl) ?_
        refine Wl.q rfl (Qy.move rfl) ?_
        refine Wl.q rfl (Qy.at (α := Sl.Instr) T.sl22 rfl rfl (by assumption) (by omega)) ?_
        refine Wl.q rfl (Qy.fieldAddr T.fa34_1 rfl) ?_
        refine Wl.q rfl (Qy.loadG T.one3 rfl (Arr.cell (by assumption) (by omega) 1 rfl rfl)) ?_
        refine Wl.q rfl (Qy.move rfl) ?_
        refine Wl.q rfl (Qy.indexAddrO (α := SV) T.sl37 rfl rfl (by assumption) (by omega)) ?_
        refine Wl.setO (z := _) 1 T.size40 rfl rfl rfl (by assumption) (by omega) rfl (fun ho1 => ?_)
        refine Wl.done ?_
        refine Ar.next ?_
        refine Wc.region rfl ?_
        refine Wl.q rfl (Qy.move rfl) ?_
        refine Wl.q rfl (Qy.move rfl) ?_
        refine Wl.lit (α := SV) 4 [⟨_, _, _⟩] rfl T.sl37 T.el40 rfl rfl rfl rfl rfl (fun b3 => ?_)
        refine Wl.append (α := SV) 3 rfl T.sl37 T.el40 rfl rfl rfl (by first | assumption | exact OwnA.nil | exact OwnA.made (by simp)) (Src.row 4 rfl) (by first | omega | (simp only [List.length_append, List.length_cons, List.length_nil, maxLen]; omega)) (by first | omega | (simp only [List.length_append, List.length_cons, List.length_nil, maxLen]; omega)) (fun a2 c2 junk2 ho2 => ?_)
        refine Wl.q rfl (Qy.assign rfl) ?_
        refine Wl.done ?_
        refine Ar.outNormal ?_
        refine Ar.next ?_
        refine Wc.region rfl ?_
        refine Wl.q rfl (Qy.move rfl) ?_
        refine Wl.q rfl (Qy.add rfl rfl (by omega)) ?_
        refine Wl.q rfl (Qy.assign rfl) ?_
        refine Wl.done ?_
        rotate_left
        · exact absurd hok hc1
        · refine Ar.re 7 rfl (show _ = Value.slice (some ⟨b2, 0, none⟩) (r2.set (p.code[((i : Nat) : Int).toNat]?.getD default).to.toNat s).length R by rw [List.length_set]) ?_
          refine Ar.again ((i + 1, G1, r2.set (p.code[((i : Nat) : Int).toNat]?.getD default).to.toNat s, rs.set (p.code[((i : Nat) : Int).toNat]?.getD default).to.toNat zs, st ++ [s], (a2, c2, junk2))) ?_ ?_ rfl ⟨rfl, rfl, rfl, rfl, trivial⟩ ⟨rfl, rfl, rfl, trivial⟩
          · have hx := doI_even (i := p.code[((i : Nat) : Int).toNat]?.getD default) he2 (by omega) (fun h => by have := m4 h; omega) (fun h => (m6 (by omega) (by omega) (by omega) (by omega)).2) hzs
            refine ⟨by omega, Imm.le_trans hgy hle1, by rw [List.length_set]; exact hr2, hg2.set _ hs, ?_, runTo_succ (x := []) hrun hzs, by assumption, by rw [List.length_append]; show st.length + 1 = i + 1; omega⟩
            rw [show 4 + 5 * (i + 1) = 5 + (4 + 5 * i) by omega]
            exact even_set (he2.mono (by omega)) hx _
          · show p.code.length - (i + 1) < p.code.length - i
            omega
    · have hie : i = p.code.length := by omega
      subst hie
      have hfo : followP p gs = some (outsOf p rs) := by unfold followP; rw [hrun]; rfl
      have hol : (outsOf p rs).length = p.outs.length := by unfold outsOf; rw [List.length_map]
      refine Wc.seq ?_
      refine Wc.seq ?_
      refine Wc.region rfl ?_
      refine Wl.q rfl (Qy.move rfl) ?_
      refine Wl.q rfl (Qy.fieldAddr T.fa25_2 rfl) ?_
      refine Wl.q rfl (Qy.load 0 T.one22 rfl rfl rfl) ?_
      refine Wl.q rfl (Qy.len T.sl22 rfl) ?_
      refine Wl.q rfl (Qy.lss rfl rfl) ?_
      refine Wl.done ?_
      refine Ar.next ?_
      refine Wc.condN rfl (by first | assumption | omega) ?_
      refine Wc.exit ?_
      refine Ar.passExit ?_
      refine Ar.passExit ?_
      refine Ar.here ?_
      refine Ar.next ?_
      refine Wc.seq ?_
      refine Wc.region rfl ?_
      refine Wl.q rfl (Qy.assign rfl) ?_
      refine Wl.done ?_
      refine Ar.next ?_
      refine Wc.seq ?_
      refine Wc.seq ?_
      refine Wc.region rfl ?_
      refine Wl.q rfl (Qy.assign rfl) ?_
      refine Wl.done ?_
      refine Ar.next ?_
      refine Wc.block ?_
      refine Wc.nilRow 4 (Row 40 ([] : List SV) []) ?_
      refine Wc.loop (ι := Nat × List SV × (Option Addr × Nat × List Value)) (fun (q, ol, (oo, od, oj)) => ([(14, .int .i64 (q : Int)), (13, .slice oo ol.length od), (9, Go.Value.slice o (List.length st) d), (7, Go.Value.slice (Option.some (Go.Addr.mk b2 0 Option.none)) (List.length r2) R), (2, Go.Value.pointer (Option.some (Go.Addr.mk b1 0 Option.none)))], [(4, oo.map (·.block), Row 40 ol oj), (3, Option.map (fun x => Go.Addr.block x) o, Go.Sl.Row (α := Go.Sl.SV) 40 (st) (j)), (1, Option.some b2, Go.Sl.Row (α := Go.Sl.SV) 40 (r2) ([])), (0, Option.some b1, Go.Obj.cells #[Go.Value.int Go.IntKind.i64 (Go.Proofs.Ytfleehgbpgmcnaa.PV.ins p), Go.Value.int Go.IntKind.i64 (Go.Proofs.Ytfleehgbpgmcnaa.PV.regs p), Go.Value.slice ac (List.length (Go.Proofs.Ytfleehgbpgmcnaa.PV.code p)) cc, Go.Value.slice ao (List.length (Go.Proofs.Ytfleehgbpgmcnaa.PV.outs p)) co] 25)])) (fun (q, ol, (oo, od, oj)) => q ≤ p.outs.length ∧ ol.length = q ∧ Grid Gy ol ((outsOf p rs).take q) ∧ OwnA oo od ol oj) (fun (q, ol, (oo, od, oj)) => p.outs.length - q) ((0, [], (none, 0, []))) (⟨Nat.zero_le _, rfl, by rw [List.take_zero]; exact Grid.nil _, OwnA.nil⟩) ⟨rfl, rfl, rfl, rfl, rfl, trivial⟩ ⟨rfl, rfl, rfl, rfl, trivial⟩ (fun ⟨q, ol, (oo, od, oj)⟩ => fun (hk : q ≤ p.outs.length ∧ ol.length = q ∧ Grid Gy ol ((outsOf p rs).take q) ∧ OwnA oo od ol oj) => ?_)
      obtain ⟨hq0, hql, hqg, hqo⟩ := hk
      rcases Nat.lt_or_ge q p.outs.length with hqc | hqc
      · have hmem : (p.outs[((q : Nat) : Int).toNat]?.getD default) ∈ p.outs := by
          rw [Int.toNat_natCast, List.getElem?_eq_getElem hqc]; exact List.getElem_mem hqc
        have hrr := f7 _ hmem
        have hrr2 : 0 ≤ (p.outs[((q : Nat) : Int).toNat]?.getD default) ∧ (p.outs[((q : Nat) : Int).toNat]?.getD default) < r2.length := by omega
        have hss := hg2.at hrr2
        refine Wc.seq ?_
        refine Wc.seq ?_
        refine Wc.region rfl ?_
        refine Wl.q rfl (Qy.move rfl) ?_
        refine Wl.q rfl (Qy.fieldAddr T.fa25_3 rfl) ?_
        refine Wl.q rfl (Qy.load 0 T.one23 rfl rfl rfl) ?_
        refine Wl.q rfl (Qy.len T.sl23 rfl) ?_
        refine Wl.q rfl (Qy.lss rfl rfl) ?_
        refine Wl.done ?_
        refine Ar.next ?_
        refine Wc.condP rfl (by first | assumption | omega) ?_
        refine Wc.skip ?_
        refine Ar.next ?_
        refine Wc.seq ?_
        refine Wc.block ?_
        refine Wc.region rfl ?_
        refine Wl.q rfl (Qy.move rfl) ?_
        refine Wl.q rfl (Qy.move rfl) ?_
        refine Wl.q rfl (Qy.fieldAddr T.fa25_3 rfl) ?_
        refine Wl.q rfl (Qy.load 0 T.one23 rfl rfl rfl) ?_
        refine Wl.q rfl (Qy.move rfl) ?_
        refine Wl.q rfl (Qy.at (α := Int) T.sl23 rfl rfl (by assumption) (by omega)) ?_
        refine Wl.q rfl (Qy.loadG T.one3 rfl (Arr.cell (by assumption) (by omega) 0 rfl rfl)) ?_
        refine Wl.q rfl (Qy.indexAddrO (α := SV) T.sl37 rfl rfl (by assumption) (by omega)) ?_
        refine Wl.q rfl (Qy.loadO 1 0 T.one40 rfl rfl (by assumption) (by omega) rfl rfl) ?_
        refine Wl.lit (α := SV) 5 [⟨_, _, _⟩] rfl T.sl37 T.el40 rfl rfl rfl rfl rfl (fun b3 => ?_)
        refine Wl.append (α := SV) 4 rfl T.sl37 T.el40 rfl rfl rfl (by first | assumption | exact OwnA.nil | exact OwnA.made (by simp)) (Src.row 5 rfl) (by first | omega | (simp only [List.length_append, List.length_cons, List.length_nil, maxLen]; omega)) (by first | omega | (simp only [List.length_append, List.length_cons, List.length_nil, maxLen]; omega)) (fun a1 c1 junk1 ho1 => ?_)
        refine Wl.q rfl (Qy.assign rfl) ?_
        refine Wl.done ?_
        refine Ar.outNormal ?_
        refine Ar.next ?_
        refine Wc.region rfl ?_
        refine Wl.q rfl (Qy.move rfl) ?_
        refine Wl.q rfl (Qy.add rfl rfl (by omega)) ?_
        refine Wl.q rfl (Qy.assign rfl) ?_
        refine Wl.done ?_
        refine Ar.again ((q + 1, ol ++ [r2[(p.outs[((q : Nat) : Int).toNat]?.getD default).toNat]?.getD default], (a1, c1, junk1))) ?_ ?_ rfl ⟨rfl, rfl, rfl, rfl, rfl, trivial⟩ ⟨rfl, rfl, rfl, rfl, trivial⟩
        · exact ⟨by omega, by rw [List.length_append]; show ol.length + 1 = q + 1; omega, by rw [outs_succ hqc]; exact hqg.snoc hss, by assumption⟩
        · show p.outs.length - (q + 1) < p.outs.length - q
          omega
      · refine Wc.seq ?_
        refine Wc.seq ?_
        refine Wc.region rfl ?_
        refine Wl.q rfl (Qy.move rfl) ?_
        refine Wl.q rfl (Qy.fieldAddr T.fa25_3 rfl) ?_
        refine Wl.q rfl (Qy.load 0 T.one23 rfl rfl rfl) ?_
        refine Wl.q rfl (Qy.len T.sl23 rfl) ?_
        refine Wl.q rfl (Qy.lss rfl rfl) ?_
        refine Wl.done ?_
        refine Ar.next ?_
        refine Wc.condN rfl (by first | assumption | omega) ?_
        refine Wc.exit ?_
        refine Ar.passExit ?_
        refine Ar.passExit ?_
        refine Ar.here ?_
        refine Ar.next ?_
        refine Wc.seq ?_
        refine Wc.region rfl ?_
        refine Wl.q rfl (Qy.move rfl) ?_
        refine Wl.q rfl (Qy.move rfl) ?_
        refine Wl.q rfl (Qy.assign rfl) ?_
        refine Wl.q rfl (Qy.assign rfl) ?_
        refine Wl.q rfl (Qy.assign rfl) ?_
        refine Wl.done ?_
        refine Ar.next ?_
        refine Wc.ret ?_
        rw [List.take_of_length_le (by omega)] at hqg
        refine Ar.freezeRow 4 rfl hqo (fun G9 hle9 hA => ?_)
        refine Ar.out3 (.inr rfl) (Ho := []) rfl (.tmp rfl) (.tmp rfl) (.tmp rfl) trivial ?_
        exact ⟨_, -1, _, rfl, fun h => (by rw [hfo] at h; cases h), fun os h => (by rw [hfo] at h; cases h; exact ⟨rfl, oo, od, ol, rfl, hA, hqg.up hle9⟩), rfl⟩
end Go.Proofs.Ytfleehgbpgmcnaa
