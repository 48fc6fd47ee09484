/- Parts of the proof (part 7): what the rows' text needs of the texts that lead to it. -/
import Derived.Test.YtbppmiimeccclaaGreatMJf
set_option maxRecDepth 100000
set_option linter.unusedVariables false
namespace Go.Proofs.YtbppmiimeccclaaGreat
open Go Go.Sl
set_option maxHeartbeats 4000000
theorem row_next {G : Imm} {r : List SV} {rs : List (List Int)} {k : Nat} {s : SV} (h : ∀ q : Nat, q < k → RowS G (r[q]?.getD default) (rs[q]?.getD [])) (hk : k < r.length) (hs : RowS G s (rs[k]?.getD [])) : ∀ q : Nat, q < k + 1 → RowS G ((r.set k s)[q]?.getD default) (rs[q]?.getD []) := fun q hq => by
  rw [List.getElem?_set]
  by_cases he : k = q
  · subst he; rw [if_pos rfl, if_pos hk]; exact hs
  · rw [if_neg he]; exact h q (by omega)
theorem rows_up {G G' : Imm} {r : List SV} {rs : List (List Int)} {k : Nat} (h : ∀ q : Nat, q < k → RowS G (r[q]?.getD default) (rs[q]?.getD [])) (hl : G.le G') : ∀ q : Nat, q < k → RowS G' (r[q]?.getD default) (rs[q]?.getD []) := fun q hq => (h q hq).up hl
theorem outs_succ {p : PV} {rs : List (List Int)} {q : Nat} (hq : q < p.outs.length) :
    (outsOf p rs).take (q + 1) = (outsOf p rs).take q ++ [rs[(p.outs[((q : Nat) : Int).toNat]?.getD default).toNat]?.getD []] := by
  have h1 : q < (outsOf p rs).length := by unfold outsOf; rw [List.length_map]; exact hq
  have h2 : (outsOf p rs)[q] = rs[(p.outs[q]).toNat]?.getD [] := List.getElem_map _
  rw [List.take_succ_eq_append_getElem h1, h2, Int.toNat_natCast, List.getElem?_eq_getElem hq]; rfl
attribute [local irreducible] valL pw cmpZ p2
theorem c34 (G : Imm) (p : PV) (ac ao ga : Option Addr) (cc co gc : Nat) (gl : List SV) (gs : List (List Int)) (N : Nat) (hc : Arr G ac p.code) (ho : Arr G ao p.outs) (hga : Arr G ga gl) (hgg : Grid G gl gs) (hev : Even 4 N gs) (hN : N ≤ 1048576) (hR : rightP p = true) (hgi : (gl.length : Int) = p.ins) (hcl : p.code.length ≤ 16384) :
    Does Tryz.prog 34 [.agg #[.int .i64 p.ins, .int .i64 p.regs, .slice ac p.code.length cc, .slice ao p.outs.length co], .slice ga gl.length gc] G [] (fun v G' Ho => ∃ sv bad ov, v = .tuple #[sv, .int .i64 bad, ov] ∧ (followP p gs = none → 0 ≤ bad ∧ ov = .slice none 0 0) ∧
      (∀ os, followP p gs = some os → bad = -1 ∧ ∃ (oa : Option Addr) (oc : Nat) (ol : List SV), ov = .slice oa ol.length oc ∧ Arr G' oa ol ∧ Grid G' ol os) ∧ Ho = []) := by
  obtain ⟨f1, f2, f3, f4, f5, f6, f7, f8⟩ := right_facts hR
  have hgl := hgg.1
  obtain ⟨R, hRR⟩ : ∃ R : Nat, p.regs = (R : Int) := ⟨p.regs.toNat, by omega⟩
  refine Does.enter Tryz.func34 rfl Tryz.ntmps34 rfl (fun w => ?_)
  have hM : p.regs.toNat = R := by omega
  have hrl0 := regs0_len p gs
  rw [hM] at hrl0
  have hgl0 : 0 < gl.length := by omega
  have h0R := hgg.at (m := 0) (by omega)
  obtain ⟨h0L, h0B⟩ := hev.at (k := 0) (by omega)
  have h0n : (gl[(0 : Int).toNat]?.getD default).n ≤ 1048576 := by rw [h0R.len, h0L]; exact hN
  refine Wc.seq ?_
  refine Wc.region rfl ?_
  refine Wl.box 0 rfl rfl rfl (fun b1 => ?_)
  refine Wl.q rfl (Qy.assign rfl) ?_
  refine Wl.q rfl (Qy.assign rfl) ?_
  refine Wl.q rfl (Qy.assign rfl) ?_
  refine Wl.done ?_
  refine Ar.next ?_
  refine Wc.seq ?_
  refine Wc.region rfl ?_
  refine Wl.q rfl (Qy.fieldAddr T.fa25_1 rfl) ?_
  refine Wl.q rfl (Qy.load 0 T.one3 rfl rfl rfl) ?_
  refine Wl.make (α := SV) 1 rfl T.sl69 T.el74 rfl rfl (by omega) (by omega) (fun b2 => ?_)
  refine Wl.q rfl (Qy.assign rfl) ?_
  refine Wl.done ?_
  refine Ar.next ?_
  refine Wc.seq ?_
  refine Wc.seq ?_
  refine Wc.region rfl ?_
  refine Wl.q rfl (Qy.assign rfl) ?_
  refine Wl.done ?_
  refine Ar.next ?_
  refine Wc.block ?_
  rw [hM]
  have hown : ∀ r : List SV, r.length = R → OwnA (some ⟨b2, 0, none⟩) R r [] := fun r hr => .inr ⟨b2, rfl, by rw [hr]; rfl, by omega, by simp only [maxLen]; omega⟩
  refine Wc.re 7 rfl (show _ = Value.slice (some ⟨b2, 0, none⟩) (List.replicate R (default : SV)).length R by rw [List.length_replicate]) ?_
  refine Wc.loopG (ι := Nat × Imm × List SV) (fun (k, Gx, r) => ([(8, .int .i64 (k : Int)), (7, .slice (some ⟨b2, 0, none⟩) r.length R), (6, Go.Value.slice Option.none 0 0), (5, Go.Value.int Go.IntKind.i64 0), (4, Go.Value.slice Option.none 0 0), (2, Go.Value.pointer (Option.some (Go.Addr.mk b1 0 Option.none))), (1, Go.Value.slice ga (List.length gl) gc)], [(1, some b2, Row 74 r []), (0, Option.some b1, Go.Obj.cells #[Go.Value.int Go.IntKind.i64 (Go.Proofs.YtbppmiimeccclaaGreat.PV.ins p), Go.Value.int Go.IntKind.i64 (Go.Proofs.YtbppmiimeccclaaGreat.PV.regs p), Go.Value.slice ac (List.length (Go.Proofs.YtbppmiimeccclaaGreat.PV.code p)) cc, Go.Value.slice ao (List.length (Go.Proofs.YtbppmiimeccclaaGreat.PV.outs p)) co] 25)])) (fun (k, Gx, r) => Gx) (fun (k, Gx, r) => k ≤ R ∧ G.le Gx ∧ r.length = R ∧ ∀ q : Nat, q < k → RowS Gx (r[q]?.getD default) ((regs0 p gs)[q]?.getD [])) (fun (k, Gx, r) => R - k) ((0, G, List.replicate R (default : SV))) (⟨Nat.zero_le _, Imm.le_refl _, List.length_replicate, fun q hq => by omega⟩) rfl ⟨rfl, rfl, rfl, rfl, rfl, rfl, rfl, trivial⟩ ⟨rfl, rfl, trivial⟩ (fun ⟨k, Gx, r⟩ => fun (hk : k ≤ R ∧ G.le Gx ∧ r.length = R ∧ ∀ q : Nat, q < k → RowS Gx (r[q]?.getD default) ((regs0 p gs)[q]?.getD [])) => ?_)
  obtain ⟨hk0, hgx, hrR, hrow⟩ := hk
  replace hc := hc.up hgx
  replace ho := ho.up hgx
  replace hga := hga.up hgx
  replace hgg := hgg.up hgx
  have hor := hown r hrR
  rcases Nat.lt_or_ge k R with hkR | hkR
  · by_cases hkg : k < gl.length
    · refine Wc.seq ?_
      refine Wc.seq ?_
      refine Wc.region rfl ?_
      refine Wl.q rfl (Qy.move rfl) ?_
      refine Wl.q rfl (Qy.fieldAddr T.fa25_1 rfl) ?_
      refine Wl.q rfl (Qy.load 0 T.one3 rfl rfl rfl) ?_
      refine Wl.q rfl (Qy.lss rfl rfl) ?_
      refine Wl.done ?_
      refine Ar.next ?_
      refine Wc.condP rfl (by first | assumption | omega) ?_
      refine Wc.skip ?_
      refine Ar.next ?_
      refine Wc.seq ?_
      refine Wc.block ?_
      refine Wc.seq ?_
      refine Wc.region rfl ?_
      refine Wl.q rfl (Qy.move rfl) ?_
      refine Wl.q rfl (Qy.move rfl) ?_
      refine Wl.q rfl (Qy.move rfl) ?_
      refine Wl.q rfl (Qy.at (α := SV) T.sl69 rfl rfl (by assumption) (by omega)) ?_
      refine Wl.q rfl (Qy.loadG T.one74 rfl (Arr.cell (by assumption) (by omega) 0 rfl rfl)) ?_
      refine Wl.q rfl (Qy.len T.sl74 rfl) ?_
      refine Wl.call 2 rfl T.fn36 rfl (c36 _ _ (by assumption)) (tags_of trivial) (fun v1 G1 Ho1 hle1 hp => ?_)
      obtain ⟨⟨zo1, zc1, zl1, rfl, hzA1, hzN1, hzl1⟩, rfl⟩ := hp
      replace hc := hc.up hle1
      replace ho := ho.up hle1
      replace hga := hga.up hle1
      replace hgg := hgg.up hle1
      refine Wl.q rfl (Qy.indexAddrO (α := SV) T.sl69 rfl rfl (by assumption) (by omega)) ?_
      refine Wl.setO (z := ⟨zo1, zl1.length, zc1⟩) 1 T.size74 rfl rfl rfl (by assumption) (by omega) rfl (fun ho1 => ?_)
      refine Wl.done ?_
      refine Ar.next ?_
      refine Wc.seq ?_
      refine Wc.region rfl ?_
      refine Wl.q rfl (Qy.move rfl) ?_
      refine Wl.q rfl (Qy.move rfl) ?_
      refine Wl.q rfl (Qy.len T.sl69 rfl) ?_
      refine Wl.q rfl (Qy.lss rfl rfl) ?_
      refine Wl.done ?_
      refine Ar.next ?_
      refine Wc.condP rfl (by first | assumption | omega) ?_
      refine Wc.region rfl ?_
      refine Wl.q rfl (Qy.move rfl) ?_
      refine Wl.q rfl (Qy.move rfl) ?_
      refine Wl.q rfl (Qy.move rfl) ?_
      refine Wl.q rfl (Qy.move rfl) ?_
      refine Wl.q rfl (Qy.at (α := SV) T.sl69 rfl rfl (by assumption) (by omega)) ?_
      refine Wl.q rfl (Qy.loadG T.one74 rfl (Arr.cell (by assumption) (by omega) 0 rfl rfl)) ?_
      refine Wl.q rfl (Qy.indexAddrO (α := SV) T.sl69 rfl rfl (by assumption) (by omega)) ?_
      refine Wl.setO (z := gl[((k : Nat) : Int).toNat]?.getD default) 1 T.size74 rfl rfl rfl (by assumption) (by rw [List.length_set]; omega) rfl (fun ho2 => ?_)
      refine Wl.done ?_
      refine Ar.outNormal ?_
      refine Ar.next ?_
      refine Wc.region rfl ?_
      refine Wl.q rfl (Qy.move rfl) ?_
      refine Wl.q rfl (Qy.add rfl rfl (by omega)) ?_
      refine Wl.q rfl (Qy.assign rfl) ?_
      refine Wl.done ?_
      rw [Int.toNat_natCast, List.set_set]
      refine Ar.re 7 rfl (show _ = Value.slice (some ⟨b2, 0, none⟩) (r.set k (gl[k]?.getD default)).length R by rw [List.length_set]) ?_
      refine Ar.again ((k + 1, G1, r.set k (gl[k]?.getD default))) ?_ ?_ rfl ⟨rfl, rfl, rfl, rfl, rfl, rfl, rfl, trivial⟩ ⟨rfl, rfl, trivial⟩
      · refine ⟨by omega, Imm.le_trans hgx hle1, by rw [List.length_set]; exact hrR, row_next (rows_up hrow hle1) (by omega) ?_⟩
        rw [regs0_at (by omega), if_pos (by omega)]
        exact hgg.2 k hkg
      · show R - (k + 1) < R - k
        omega
    · refine Wc.seq ?_
      refine Wc.seq ?_
      refine Wc.region rfl ?_
      refine Wl.q rfl (Qy.move rfl) ?_
      refine Wl.q rfl (Qy.fieldAddr T.fa25_1 rfl) ?_
      refine Wl.q rfl (Qy.load 0 T.one3 rfl rfl rfl) ?_
      refine Wl.q rfl (Qy.lss rfl rfl) ?_
      refine Wl.done ?_
      refine Ar.next ?_
      refine Wc.condP rfl (by first | assumption | omega) ?_
      refine Wc.skip ?_
      refine Ar.next ?_
      refine Wc.seq ?_
      refine Wc.block ?_
      refine Wc.seq ?_
      refine Wc.region rfl ?_
      refine Wl.q rfl (Qy.move rfl) ?_
      refine Wl.q rfl (Qy.move rfl) ?_
      refine Wl.q rfl (Qy.move rfl) ?_
      refine Wl.q rfl (Qy.at (α := SV) T.sl69 rfl rfl (by assumption) (by omega)) ?_
      refine Wl.q rfl (Qy.loadG T.one74 rfl (Arr.cell (by assumption) (by omega) 0 rfl rfl)) ?_
      refine Wl.q rfl (Qy.len T.sl74 rfl) ?_
      refine Wl.call 2 rfl T.fn36 rfl (c36 _ _ (by assumption)) (tags_of trivial) (fun v1 G1 Ho1 hle1 hp => ?_)
      obtain ⟨⟨zo1, zc1, zl1, rfl, hzA1, hzN1, hzl1⟩, rfl⟩ := hp
      replace hc := hc.up hle1
      replace ho := ho.up hle1
      replace hga := hga.up hle1
      replace hgg := hgg.up hle1
      refine Wl.q rfl (Qy.indexAddrO (α := SV) T.sl69 rfl rfl (by assumption) (by omega)) ?_
      refine Wl.setO (z := ⟨zo1, zl1.length, zc1⟩) 1 T.size74 rfl rfl rfl (by assumption) (by omega) rfl (fun ho1 => ?_)
      refine Wl.done ?_
      refine Ar.next ?_
      refine Wc.seq ?_
      refine Wc.region rfl ?_
      refine Wl.q rfl (Qy.move rfl) ?_
      refine Wl.q rfl (Qy.move rfl) ?_
      refine Wl.q rfl (Qy.len T.sl69 rfl) ?_
      refine Wl.q rfl (Qy.lss rfl rfl) ?_
      refine Wl.done ?_
      refine Ar.next ?_
      refine Wc.condN rfl (by first | assumption | omega) ?_
      refine Wc.skip ?_
      refine Ar.outNormal ?_
      refine Ar.next ?_
      refine Wc.region rfl ?_
      refine Wl.q rfl (Qy.move rfl) ?_
      refine Wl.q rfl (Qy.add rfl rfl (by omega)) ?_
      refine Wl.q rfl (Qy.assign rfl) ?_
      refine Wl.done ?_
      rw [Int.toNat_natCast]
      refine Ar.re 7 rfl (show _ = Value.slice (some ⟨b2, 0, none⟩) (r.set k (⟨zo1, zl1.length, zc1⟩ : SV)).length R by rw [List.length_set]) ?_
      refine Ar.again ((k + 1, G1, r.set k (⟨zo1, zl1.length, zc1⟩ : SV))) ?_ ?_ rfl ⟨rfl, rfl, rfl, rfl, rfl, rfl, rfl, trivial⟩ ⟨rfl, rfl, trivial⟩
      · refine ⟨by omega, Imm.le_trans hgx hle1, by rw [List.length_set]; exact hrR, row_next (rows_up hrow hle1) (by omega) ?_⟩
        rw [regs0_at (by omega), if_neg (by omega)]
        refine ⟨zl1, rfl, hzl1, hzA1, ?_⟩
        have e := hzN1
        rw [h0R.len] at e
        exact e
      · show R - (k + 1) < R - k
        omega
  · have hg0 : Grid Gx r (regs0 p gs) := ⟨by omega, fun q hq => hrow q (by omega)⟩
    have he0 : Even 4 N (regs0 p gs) := even_regs0 hev (by omega)
    refine Wc.seq ?_
    refine Wc.seq ?_
    refine Wc.region rfl ?_
    refine Wl.q rfl (Qy.move rfl) ?_
    refine Wl.q rfl (Qy.fieldAddr T.fa25_1 rfl) ?_
    refine Wl.q rfl (Qy.load 0 T.one3 rfl rfl rfl) ?_
    refine Wl.q rfl (Qy.lss rfl rfl) ?_
    refine Wl.done ?_
    refine Ar.next ?_
    refine Wc.condN rfl (by first | assumption | omega) ?_
    refine Wc.exit ?_
    refine Ar.passExit ?_
    refine Ar.passExit ?_
    refine Ar.here ?_
    refine Ar.next ?_
    refine Wc.seq ?_
    refine Wc.region rfl ?_
    refine Wl.q rfl (Qy.assign rfl) ?_
    refine Wl.done ?_
    refine Ar.next ?_
    refine Wc.seq ?_
    refine Wc.seq ?_
    refine Wc.region rfl ?_
    refine Wl.q rfl (Qy.assign rfl) ?_
    refine Wl.done ?_
    refine Ar.next ?_
    refine Wc.block ?_
    refine Wc.nilRow 3 (Row 74 ([] : List SV) []) ?_
    refine Wc.loopG (ι := Nat × Imm × List SV × List (List Int) × List SV × (Option Addr × Nat × List Value)) (fun (i, Gy, r2, rs, st, (o, d, j)) => ([(10, .int .i64 (i : Int)), (9, .slice o st.length d), (7, .slice (some ⟨b2, 0, none⟩) r2.length R), (2, Go.Value.pointer (Option.some (Go.Addr.mk b1 0 Option.none)))], [(3, o.map (·.block), Row 74 st j), (1, some b2, Row 74 r2 []), (0, Option.some b1, Go.Obj.cells #[Go.Value.int Go.IntKind.i64 (Go.Proofs.YtbppmiimeccclaaGreat.PV.ins p), Go.Value.int Go.IntKind.i64 (Go.Proofs.YtbppmiimeccclaaGreat.PV.regs p), Go.Value.slice ac (List.length (Go.Proofs.YtbppmiimeccclaaGreat.PV.code p)) cc, Go.Value.slice ao (List.length (Go.Proofs.YtbppmiimeccclaaGreat.PV.outs p)) co] 25)])) (fun (i, Gy, r2, rs, st, (o, d, j)) => Gy) (fun (i, Gy, r2, rs, st, (o, d, j)) => i ≤ p.code.length ∧ Gx.le Gy ∧ r2.length = R ∧ Grid Gy r2 rs ∧ Even (4 + 5 * i) N rs ∧ runTo p gs i = some rs ∧ OwnA o d st j ∧ st.length = i) (fun (i, Gy, r2, rs, st, (o, d, j)) => p.code.length - i) ((0, Gx, r, regs0 p gs, [], (none, 0, []))) (⟨Nat.zero_le _, Imm.le_refl _, hrR, hg0, he0, rfl, OwnA.nil, rfl⟩) rfl ⟨rfl, rfl, rfl, rfl, trivial⟩ ⟨rfl, rfl, rfl, trivial⟩ (fun ⟨i, Gy, r2, rs, st, (o, d, j)⟩ => fun (hk : i ≤ p.code.length ∧ Gx.le Gy ∧ r2.length = R ∧ Grid Gy r2 rs ∧ Even (4 + 5 * i) N rs ∧ runTo p gs i = some rs ∧ OwnA o d st j ∧ st.length = i) => ?_)
    obtain ⟨hi0, hgy, hr2, hg2, he2, hrun, hob, hst⟩ := hk
    replace hc := hc.up hgy
    replace ho := ho.up hgy
    have hor2 := hown r2 hr2
    have hg2l := hg2.1
    rcases Nat.lt_or_ge i p.code.length with hic | hic
    · have hmem : (p.code[((i : Nat) : Int).toNat]?.getD default) ∈ p.code := by
        rw [Int.toNat_natCast, List.getElem?_eq_getElem hic]; exact List.getElem_mem hic
      obtain ⟨m1, m2, m3, m4, m5, m6, m7, m8⟩ := may_facts (f8 _ hmem)
      have m3' : 0 ≤ (p.code[((i : Nat) : Int).toNat]?.getD default).a ∧ (p.code[((i : Nat) : Int).toNat]?.getD default).a < r2.length := by omega
      have m2' : 0 ≤ (p.code[((i : Nat) : Int).toNat]?.getD default).to ∧ (p.code[((i : Nat) : Int).toNat]?.getD default).to < r2.length := by omega
      have he9 := Even.at he2 (k := (p.code[((i : Nat) : Int).toNat]?.getD default).a) (by omega)
      obtain ⟨ci, hci⟩ : ∃ ci, ci = p.code[((i : Nat) : Int).toNat]?.getD default := ⟨_, rfl⟩
      refine Wc.seq ?_
      refine Wc.seq ?_
      refine Wc.region rfl ?_
      refine Wl.q rfl (Qy.move rfl) ?_
      refine Wl.q rfl (Qy.fieldAddr T.fa25_2 rfl) ?_
      refine Wl.q rfl (Qy.load 0 T.one22 rfl rfl rfl) ?_
      refine Wl.q rfl (Qy.len T.sl22 rfl) ?_
      refine Wl.q rfl (Qy.lss rfl rfl) ?_
      refine Wl.done ?_
      refine Ar.next ?_
      refine Wc.condP rfl (by first | assumption | omega) ?_
      refine Wc.skip ?_
      refine Ar.next ?_
      refine Wc.seq ?_
      refine Wc.block ?_
      refine Wc.seq ?_
      refine Wc.region rfl ?_
      refine Wl.q rfl (Qy.fieldAddr T.fa25_2 rfl) ?_
      refine Wl.q rfl (Qy.load 0 T.one22 rfl rfl rfl) ?_
      refine Wl.q rfl (Qy.move rfl) ?_
      refine Wl.q rfl (Qy.at (α := Sl.Instr) T.sl22 rfl rfl (by assumption) (by omega)) ?_
      refine Wl.q rfl (Qy.loadsG T.agg93 rfl (Arr.elem (by assumption) (by omega)) rfl) ?_
      refine Wl.q rfl (Qy.move rfl) ?_
      refine Wl.call 1 rfl T.fn80 rfl (c80 _ (p.code[((i : Nat) : Int).toNat]?.getD default) (some ⟨b2, 0, none⟩) R r2 [] rs (4 + 5 * i) N hor2 hg2 he2 hN (by omega) m1 m3' (fun h => by have := m4 h; omega) m5 (by omega) m6 m7 m8) (tags_of ⟨rfl, trivial⟩) (fun v1 G1 Ho1 hle1 hp => ?_)
      obtain ⟨rv, rfl, hrv, rfl⟩ := hp
      by_cases hd : doI (p.code[((i : Nat) : Int).toNat]?.getD default) rs = none
      · have hd2 : ¬ doI (p.code[((i : Nat) : Int).toNat]?.getD default) rs ≠ none := fun h => h hd
        refine Wl.q rfl (Qy.move rfl) ?_
        refine Wl.q rfl (Qy.extract rfl rfl) ?_
        refine Wl.q rfl (Qy.extract rfl rfl) ?_
        refine Wl.q rfl (Qy.assign rfl) ?_
        refine Wl.q rfl (Qy.assign rfl) ?_
        refine Wl.done ?_
        refine Ar.next ?_
        refine Wc.seq ?_
        refine Wc.seq ?_
        refine Wc.region rfl ?_
        refine Wl.q rfl (Qy.move rfl) ?_
        refine Wl.q rfl (Qy.notD rfl) ?_
        refine Wl.done ?_
        refine Ar.next ?_
        refine Wc.condP rfl (by first | assumption | omega) ?_
        refine Wc.seq ?_
        refine Wc.region rfl ?_
        refine Wl.q rfl (Qy.move rfl) ?_
        refine Wl.q rfl (Qy.move rfl) ?_
        refine Wl.q rfl (Qy.assign rfl) ?_
        refine Wl.q rfl (Qy.assign rfl) ?_
        refine Wl.q rfl (Qy.assign rfl) ?_
        refine Wl.done ?_
        refine Ar.next ?_
        refine Wc.ret ?_
        refine Ar.passRet ?_
        refine Ar.outRet ?_
        refine Ar.passRet ?_
        refine Ar.passRet ?_
        refine Ar.outRet ?_
        refine Ar.passRet ?_
        refine Ar.out3 (.inr rfl) (Ho := []) rfl (.tmp rfl) (.tmp rfl) (.tmp rfl) trivial ?_
        have hfn := runTo_stop hrun hd hic
        exact ⟨_, (i : Int), _, rfl, fun _ => ⟨Int.natCast_nonneg i, rfl⟩, fun os h => (by rw [hfn] at h; cases h), rfl⟩
      · obtain ⟨zs, hzs⟩ := Option.ne_none_iff_exists'.1 hd
        obtain ⟨s, rfl, hs⟩ := hrv zs hzs
        have hok : doI (p.code[((i : Nat) : Int).toNat]?.getD default) rs ≠ none := hd
        replace hc := hc.up hle1
        replace ho := ho.up hle1
        replace hg2 := hg2.up hle1
        refine Wl.q rfl (Qy.move rfl) ?_
        refine Wl.q rfl (Qy.extract rfl rfl) ?_
        refine Wl.q rfl (Qy.extract rfl rfl) ?_
        refine Wl.q rfl (Qy.assign rfl) ?_
        refine Wl.q rfl (Qy.assign rfl) ?_
        refine Wl.done ?_
        refine Ar.next ?_
        refine Wc.seq ?_
        refine Wc.seq ?_
        refine Wc.region rfl ?_
        refine Wl.q rfl (Qy.move rfl) ?_
        refine Wl.q rfl (Qy.notD rfl) ?_
        refine Wl.done ?_
        refine Ar.next ?_
        refine Wc.cond rfl (fun hc1 => ?_) (fun hc1 => ?_)
        refine Wc.seq ?_
        refine Wc.region rfl ?_
        refine Wl.q rfl (Qy.move rfl) ?_
        refine Wl.q rfl (Qy.move rfl) ?_
        refine Wl.q rfl (Qy.assign rfl) ?_
        refine Wl.q rfl (Qy.assign rfl) ?_
        refine Wl.q rfl (Qy.assign rfl) ?_
        refine Wl.done ?_
        refine Ar.next ?_
        refine Wc.ret ?_
        refine Ar.passRet ?_
        refine Ar.outRet ?_
        refine Ar.passRet ?_
        refine Ar.passRet ?_
        refine Ar.outRet ?_
        refine Ar.passRet ?_
        rotate_left
        refine Wc.skip ?_
        refine Ar.next ?_
        refine Wc.seq ?_
        refine Wc.region rfl ?_
        refine Wl.q rfl (Qy.move rfl) ?_
        refine Wl.q rfl (Qy.fieldAddr T.fa25_2 rfl) ?_
        refine Wl.q rfl (Qy.load 0 T.one22 rfl rfl rfl) ?_
        refine Wl.q rfl (Qy.move rfl) ?_
        refine Wl.q rfl (Qy.at (α := Sl.Instr) T.sl22 rfl rfl (by assumption) (by omega)) ?_
        refine Wl.q rfl (Qy.fieldAddr T.fa93_1 rfl) ?_
        refine Wl.q rfl (Qy.loadG T.one3 rfl (Arr.cell (by assumption) (by omega) 1 rfl rfl)) ?_
        refine Wl.q rfl (Qy.move rfl) ?_
        refine Wl.q rfl (Qy.indexAddrO (α := SV) T.sl69 rfl rfl (by assumption) (by omega)) ?_
        refine Wl.setO (z := _) 1 T.size74 rfl rfl rfl (by assumption) (by omega) rfl (fun ho1 => ?_)
        refine Wl.done ?_
        refine Ar.next ?_
        refine Wc.region rfl ?_
        refine Wl.q rfl (Qy.move rfl) ?_
        refine Wl.q rfl (Qy.move rfl) ?_
        refine Wl.lit (α := SV) 4 [⟨_, _, _⟩] rfl T.sl69 T.el74 rfl rfl rfl rfl rfl (fun b3 => ?_)
        refine Wl.append (α := SV) 3 rfl T.sl69 T.el74 rfl rfl rfl (by first | assumption | exact OwnA.nil | exact OwnA.made (by simp)) (Src.row 4 rfl) (by first | omega | (simp only [List.length_append, List.length_cons, List.length_nil, maxLen]; omega)) (by first | omega | (simp only [List.length_append, List.length_cons, List.length_nil, maxLen]; omega)) (fun a2 c2 junk2 ho2 => ?_)
        refine Wl.q rfl (Qy.assign rfl) ?_
        refine Wl.done ?_
        refine Ar.outNormal ?_
        refine Ar.next ?_
        refine Wc.region rfl ?_
        refine Wl.q rfl (Qy.move rfl) ?_
        refine Wl.q rfl (Qy.add rfl rfl (by omega)) ?_
        refine Wl.q rfl (Qy.assign rfl) ?_
        refine Wl.done ?_
        rotate_left
        · exact absurd hok hc1
        · refine Ar.re 7 rfl (show _ = Value.slice (some ⟨b2, 0, none⟩) (r2.set (p.code[((i : Nat) : Int).toNat]?.getD default).to.toNat s).length R by rw [List.length_set]) ?_
          refine Ar.again ((i + 1, G1, r2.set (p.code[((i : Nat) : Int).toNat]?.getD default).to.toNat s, rs.set (p.code[((i : Nat) : Int).toNat]?.getD default).to.toNat zs, st ++ [s], (a2, c2, junk2))) ?_ ?_ rfl ⟨rfl, rfl, rfl, rfl, trivial⟩ ⟨rfl, rfl, rfl, trivial⟩
          · have hx := doI_even (i := p.code[((i : Nat) : Int).toNat]?.getD default) he2 (by omega) (fun h => by have := m4 h; omega) (fun h => (m6 (by omega) (by omega) (by omega) (by omega)).2) hzs
            refine ⟨by omega, Imm.le_trans hgy hle1, by rw [List.length_set]; exact hr2, hg2.set _ hs, ?_, runTo_succ (x := []) hrun hzs, by assumption, by rw [List.length_append]; show st.length + 1 = i + 1; omega⟩
            rw [show 4 + 5 * (i + 1) = 5 + (4 + 5 * i) by omega]
            exact even_set (he2.mono (by omega)) hx _
          · show p.code.length - (i + 1) < p.code.length - i
            omega
    · have hie : i = p.code.length := by omega
      subst hie
      have hfo : followP p gs = some (outsOf p rs) := by unfold followP; rw [hrun]; rfl
      have hol : (outsOf p rs).length = p.outs.length := by unfold outsOf; rw [List.length_map]
      refine Wc.seq ?_
      refine Wc.seq ?_
      refine Wc.region rfl ?_
      refine Wl.q rfl (Qy.move rfl) ?_
      refine Wl.q rfl (Qy.fieldAddr T.fa25_2 rfl) ?_
      refine Wl.q rfl (Qy.load 0 T.one22 rfl rfl rfl) ?_
      refine Wl.q rfl (Qy.len T.sl22 rfl) ?_
      refine Wl.q rfl (Qy.lss rfl rfl) ?_
      refine Wl.done ?_
      refine Ar.next ?_
      refine Wc.condN rfl (by first | assumption | omega) ?_
      refine Wc.exit ?_
      refine Ar.passExit ?_
      refine Ar.passExit ?_
      refine Ar.here ?_
      refine Ar.next ?_
      refine Wc.seq ?_
      refine Wc.region rfl ?_
      refine Wl.q rfl (Qy.assign rfl) ?_
      refine Wl.done ?_
      refine Ar.next ?_
      refine Wc.seq ?_
      refine Wc.seq ?_
      refine Wc.region rfl ?_
      refine Wl.q rfl (Qy.assign rfl) ?_
      refine Wl.done ?_
      refine Ar.next ?_
      refine Wc.block ?_
      refine Wc.nilRow 4 (Row 74 ([] : List SV) []) ?_
      refine Wc.loop (ι := Nat × List SV × (Option Addr × Nat × List Value)) (fun (q, ol, (oo, od, oj)) => ([(14, .int .i64 (q : Int)), (13, .slice oo ol.length od), (9, Go.Value.slice o (List.length st) d), (7, Go.Value.slice (Option.some (Go.Addr.mk b2 0 Option.none)) (List.length r2) R), (2, Go.Value.pointer (Option.some (Go.Addr.mk b1 0 Option.none)))], [(4, oo.map (·.block), Row 74 ol oj), (3, Option.map (fun x => Go.Addr.block x) o, Go.Sl.Row (α := Go.Sl.SV) 74 (st) (j)), (1, Option.some b2, Go.Sl.Row (α := Go.Sl.SV) 74 (r2) ([])), (0, Option.some b1, Go.Obj.cells #[Go.Value.int Go.IntKind.i64 (Go.Proofs.YtbppmiimeccclaaGreat.PV.ins p), Go.Value.int Go.IntKind.i64 (Go.Proofs.YtbppmiimeccclaaGreat.PV.regs p), Go.Value.slice ac (List.length (Go.Proofs.YtbppmiimeccclaaGreat.PV.code p)) cc, Go.Value.slice ao (List.length (Go.Proofs.YtbppmiimeccclaaGreat.PV.outs p)) co] 25)])) (fun (q, ol, (oo, od, oj)) => q ≤ p.outs.length ∧ ol.length = q ∧ Grid Gy ol ((outsOf p rs).take q) ∧ OwnA oo od ol oj) (fun (q, ol, (oo, od, oj)) => p.outs.length - q) ((0, [], (none, 0, []))) (⟨Nat.zero_le _, rfl, by rw [List.take_zero]; exact Grid.nil _, OwnA.nil⟩) ⟨rfl, rfl, rfl, rfl, rfl, trivial⟩ ⟨rfl, rfl, rfl, rfl, trivial⟩ (fun ⟨q, ol, (oo, od, oj)⟩ => fun (hk : q ≤ p.outs.length ∧ ol.length = q ∧ Grid Gy ol ((outsOf p rs).take q) ∧ OwnA oo od ol oj) => ?_)
      obtain ⟨hq0, hql, hqg, hqo⟩ := hk
      rcases Nat.lt_or_ge q p.outs.length with hqc | hqc
      · have hmem : (p.outs[((q : Nat) : Int).toNat]?.getD default) ∈ p.outs := by
          rw [Int.toNat_natCast, List.getElem?_eq_getElem hqc]; exact List.getElem_mem hqc
        have hrr := f7 _ hmem
        have hrr2 : 0 ≤ (p.outs[((q : Nat) : Int).toNat]?.getD default) ∧ (p.outs[((q : Nat) : Int).toNat]?.getD default) < r2.length := by omega
        have hss := hg2.at hrr2
        refine Wc.seq ?_
        refine Wc.seq ?_
        refine Wc.region rfl ?_
        refine Wl.q rfl (Qy.move rfl) ?_
        refine Wl.q rfl (Qy.fieldAddr T.fa25_3 rfl) ?_
        refine Wl.q rfl (Qy.load 0 T.one23 rfl rfl rfl) ?_
        refine Wl.q rfl (Qy.len T.sl23 rfl) ?_
        refine Wl.q rfl (Qy.lss rfl rfl) ?_
        refine Wl.done ?_
        refine Ar.next ?_
        refine Wc.condP rfl (by first | assumption | omega) ?_
        refine Wc.skip ?_
        refine Ar.next ?_
        refine Wc.seq ?_
        refine Wc.block ?_
        refine Wc.region rfl ?_
        refine Wl.q rfl (Qy.move rfl) ?_
        refine Wl.q rfl (Qy.move rfl) ?_
        refine Wl.q rfl (Qy.fieldAddr T.fa25_3 rfl) ?_
        refine Wl.q rfl (Qy.load 0 T.one23 rfl rfl rfl) ?_
        refine Wl.q rfl (Qy.move rfl) ?_
        refine Wl.q rfl (Qy.at (α := Int) T.sl23 rfl rfl (by assumption) (by omega)) ?_
        refine Wl.q rfl (Qy.loadG T.one3 rfl (Arr.cell (by assumption) (by omega) 0 rfl rfl)) ?_
        refine Wl.q rfl (Qy.indexAddrO (α := SV) T.sl69 rfl rfl (by assumption) (by omega)) ?_
        refine Wl.q rfl (Qy.loadO 1 0 T.one74 rfl rfl (by assumption) (by omega) rfl rfl) ?_
        refine Wl.lit (α := SV) 5 [⟨_, _, _⟩] rfl T.sl69 T.el74 rfl rfl rfl rfl rfl (fun b3 => ?_)
        refine Wl.append (α := SV) 4 rfl T.sl69 T.el74 rfl rfl rfl (by first | assumption | exact OwnA.nil | exact OwnA.made (by simp)) (Src.row 5 rfl) (by first | omega | (simp only [List.length_append, List.length_cons, List.length_nil, maxLen]; omega)) (by first | omega | (simp only [List.length_append, List.length_cons, List.length_nil, maxLen]; omega)) (fun a1 c1 junk1 ho1 => ?_)
        refine Wl.q rfl (Qy.assign rfl) ?_
        refine Wl.done ?_
        refine Ar.outNormal ?_
        refine Ar.next ?_
        refine Wc.region rfl ?_
        refine Wl.q rfl (Qy.move rfl) ?_
        refine Wl.q rfl (Qy.add rfl rfl (by omega)) ?_
        refine Wl.q rfl (Qy.assign rfl) ?_
        refine Wl.done ?_
        refine Ar.again ((q + 1, ol ++ [r2[(p.outs[((q : Nat) : Int).toNat]?.getD default).toNat]?.getD default], (a1, c1, junk1))) ?_ ?_ rfl ⟨rfl, rfl, rfl, rfl, rfl, trivial⟩ ⟨rfl, rfl, rfl, rfl, trivial⟩
        · exact ⟨by omega, by rw [List.length_append]; show ol.length + 1 = q + 1; omega, by rw [outs_succ hqc]; exact hqg.snoc hss, by assumption⟩
        · show p.outs.length - (q + 1) < p.outs.length - q
          omega
      · refine Wc.seq ?_
        refine Wc.seq ?_
        refine Wc.region rfl ?_
        refine Wl.q rfl (Qy.move rfl) ?_
        refine Wl.q rfl (Qy.fieldAddr T.fa25_3 rfl) ?_
        refine Wl.q rfl (Qy.load 0 T.one23 rfl rfl rfl) ?_
        refine Wl.q rfl (Qy.len T.sl23 rfl) ?_
        refine Wl.q rfl (Qy.lss rfl rfl) ?_
        refine Wl.done ?_
        refine Ar.next ?_
        refine Wc.condN rfl (by first | assumption | omega) ?_
        refine Wc.exit ?_
        refine Ar.passExit ?_
        refine Ar.passExit ?_
        refine Ar.here ?_
        refine Ar.next ?_
        refine Wc.seq ?_
        refine Wc.region rfl ?_
        refine Wl.q rfl (Qy.move rfl) ?_
        refine Wl.q rfl (Qy.move rfl) ?_
        refine Wl.q rfl (Qy.assign rfl) ?_
        refine Wl.q rfl (Qy.assign rfl) ?_
        refine Wl.q rfl (Qy.assign rfl) ?_
        refine Wl.done ?_
        refine Ar.next ?_
        refine Wc.ret ?_
        rw [List.take_of_length_le (by omega)] at hqg
        refine Ar.freezeRow 4 rfl hqo (fun G9 hle9 hA => ?_)
        refine Ar.out3 (.inr rfl) (Ho := []) rfl (.tmp rfl) (.tmp rfl) (.tmp rfl) trivial ?_
        exact ⟨_, -1, _, rfl, fun h => (by rw [hfo] at h; cases h), fun os h => (by rw [hfo] at h; cases h; exact ⟨rfl, oo, od, ol, rfl, hA, hqg.up hle9⟩), rfl⟩
end Go.Proofs.YtbppmiimeccclaaGreat
set_option maxRecDepth 100000
set_option linter.unusedVariables false
namespace Go.Proofs.YtbppmiimeccclaaGreat
open Go Go.Sl
set_option maxHeartbeats 4000000
attribute [local irreducible] valB valL pb pw cmpZ lstWp p2 RightL powR
/-- few digits -/
def small (z : Int) : Prop := z.natAbs < 18446744073709551616
theorem Num.few {G : Imm} {x : IV} {z : Int} (h : Num G x z) (hz : small z) : x.n ≤ 4 := by
  obtain ⟨l, h1, _, _, h4⟩ := h
  rw [← h1]
  refine h4.len ?_
  have e : pw 4 = 18446744073709551616 := by unfold pw; decide
  unfold small at hz; omega
theorem small_pow {c : Int} {e : Nat} (hc : -16 ≤ c ∧ c ≤ 16) (he : e ≤ 15) : small (c ^ e) := by
  unfold small
  have e2 : (c ^ e).natAbs ≤ 16 ^ 15 := by
    rw [Int.natAbs_pow]
    exact Nat.le_trans (Nat.pow_le_pow_left (show c.natAbs ≤ 16 by omega) e) (Nat.pow_le_pow_right (by omega) he)
  have e3 : (16 : Nat) ^ 15 = 1152921504606846976 := by decide
  omega
theorem c135N (G : Imm) (x y : IV) (zx zy : Int) (hx : Num G x zx) (hy : Num G y zy) (bx : small zx) (bz : small zy) :
    Does Tryz.prog 135 [.agg #[.bool x.neg, .slice x.a x.n x.c], .agg #[.bool y.neg, .slice y.a y.n y.c]] G [] (fun v G' Ho => ∃ r : IV, v = .agg #[.bool r.neg, .slice r.a r.n r.c] ∧ Num G' r (zx * zy) ∧ Ho = []) := by
  have f1 := Num.few hx bx
  have f2 := Num.few hy bz
  obtain ⟨n1, a, k1, ca⟩ := x
  obtain ⟨n2, b, k2, cb⟩ := y
  obtain ⟨la, rfl, hla, hA, hx⟩ := hx
  obtain ⟨lb, rfl, hlb, hB, hy⟩ := hy
  exact c135 G n1 n2 a b ca cb la lb zx zy hA hB hx hy (Nat.le_trans f1 (by decide)) (Nat.le_trans f2 (by decide))
theorem c136 (G : Imm) (x : IV) (z : Int) (e : Nat) (hx : Num G x z) (hz : -16 ≤ z ∧ z ≤ 16) (he : e ≤ 15) :
    Does Tryz.prog 136 [.agg #[.bool x.neg, .slice x.a x.n x.c], .int .i64 e] G [] (fun v G' Ho => ∃ r : IV, v = .agg #[.bool r.neg, .slice r.a r.n r.c] ∧ Num G' r (z ^ e) ∧ Ho = []) := by
  refine Does.enter Tryz.func136 rfl Tryz.ntmps136 rfl (fun w => ?_)
  refine Wc.seq ?_
  refine Wc.region rfl ?_
  refine Wl.box 0 rfl rfl rfl (fun b1 => ?_)
  refine Wl.alloc 1 rfl T.zero78 (fun b2 => ?_)
  refine Wl.done ?_
  refine Ar.next ?_
  refine Wc.seq ?_
  refine Wc.region rfl ?_
  refine Wl.call 2 rfl T.fn37 rfl (c37 _ 1 (by decide)) (tags_of trivial) (fun v1 G1 Ho1 hle1 hp => ?_)
  obtain ⟨ro1, rfl, hro1, rfl⟩ := hp
  replace hx := hx.up hle1
  refine Wl.alloc 2 rfl T.zero78 (fun b3 => ?_)
  refine Wl.storeAll 2 T.size78 rfl rfl rfl rfl rfl rfl ?_
  refine Wl.done ?_
  refine Ar.next ?_
  refine Wc.seq ?_
  refine Wc.seq ?_
  refine Wc.region rfl ?_
  refine Wl.q rfl (Qy.assign rfl) ?_
  refine Wl.done ?_
  refine Ar.next ?_
  refine Wc.block ?_
  refine Wc.loopG (ι := Nat × Imm × IV) (fun (k, Gx, r) => ([(6, .int .i64 (k : Int)), (5, Go.Value.pointer (Option.some (Go.Addr.mk b3 0 Option.none))), (4, Go.Value.pointer (Option.some (Go.Addr.mk b2 0 Option.none))), (2, Go.Value.pointer (Option.some (Go.Addr.mk b1 0 Option.none))), (1, Go.Value.int Go.IntKind.i64 (↑e : Int))], [(2, some b3, .cells #[.bool r.neg, .slice r.a r.n r.c] 78), (1, Option.some b2, Go.Obj.cells #[Go.Value.bool Bool.false, Go.Value.slice Option.none 0 0] 78), (0, Option.some b1, Go.Obj.cells #[Go.Value.bool (Go.Sl.IV.neg x), Go.Value.slice (Go.Sl.IV.a x) (Go.Sl.IV.n x) (Go.Sl.IV.c x)] 78)])) (fun (k, Gx, r) => Gx) (fun (k, Gx, r) => k ≤ e ∧ G1.le Gx ∧ Num Gx r (z ^ k)) (fun (k, Gx, r) => e - k) ((0, G1, ro1)) (⟨Nat.zero_le _, Imm.le_refl _, by rw [Int.pow_zero]; exact hro1⟩) rfl ⟨rfl, rfl, rfl, rfl, rfl, trivial⟩ ⟨rfl, rfl, rfl, trivial⟩ (fun ⟨k, Gx, r⟩ => fun (hk : k ≤ e ∧ G1.le Gx ∧ Num Gx r (z ^ k)) => ?_)
  obtain ⟨hk1, hk2, hk3⟩ := hk
  rcases Nat.lt_or_ge k e with hke | hke
  · have hx' := hx.up hk2
    have s1 : small (z ^ k) := small_pow hz (by omega)
    have s2 : small z := by unfold small; omega
    refine Wc.seq ?_
    refine Wc.seq ?_
    refine Wc.region rfl ?_
    refine Wl.q rfl (Qy.move rfl) ?_
    refine Wl.q rfl (Qy.move rfl) ?_
    refine Wl.q rfl (Qy.lss rfl rfl) ?_
    refine Wl.done ?_
    refine Ar.next ?_
    refine Wc.condP rfl (by first | assumption | omega) ?_
    refine Wc.skip ?_
    refine Ar.next ?_
    refine Wc.seq ?_
    refine Wc.block ?_
    refine Wc.region rfl ?_
    refine Wl.q rfl (Qy.loadAll 2 T.agg78 rfl rfl rfl) ?_
    refine Wl.q rfl (Qy.loadAll 0 T.agg78 rfl rfl rfl) ?_
    refine Wl.call 3 rfl T.fn135 rfl (c135N _ r x (z ^ k) z (by assumption) (by assumption) s1 s2) (tags_of trivial) (fun v2 G2 Ho2 hle2 hp => ?_)
    obtain ⟨rt2, rfl, hrt2, rfl⟩ := hp
    replace hk3 := hk3.up hle2
    replace hx' := hx'.up hle2
    refine Wl.storeAll 2 T.size78 rfl rfl rfl rfl rfl rfl ?_
    refine Wl.done ?_
    refine Ar.outNormal ?_
    refine Ar.next ?_
    refine Wc.region rfl ?_
    refine Wl.q rfl (Qy.move rfl) ?_
    refine Wl.q rfl (Qy.add rfl rfl (by omega)) ?_
    refine Wl.q rfl (Qy.assign rfl) ?_
    refine Wl.done ?_
    refine Ar.re 6 rfl (show _ = Value.int .i64 ((k + 1 : Nat) : Int) from rfl) ?_
    refine Ar.again ((k + 1, _, rt2)) ?_ ?_ rfl ⟨rfl, rfl, rfl, rfl, rfl, trivial⟩ ⟨rfl, rfl, rfl, trivial⟩
    · exact ⟨by omega, Imm.le_trans hk2 (by assumption), by rw [Int.pow_succ]; exact hrt2⟩
    · show e - (k + 1) < e - k
      omega
  · have hke : k = e := by omega
    subst hke
    refine Wc.seq ?_
    refine Wc.seq ?_
    refine Wc.region rfl ?_
    refine Wl.q rfl (Qy.move rfl) ?_
    refine Wl.q rfl (Qy.move rfl) ?_
    refine Wl.q rfl (Qy.lss rfl rfl) ?_
    refine Wl.done ?_
    refine Ar.next ?_
    refine Wc.condN rfl (by first | assumption | omega) ?_
    refine Wc.exit ?_
    refine Ar.passExit ?_
    refine Ar.passExit ?_
    refine Ar.here ?_
    refine Ar.next ?_
    refine Wc.seq ?_
    refine Wc.region rfl ?_
    refine Wl.q rfl (Qy.loadAll 2 T.agg78 rfl rfl rfl) ?_
    refine Wl.storeAll 1 T.size78 rfl rfl rfl rfl rfl rfl ?_
    refine Wl.done ?_
    refine Ar.next ?_
    refine Wc.ret ?_
    refine Ar.out1 (.inr rfl) (Ho := Hp.only _ []) rfl (.agg 1 rfl rfl T.agg78) (Hp.sub_only _ _) ?_
    exact ⟨_, rfl, hk3, rfl⟩
theorem c136I (G : Imm) (x : IV) (z e : Int) (hx : Num G x z) (hz : -16 ≤ z ∧ z ≤ 16) (he : 0 ≤ e ∧ e ≤ 15) :
    Does Tryz.prog 136 [.agg #[.bool x.neg, .slice x.a x.n x.c], .int .i64 e] G [] (fun v G' Ho => ∃ r : IV, v = .agg #[.bool r.neg, .slice r.a r.n r.c] ∧ Num G' r (z ^ e.toNat) ∧ Ho = []) := by
  obtain ⟨k, rfl⟩ : ∃ k : Nat, e = (k : Int) := ⟨e.toNat, by omega⟩
  exact c136 G x z k hx hz (by omega)
theorem c81 (G : Imm) (a b : Int) (n : Nat) (hp : near a b) (hn : n ≤ 15) :
    Does Tryz.prog 81 [.agg #[.int .i64 a, .int .i64 b], .int .i64 n] G [] (fun v G' Ho => ∃ (s : Option Addr) (r : List IV) (c' : Nat), v = .slice s r.length c' ∧ Arr G' s r ∧ Nums G' r (powR a b n) ∧ r.length ≤ c' ∧ Ho = []) := by
  refine Does.enter Tryz.func81 rfl Tryz.ntmps81 rfl (fun w => ?_)
  refine Wc.nilRow 9 (Row 78 ([] : List IV) []) ?_
  refine Wc.seq ?_
  refine Wc.region rfl ?_
  refine Wl.box 10 rfl rfl rfl (fun b1 => ?_)
  refine Wl.q rfl (Qy.assign rfl) ?_
  refine Wl.done ?_
  refine Ar.next ?_
  refine Wc.seq ?_
  refine Wc.region rfl ?_
  refine Wl.q rfl (Qy.assign rfl) ?_
  refine Wl.done ?_
  refine Ar.next ?_
  refine Wc.seq ?_
  refine Wc.seq ?_
  refine Wc.region rfl ?_
  refine Wl.q rfl (Qy.assign rfl) ?_
  refine Wl.done ?_
  refine Ar.next ?_
  refine Wc.block ?_
  refine Wc.loopG (ι := Nat × Imm × List IV × (Option Addr × Nat × List Value)) (fun (k, Gx, r, (o, d, j)) => ([(6, .int .i64 (k : Int)), (5, .slice o r.length d), (4, Go.Value.slice Option.none 0 0), (2, Go.Value.pointer (Option.some (Go.Addr.mk b1 0 Option.none))), (1, Go.Value.int Go.IntKind.i64 (↑n : Int))], [(9, o.map (·.block), Row 78 r j), (10, Option.some b1, Go.Obj.cells #[Go.Value.int Go.IntKind.i64 a, Go.Value.int Go.IntKind.i64 b] 59)])) (fun (k, Gx, r, (o, d, j)) => Gx) (fun (k, Gx, r, (o, d, j)) => k ≤ n ∧ G.le Gx ∧ r.length = k ∧ Nums Gx r ((powR a b n).take k) ∧ OwnA o d r j) (fun (k, Gx, r, (o, d, j)) => n - k) ((0, G, [], (none, 0, []))) (⟨Nat.zero_le _, Imm.le_refl _, rfl, by rw [List.take_zero]; exact Nums.nil _, OwnA.nil⟩) rfl ⟨rfl, rfl, rfl, rfl, rfl, trivial⟩ ⟨rfl, rfl, trivial⟩ (fun ⟨k, Gx, r, (o, d, j)⟩ => fun (hk : k ≤ n ∧ G.le Gx ∧ r.length = k ∧ Nums Gx r ((powR a b n).take k) ∧ OwnA o d r j) => ?_)
  obtain ⟨hk1, hk2, hk3, hk4, hk5⟩ := hk
  rcases Nat.lt_or_ge k n with hke | hke
  · have s1 : small (a ^ (k : Int).toNat) := small_pow (by unfold near at hp; omega) (by omega)
    have s2 : small (b ^ ((n : Int) - 1 - (k : Int)).toNat) := small_pow (by unfold near at hp; omega) (by omega)
    refine Wc.seq ?_
    refine Wc.seq ?_
    refine Wc.region rfl ?_
    refine Wl.q rfl (Qy.move rfl) ?_
    refine Wl.q rfl (Qy.move rfl) ?_
    refine Wl.q rfl (Qy.lss rfl rfl) ?_
    refine Wl.done ?_
    refine Ar.next ?_
    refine Wc.condP rfl (by first | assumption | omega) ?_
    refine Wc.skip ?_
    refine Ar.next ?_
    refine Wc.seq ?_
    refine Wc.block ?_
    refine Wc.draw [10, 9] [(9, 16)] T.mixed rfl ?_
    refine Gm.q 0 [] (by kernel_rfl) rfl rfl (Qy.move rfl) ?_
    refine Gm.q 1 [] (by kernel_rfl) rfl rfl (Qy.fieldAddr T.fa59_0 rfl) ?_
    refine Gm.q 2 [10] (by kernel_rfl) rfl rfl (Qy.load 10 T.one3 rfl rfl rfl) ?_
    refine Gm.q 4 [] (by kernel_rfl) rfl rfl (Qy.move rfl) ?_
    refine Gm.q 6 [] (by kernel_rfl) rfl rfl (Qy.fieldAddr T.fa59_1 rfl) ?_
    refine Gm.q 7 [10] (by kernel_rfl) rfl rfl (Qy.load 10 T.one3 rfl rfl rfl) ?_
    refine Gm.q 9 [] (by kernel_rfl) rfl rfl (Qy.move rfl) ?_
    refine Gm.q 10 [] (by kernel_rfl) rfl rfl (Qy.sub rfl rfl (by omega)) ?_
    refine Gm.q 11 [] (by kernel_rfl) rfl rfl (Qy.move rfl) ?_
    refine Gm.q 12 [] (by kernel_rfl) rfl rfl (Qy.sub rfl rfl (by omega)) ?_
    refine Gm.one 3 ⟨rfl, rfl, trivial⟩ (by first | exact Imm.le_refl _ | repeat (first | assumption | refine Imm.le_trans ?_ (by assumption))) (by kernel_rfl) rfl ?_
    refine Wl.call 11 rfl T.fn37 rfl (c37 _ _ (by unfold near at hp; omega)) (tags_of trivial) (fun v1 G1 Ho1 hle1 hp => ?_)
    obtain ⟨ro1, rfl, hro1, rfl⟩ := hp
    replace hk4 := hk4.up hle1
    refine Wl.on0 ?_
    refine Gm.one 5 ⟨rfl, rfl, trivial⟩ (by first | exact Imm.le_refl _ | repeat (first | assumption | refine Imm.le_trans ?_ (by assumption))) (by kernel_rfl) rfl ?_
    refine Wl.call 11 rfl T.fn136 rfl (c136I _ _ _ _ (by assumption) (by unfold near at hp; omega) (by omega)) (tags_of trivial) (fun v2 G2 Ho2 hle2 hp => ?_)
    obtain ⟨rp2, rfl, hrp2, rfl⟩ := hp
    replace hro1 := hro1.up hle2
    replace hk4 := hk4.up hle2
    refine Wl.on0 ?_
    refine Gm.one 8 ⟨rfl, rfl, trivial⟩ (by first | exact Imm.le_refl _ | repeat (first | assumption | refine Imm.le_trans ?_ (by assumption))) (by kernel_rfl) rfl ?_
    refine Wl.call 11 rfl T.fn37 rfl (c37 _ _ (by unfold near at hp; omega)) (tags_of trivial) (fun v3 G3 Ho3 hle3 hp => ?_)
    obtain ⟨ro3, rfl, hro3, rfl⟩ := hp
    replace hrp2 := hrp2.up hle3
    replace hro1 := hro1.up hle3
    replace hk4 := hk4.up hle3
    refine Wl.on0 ?_
    refine Gm.one 13 ⟨rfl, rfl, trivial⟩ (by first | exact Imm.le_refl _ | repeat (first | assumption | refine Imm.le_trans ?_ (by assumption))) (by kernel_rfl) rfl ?_
    refine Wl.call 11 rfl T.fn136 rfl (c136I _ _ _ _ (by assumption) (by unfold near at hp; omega) (by omega)) (tags_of trivial) (fun v4 G4 Ho4 hle4 hp => ?_)
    obtain ⟨rp4, rfl, hrp4, rfl⟩ := hp
    replace hro3 := hro3.up hle4
    replace hrp2 := hrp2.up hle4
    replace hro1 := hro1.up hle4
    replace hk4 := hk4.up hle4
    refine Wl.on0 ?_
    refine Gm.one 14 ⟨rfl, rfl, trivial⟩ (by first | exact Imm.le_refl _ | repeat (first | assumption | refine Imm.le_trans ?_ (by assumption))) (by kernel_rfl) rfl ?_
    refine Wl.call 11 rfl T.fn135 rfl (c135N _ _ _ _ _ hrp2 hrp4 s1 s2) (tags_of trivial) (fun v5 G5 Ho5 hle5 hp => ?_)
    obtain ⟨rt5, rfl, hrt5, rfl⟩ := hp
    replace hrp4 := hrp4.up hle5
    replace hro3 := hro3.up hle5
    replace hrp2 := hrp2.up hle5
    replace hro1 := hro1.up hle5
    replace hk4 := hk4.up hle5
    refine Wl.on0 ?_
    refine Gm.one 15 ⟨rfl, rfl, trivial⟩ (by first | exact Imm.le_refl _ | repeat (first | assumption | refine Imm.le_trans ?_ (by assumption))) (by kernel_rfl) rfl ?_
    refine Wl.lit (α := IV) 11 [⟨_, _, _, _⟩] rfl T.sl73 T.el78 rfl rfl rfl rfl rfl (fun b2 => ?_)
    refine Wl.on0 ?_
    refine Gm.one 16 ⟨rfl, rfl, trivial⟩ (by first | exact Imm.le_refl _ | repeat (first | assumption | refine Imm.le_trans ?_ (by assumption))) (by kernel_rfl) rfl ?_
    refine Wl.append (α := IV) 9 rfl T.sl73 T.el78 rfl rfl rfl (by first | assumption | exact OwnA.nil | exact OwnA.made (by simp)) (Src.row 11 rfl) (by first | omega | (simp only [List.length_append, List.length_cons, List.length_nil, maxLen]; omega)) (by first | omega | (simp only [List.length_append, List.length_cons, List.length_nil, maxLen]; omega)) (fun a1 c1 junk1 ho1 => ?_)
    refine Wl.on0 ?_
    refine Gm.q 17 [] (by kernel_rfl) rfl rfl (Qy.assign rfl) ?_
    refine Gm.doneA (by kernel_rfl) ⟨rfl, trivial⟩ (by first | exact Imm.le_refl _ | repeat (first | assumption | refine Imm.le_trans ?_ (by assumption))) ?_
    refine Ar.outNormal ?_
    refine Ar.next ?_
    refine Wc.region rfl ?_
    refine Wl.q rfl (Qy.move rfl) ?_
    refine Wl.q rfl (Qy.add rfl rfl (by omega)) ?_
    refine Wl.q rfl (Qy.assign rfl) ?_
    refine Wl.done ?_
    refine Ar.re 6 rfl (show _ = Value.int .i64 ((k + 1 : Nat) : Int) from rfl) ?_
    refine Ar.again ((k + 1, _, r ++ [rt5], (a1, c1, junk1))) ?_ ?_ rfl ⟨rfl, rfl, rfl, rfl, rfl, trivial⟩ ⟨rfl, rfl, trivial⟩
    · refine ⟨by omega, Imm.le_trans hk2 (by repeat (first | assumption | refine Imm.le_trans ?_ (by assumption))), by rw [List.length_append, hk3]; rfl, ?_, ho1⟩
      have e : (powR a b n).take (k + 1) = (powR a b n).take k ++ [a ^ (k : Int).toNat * b ^ ((n : Int) - 1 - (k : Int)).toNat] := by
        rw [List.take_add_one]
        congr 1
        unfold powR
        rw [List.getElem?_map, List.getElem?_range hke, Int.toNat_natCast, show ((n : Int) - 1 - (k : Int)).toNat = n - 1 - k by omega]; rfl
      rw [e]
      exact hk4.snoc hrt5
    · show n - (k + 1) < n - k
      omega
  · have hie : k = n := by omega
    subst hie
    have e : (powR a b k).take k = powR a b k := List.take_of_length_le (by unfold powR; simp)
    rw [e] at hk4
    refine Wc.seq ?_
    refine Wc.seq ?_
    refine Wc.region rfl ?_
    refine Wl.q rfl (Qy.move rfl) ?_
    refine Wl.q rfl (Qy.move rfl) ?_
    refine Wl.q rfl (Qy.lss rfl rfl) ?_
    refine Wl.done ?_
    refine Ar.next ?_
    refine Wc.condN rfl (by first | assumption | omega) ?_
    refine Wc.exit ?_
    refine Ar.passExit ?_
    refine Ar.passExit ?_
    refine Ar.here ?_
    refine Ar.next ?_
    refine Wc.seq ?_
    refine Wc.region rfl ?_
    refine Wl.q rfl (Qy.move rfl) ?_
    refine Wl.q rfl (Qy.assign rfl) ?_
    refine Wl.done ?_
    refine Ar.next ?_
    refine Wc.ret ?_
    refine Ar.freezeRow 9 rfl hk5 (fun G8 hle8 hA8 => ?_)
    refine Ar.out1 (.inr rfl) (Ho := []) rfl (.tmp rfl) trivial ?_
    exact ⟨_, _, _, rfl, hA8, hk4.up hle8, hk5.le, rfl⟩
end Go.Proofs.YtbppmiimeccclaaGreat
set_option maxRecDepth 100000
set_option linter.unusedVariables false
namespace Go.Proofs.YtbppmiimeccclaaGreat
open Go Go.Sl
set_option maxHeartbeats 4000000
attribute [local irreducible] valB valL pb pw cmpZ lstWp p2 RightL powR
/-- a row of the reference's numbers, by its slice -/
def NRow (G : Imm) (s : SV) (zs : List Int) : Prop := ∃ l : List IV, l.length = s.n ∧ s.n ≤ s.c ∧ Arr G s.a l ∧ Nums G l zs
theorem NRow.up {G G' : Imm} {s : SV} {zs : List Int} (h : NRow G s zs) (hl : G.le G') : NRow G' s zs := by
  obtain ⟨l, h1, h2, h3, h4⟩ := h
  exact ⟨l, h1, h2, h3.up hl, h4.up hl⟩
def NGrid (G : Imm) (l : List SV) (rs : List (List Int)) : Prop := l.length = rs.length ∧ ∀ i : Nat, i < l.length → NRow G (l[i]?.getD default) (rs[i]?.getD [])
theorem NGrid.up {G G' : Imm} {l : List SV} {rs : List (List Int)} (h : NGrid G l rs) (hl : G.le G') : NGrid G' l rs := ⟨h.1, fun i hi => (h.2 i hi).up hl⟩
theorem NGrid.nil (G : Imm) : NGrid G [] [] := ⟨rfl, fun i hi => by simp at hi⟩
theorem NGrid.snoc {G : Imm} {l : List SV} {rs : List (List Int)} (h : NGrid G l rs) {s : SV} {zs : List Int} (hs : NRow G s zs) : NGrid G (l ++ [s]) (rs ++ [zs]) := by
  refine ⟨by rw [List.length_append, List.length_append, h.1]; rfl, fun i hi => ?_⟩
  rw [List.length_append, List.length_singleton] at hi
  rcases Nat.lt_or_ge i l.length with h1 | h1
  · rw [List.getElem?_append_left h1, List.getElem?_append_left (by rw [← h.1]; exact h1)]; exact h.2 i h1
  · have : i = l.length := by omega
    subst this
    rw [List.getElem?_append_right (Nat.le_refl _), List.getElem?_append_right (by rw [h.1]; exact Nat.le_refl _), Nat.sub_self, h.1, Nat.sub_self]
    exact hs
theorem c35 (G : Imm) (a : Option Addr) (c : Nat) (l : List R2) (ha : Arr G a l) (h1 : l.length ≤ 1048576) (hc : l.length ≤ c) (hr1 : l.length ≤ 15) (hr2 : ∀ i, i < l.length → okP (l[i]?.getD default)) :
    Does Tryz.prog 35 [.slice a l.length c] G [] (fun v G' Ho => ∃ (s : Option Addr) (r : List SV) (c' : Nat), v = .slice s r.length c' ∧ Arr G' s r ∧ NGrid G' r (gridR l) ∧ r.length ≤ c' ∧ Ho = []) := by
  refine Does.enter Tryz.func35 rfl Tryz.ntmps35 rfl (fun w => ?_)
  refine Wc.nilRow 9 (Row 74 ([] : List SV) []) ?_
  refine Wc.seq ?_
  refine Wc.region rfl ?_
  refine Wl.q rfl (Qy.assign rfl) ?_
  refine Wl.done ?_
  refine Ar.next ?_
  refine Wc.seq ?_
  refine Wc.region rfl ?_
  refine Wl.q rfl (Qy.assign rfl) ?_
  refine Wl.done ?_
  refine Ar.next ?_
  refine Wc.seq ?_
  refine Wc.seq ?_
  refine Wc.region rfl ?_
  refine Wl.q rfl (Qy.assign rfl) ?_
  refine Wl.done ?_
  refine Ar.next ?_
  refine Wc.block ?_
  refine Wc.loopG (ι := Nat × Imm × List SV × (Option Addr × Nat × List Value)) (fun (i, Gx, r, (o, d, j)) => ([(4, .int .i64 (i : Int)), (3, .slice o r.length d), (2, Go.Value.slice Option.none 0 0), (0, Go.Value.slice a (List.length l) c)], [(9, o.map (·.block), Row 74 r j)])) (fun (i, Gx, r, (o, d, j)) => Gx) (fun (i, Gx, r, (o, d, j)) => i ≤ l.length ∧ G.le Gx ∧ r.length = i ∧ NGrid Gx r ((gridR l).take i) ∧ OwnA o d r j) (fun (i, Gx, r, (o, d, j)) => l.length - i) ((0, G, [], (none, 0, []))) (⟨Nat.zero_le _, Imm.le_refl _, rfl, by rw [List.take_zero]; exact NGrid.nil _, OwnA.nil⟩) rfl ⟨rfl, rfl, rfl, rfl, trivial⟩ ⟨rfl, trivial⟩ (fun ⟨i, Gx, r, (o, d, j)⟩ => fun (hk : i ≤ l.length ∧ G.le Gx ∧ r.length = i ∧ NGrid Gx r ((gridR l).take i) ∧ OwnA o d r j) => ?_)
  obtain ⟨hi1, hi2, hi3, hi4, hi5⟩ := hk
  replace ha := ha.up hi2
  rcases Nat.lt_or_ge i l.length with hil | hil
  · have hnear : near (l[((i : Nat) : Int).toNat]?.getD default).a (l[((i : Nat) : Int).toNat]?.getD default).b := (hr2 i hil).1
    refine Wc.seq ?_
    refine Wc.seq ?_
    refine Wc.region rfl ?_
    refine Wl.q rfl (Qy.move rfl) ?_
    refine Wl.q rfl (Qy.move rfl) ?_
    refine Wl.q rfl (Qy.len T.sl26 rfl) ?_
    refine Wl.q rfl (Qy.lss rfl rfl) ?_
    refine Wl.done ?_
    refine Ar.next ?_
    refine Wc.condP rfl (by first | assumption | omega) ?_
    refine Wc.skip ?_
    refine Ar.next ?_
    refine Wc.seq ?_
    refine Wc.block ?_
    refine Wc.region rfl ?_
    refine Wl.q rfl (Qy.move rfl) ?_
    refine Wl.q rfl (Qy.move rfl) ?_
    refine Wl.q rfl (Qy.move rfl) ?_
    refine Wl.q rfl (Qy.at (α := R2) T.sl26 rfl rfl (by assumption) (by omega)) ?_
    refine Wl.q rfl (Qy.loadsG T.agg59 rfl (Arr.elem (by assumption) (by omega)) rfl) ?_
    refine Wl.q rfl (Qy.move rfl) ?_
    refine Wl.q rfl (Qy.len T.sl26 rfl) ?_
    refine Wl.call 10 rfl T.fn81 rfl (c81 _ _ _ l.length hnear (by omega)) (tags_of trivial) (fun v1 G1 Ho1 hle1 hp => ?_)
    obtain ⟨ps1, pr1, pc1, rfl, hpA1, hpB1, hpL1, rfl⟩ := hp
    replace ha := ha.up hle1
    refine Wl.lit (α := SV) 10 [⟨_, _, _⟩] rfl T.sl69 T.el74 rfl rfl rfl rfl rfl (fun b1 => ?_)
    refine Wl.append (α := SV) 9 rfl T.sl69 T.el74 rfl rfl rfl (by first | assumption | exact OwnA.nil | exact OwnA.made (by simp)) (Src.row 10 rfl) (by first | omega | (simp only [List.length_append, List.length_cons, List.length_nil, maxLen]; omega)) (by first | omega | (simp only [List.length_append, List.length_cons, List.length_nil, maxLen]; omega)) (fun a1 c1 junk1 ho1 => ?_)
    refine Wl.q rfl (Qy.assign rfl) ?_
    refine Wl.done ?_
    refine Ar.outNormal ?_
    refine Ar.next ?_
    refine Wc.region rfl ?_
    refine Wl.q rfl (Qy.move rfl) ?_
    refine Wl.q rfl (Qy.add rfl rfl (by omega)) ?_
    refine Wl.q rfl (Qy.assign rfl) ?_
    refine Wl.done ?_
    refine Ar.re 4 rfl (show _ = Value.int .i64 ((i + 1 : Nat) : Int) from rfl) ?_
    refine Ar.again ((i + 1, _, r ++ [⟨ps1, pr1.length, pc1⟩], (a1, c1, junk1))) ?_ ?_ rfl ⟨rfl, rfl, rfl, rfl, trivial⟩ ⟨rfl, trivial⟩
    · refine ⟨by omega, Imm.le_trans hi2 (by assumption), by rw [List.length_append, hi3]; rfl, ?_, ho1⟩
      have e : (gridR l).take (i + 1) = (gridR l).take i ++ [powR (l[((i : Nat) : Int).toNat]?.getD default).a (l[((i : Nat) : Int).toNat]?.getD default).b l.length] := by
        rw [List.take_add_one]
        congr 1
        unfold gridR
        rw [List.getElem?_map, Int.toNat_natCast, List.getElem?_eq_getElem hil]; rfl
      rw [e]
      exact NGrid.snoc (by first | assumption | exact hi4.up (by assumption)) ⟨pr1, rfl, hpL1, hpA1, hpB1⟩
    · show l.length - (i + 1) < l.length - i
      omega
  · have hie : i = l.length := by omega
    subst hie
    have e : (gridR l).take l.length = gridR l := List.take_of_length_le (by unfold gridR; rw [List.length_map]; exact Nat.le_refl _)
    rw [e] at hi4
    refine Wc.seq ?_
    refine Wc.seq ?_
    refine Wc.region rfl ?_
    refine Wl.q rfl (Qy.move rfl) ?_
    refine Wl.q rfl (Qy.move rfl) ?_
    refine Wl.q rfl (Qy.len T.sl26 rfl) ?_
    refine Wl.q rfl (Qy.lss rfl rfl) ?_
    refine Wl.done ?_
    refine Ar.next ?_
    refine Wc.condN rfl (by first | assumption | omega) ?_
    refine Wc.exit ?_
    refine Ar.passExit ?_
    refine Ar.passExit ?_
    refine Ar.here ?_
    refine Ar.next ?_
    refine Wc.seq ?_
    refine Wc.region rfl ?_
    refine Wl.q rfl (Qy.move rfl) ?_
    refine Wl.q rfl (Qy.assign rfl) ?_
    refine Wl.done ?_
    refine Ar.next ?_
    refine Wc.ret ?_
    refine Ar.freezeRow 9 rfl hi5 (fun G8 hle8 hA8 => ?_)
    refine Ar.out1 (.inr rfl) (Ho := []) rfl (.tmp rfl) trivial ?_
    exact ⟨_, _, _, rfl, hA8, hi4.up hle8, hi5.le, rfl⟩
end Go.Proofs.YtbppmiimeccclaaGreat
set_option maxRecDepth 100000
set_option linter.unusedVariables false
namespace Go.Proofs.YtbppmiimeccclaaGreat
open Go Go.Sl
set_option maxHeartbeats 4000000
theorem follow_none (G : Imm) (p : PV) (ac ao ga : Option Addr) (cc co gc : Nat) (gl : List SV) (gs : List (List Int)) (N : Nat) (hc : Arr G ac p.code) (ho : Arr G ao p.outs) (hga : Arr G ga gl) (hgg : Grid G gl gs) (hev : Even 4 N gs) (hN : N ≤ 1048576) (hR : rightP p = true) (hgi : (gl.length : Int) = p.ins) (hcl : p.code.length ≤ 16384) (hf : followP p gs = none) :
    Does Tryz.prog 34 [.agg #[.int .i64 p.ins, .int .i64 p.regs, .slice ac p.code.length cc, .slice ao p.outs.length co], .slice ga gl.length gc] G [] (fun v G' Ho => ∃ sv bad, v = .tuple #[sv, .int .i64 bad, .slice none 0 0] ∧ 0 ≤ bad ∧ Ho = []) := by
  refine (c34 G p ac ao ga cc co gc gl gs N hc ho hga hgg hev hN hR hgi hcl).mono fun v G' Ho _ ⟨sv, bad, ov, e, h1, h2, h3⟩ => ?_
  obtain ⟨e1, e2⟩ := h1 hf
  subst e2
  exact ⟨sv, bad, e, e1, h3⟩
theorem follow_some (G : Imm) (p : PV) (ac ao ga : Option Addr) (cc co gc : Nat) (gl : List SV) (gs : List (List Int)) (N : Nat) (hc : Arr G ac p.code) (ho : Arr G ao p.outs) (hga : Arr G ga gl) (hgg : Grid G gl gs) (hev : Even 4 N gs) (hN : N ≤ 1048576) (hR : rightP p = true) (hgi : (gl.length : Int) = p.ins) (hcl : p.code.length ≤ 16384) (os : List (List Int)) (hf : followP p gs = some os) :
    Does Tryz.prog 34 [.agg #[.int .i64 p.ins, .int .i64 p.regs, .slice ac p.code.length cc, .slice ao p.outs.length co], .slice ga gl.length gc] G [] (fun v G' Ho => ∃ sv oa oc ol, v = .tuple #[sv, .int .i64 (-1), .slice oa ol.length oc] ∧ Arr G' oa ol ∧ Grid G' ol os ∧ Ho = []) := by
  refine (c34 G p ac ao ga cc co gc gl gs N hc ho hga hgg hev hN hR hgi hcl).mono fun v G' Ho _ ⟨sv, bad, ov, e, h1, h2, h3⟩ => ?_
  obtain ⟨e1, oa, oc, ol, e2, e3, e4⟩ := h2 os hf
  subst e1 e2
  exact ⟨sv, oa, oc, ol, e, e3, e4, h3⟩
theorem follow_len {p : PV} {gs os : List (List Int)} (h : followP p gs = some os) : os.length = p.outs.length := by
  unfold followP at h
  obtain ⟨rs, h1, h2⟩ := Option.map_eq_some_iff.1 h
  subst h2
  unfold outsOf; rw [List.length_map]
theorem row_same (G : Imm) (s t : SV) (xs ys : List Int) (hs : RowS G s xs) (ht : RowS G t ys) (m : Nat) (hm : m ≤ 1073741824) (bx : Go.Sl.Below m xs) (by' : Go.Sl.Below m ys) (h1 : s.n ≤ 1048576) (h2 : t.n ≤ 1048576) :
    Does Tryz.prog 38 [.slice s.a s.n s.c, .slice t.a t.n t.c] G [] (fun v G' Ho => v = .bool (decide (xs = ys)) ∧ G' = G ∧ Ho = []) := by
  obtain ⟨sa, sn, sc⟩ := s
  obtain ⟨ta, tn, tc⟩ := t
  obtain ⟨l, hl, hc, hA, hN⟩ := hs
  obtain ⟨l', hl', hc', hA', hN'⟩ := ht
  simp only at hl hc hA h1 hl' hc' hA' h2
  subst hl hl'
  exact c38 G sa ta sc tc l l' xs ys hA hA' hN hN' m hm bx by' (by omega) (by omega)
theorem run_even {p : PV} {gs : List (List Int)} {N : Nat} (hR : rightP p = true) (hev : Even 4 N gs) (h0 : 0 < gs.length) : ∀ (k : Nat) (rs : List (List Int)), k ≤ p.code.length → runTo p gs k = some rs → Even (4 + 5 * k) N rs ∧ rs.length = p.regs.toNat
  | 0, rs, _, h => by
    cases h
    exact ⟨even_regs0 hev h0, regs0_len p gs⟩
  | k + 1, rs, hk, h => by
    obtain ⟨f1, f2, f3, f4, f5, f6, f7, f8⟩ := right_facts hR
    unfold runTo at h
    obtain ⟨rs0, h1, h2⟩ := Option.bind_eq_some_iff.1 h
    obtain ⟨y, h3, h4⟩ := Option.map_eq_some_iff.1 h2
    obtain ⟨he, hl⟩ := run_even hR hev h0 k rs0 (by omega) h1
    subst h4
    have hmem : (p.code[((k : Nat) : Int).toNat]?.getD default) ∈ p.code := by
      rw [Int.toNat_natCast, List.getElem?_eq_getElem (by omega)]; exact List.getElem_mem _
    obtain ⟨m1, m2, m3, m4, m5, m6, m7, m8⟩ := may_facts (f8 _ hmem)
    have hx := doI_even (i := p.code[((k : Nat) : Int).toNat]?.getD default) he (by omega) (fun h => by have := m4 h; omega) (fun h => (m6 (by omega) (by omega) (by omega) (by omega)).2) h3
    refine ⟨?_, by rw [List.length_set]; exact hl⟩
    rw [show 4 + 5 * (k + 1) = 5 + (4 + 5 * k) by omega]
    exact even_set (he.mono (by omega)) hx _
theorem follow_even {p : PV} {gs os : List (List Int)} {N : Nat} (hR : rightP p = true) (hev : Even 4 N gs) (h0 : 0 < gs.length) (h : followP p gs = some os) : Even (4 + 5 * p.code.length) N os := by
  obtain ⟨f1, f2, f3, f4, f5, f6, f7, f8⟩ := right_facts hR
  unfold followP at h
  obtain ⟨rs, h1, h2⟩ := Option.map_eq_some_iff.1 h
  obtain ⟨he, hl⟩ := run_even hR hev h0 _ rs (Nat.le_refl _) h1
  subst h2
  intro zs hz
  unfold outsOf at hz
  obtain ⟨r, hr, rfl⟩ := List.mem_map.1 hz
  exact he.at (k := r) (by have := f7 r hr; omega)
theorem ngrid_grid {G : Imm} {l : List SV} {rs : List (List Int)} (h : NGrid G l rs) : Grid G l rs := ⟨h.1, h.2⟩
theorem gridR_lenN (l : List R2) : (gridR l).length = l.length := by unfold gridR; rw [List.length_map]
theorem powR_even {a b : Int} {n : Nat} (h : near a b) (hn : n ≤ 15) : (powR a b n).length = n ∧ Go.Sl.Below 4 (powR a b n) := by
  refine ⟨by unfold powR; rw [List.length_map, List.length_range], fun z hz => ?_⟩
  unfold powR at hz
  obtain ⟨k, hk, rfl⟩ := List.mem_map.1 hz
  have hk := List.mem_range.1 hk
  have e4 : pw 4 = 18446744073709551616 := by unfold pw; decide
  have e : (a ^ k * b ^ (n - 1 - k)).natAbs ≤ 16 ^ 15 := by
    rw [Int.natAbs_mul, Int.natAbs_pow, Int.natAbs_pow]
    refine Nat.le_trans (Nat.mul_le_mul (Nat.pow_le_pow_left (show a.natAbs ≤ 16 by unfold near at h; omega) k) (Nat.pow_le_pow_left (show b.natAbs ≤ 16 by unfold near at h; omega) _)) ?_
    rw [← Nat.pow_add]
    exact Nat.pow_le_pow_right (by omega) (by omega)
  have e3 : (16 : Nat) ^ 15 = 1152921504606846976 := by decide
  omega
theorem gridR_even {l : List R2} (h1 : l.length ≤ 15) (hr : ∀ i, i < l.length → near (l[i]?.getD default).a (l[i]?.getD default).b) : Even 4 l.length (gridR l) := fun zs hz => by
  unfold gridR at hz
  obtain ⟨p, hp, rfl⟩ := List.mem_map.1 hz
  obtain ⟨i, hi, rfl⟩ := List.mem_iff_getElem.1 hp
  have := hr i hi
  rw [List.getElem?_eq_getElem hi] at this
  have this : near l[i].a l[i].b := this
  exact powR_even this h1
/-- the row with a one at j -/
def unitR (n j : Nat) : List Int := (List.replicate n 0).set j 1
theorem unit_nums {G : Imm} {n j : Nat} {x : IV} (hx : Num G x 1) (hj : j < n) : Nums G ((List.replicate n (default : IV)).set j x) (unitR n j) := by
  unfold unitR
  refine ⟨by rw [List.length_set, List.length_set, List.length_replicate, List.length_replicate], fun i hi => ?_⟩
  rw [List.length_set, List.length_replicate] at hi
  rw [List.getElem?_set, List.getElem?_set]
  by_cases h : j = i
  · subst h
    rw [if_pos rfl, if_pos rfl, if_pos (by rw [List.length_replicate]; exact hj), if_pos (by rw [List.length_replicate]; exact hj)]
    exact hx
  · rw [if_neg h, if_neg h, List.getElem?_replicate, List.getElem?_replicate, if_pos hi, if_pos hi]
    exact Num.zero G
theorem unit_below (n j m : Nat) (hm : 1 ≤ m) : Go.Sl.Below m (unitR n j) := by
  have h1 : pw 1 = 65536 := by unfold pw; decide
  refine Go.Sl.Below.mono (m := 1) (fun z hz => ?_) hm
  unfold unitR at hz
  rcases List.mem_or_eq_of_mem_set hz with h | h
  · rw [List.eq_of_mem_replicate h, h1]; decide
  · rw [h, h1]; decide
/-- does a program interpolate there? -/
def InterpP (p : PV) (l : List R2) : Prop := rightP p = true ∧ p.ins = l.length ∧ p.outs.length = l.length ∧ followP p (gridR l) = some ((List.range l.length).map (unitR l.length))
instance (p : PV) (l : List R2) : Decidable (InterpP p l) := inferInstanceAs (Decidable (_ ∧ _))
attribute [local irreducible] valB valL pb pw cmpZ lstWp p2 powR gridR followP rightP
theorem c36W (G : Imm) (n : Nat) (hn : n ≤ 1048576) :
    Does Tryz.prog 36 [.int .i64 (n : Int)] G [] (fun v G' Ho => ∃ b, v = .slice (some ⟨b, 0, none⟩) (List.replicate n (default : IV)).length n ∧ G' = G ∧ OwnA (some ⟨b, 0, none⟩) n (List.replicate n (default : IV)) [] ∧ Ho = [(0, some b, Row 78 (List.replicate n (default : IV)) [])]) := by
  refine Does.enter Tryz.func36 rfl Tryz.ntmps36 rfl (fun w => ?_)
  refine Wc.seq ?_
  refine Wc.region rfl ?_
  refine Wl.q rfl (Qy.assign rfl) ?_
  refine Wl.done ?_
  refine Ar.next ?_
  refine Wc.seq ?_
  refine Wc.region rfl ?_
  refine Wl.q rfl (Qy.move rfl) ?_
  refine Wl.make (α := IV) 0 rfl T.sl74 T.el78 rfl rfl (by omega) (by omega) (fun b1 => ?_)
  refine Wl.q rfl (Qy.assign rfl) ?_
  refine Wl.done ?_
  refine Ar.next ?_
  refine Wc.ret ?_
  have e : (List.replicate ((n : Int)).toNat (default : IV)).length = n := by rw [List.length_replicate]; omega
  refine Ar.out1 (.inr rfl) (Ho := [(0, some b1, Row 78 (List.replicate n (default : IV)) [])]) rfl (.tmp rfl) ⟨rfl, trivial⟩ ?_
  refine ⟨b1, by simp, rfl, .inr ⟨b1, rfl, by rw [List.length_replicate]; rfl, by rw [List.length_replicate]; exact Nat.le_refl _, by simp only [maxLen]; omega⟩, rfl⟩
theorem c10 (G : Imm) (p : PV) (ac ao a : Option Addr) (cc co c : Nat) (l : List R2) (hc : Arr G ac p.code) (ho : Arr G ao p.outs) (ha : Arr G a l) (hcl : p.code.length ≤ 16384) (hol : p.outs.length ≤ 1099511627776) (hlc : l.length ≤ c) (hr0 : 1 ≤ l.length) (hr1 : l.length ≤ 15) (hr2 : ∀ i, i < l.length → okP (l[i]?.getD default)) :
    Does Tryz.prog 10 [.agg #[.int .i64 p.ins, .int .i64 p.regs, .slice ac p.code.length cc, .slice ao p.outs.length co], .slice a l.length c] G [] (fun v G' Ho => v = .bool (decide (InterpP p l)) ∧ Ho = []) := by
  have hr : ∀ i, i < l.length → near (l[i]?.getD default).a (l[i]?.getD default).b := fun i hi => (hr2 i hi).1
  have hev := gridR_even hr1 hr
  refine Does.enter Tryz.func10 rfl Tryz.ntmps10 rfl (fun w => ?_)
  refine Wc.seq ?_
  refine Wc.region rfl ?_
  refine Wl.box 0 rfl rfl rfl (fun b1 => ?_)
  refine Wl.q rfl (Qy.assign rfl) ?_
  refine Wl.done ?_
  refine Ar.next ?_
  refine Wc.seq ?_
  refine Wc.region rfl ?_
  refine Wl.q rfl (Qy.loadAll 0 T.agg25 rfl rfl rfl) ?_
  refine Wl.call0 rfl T.fn9 rfl (c9 _ p _ _ _ _ (by assumption) (by assumption) (by omega) (by omega)) ?_
  refine Wl.q rfl (Qy.assign rfl) ?_
  refine Wl.done ?_
  refine Ar.next ?_
  refine Wc.seq ?_
  refine Wc.seq ?_
  refine Wc.region rfl ?_
  refine Wl.q rfl (Qy.move rfl) ?_
  refine Wl.q rfl (Qy.notD rfl) ?_
  refine Wl.q rfl (Qy.move rfl) ?_
  apply Wl.joinOr 6 15 21 rfl
  intro hg1
  refine Wl.want rfl rfl ?_
  refine Wl.q rfl (Qy.fieldAddr T.fa25_0 rfl) ?_
  refine Wl.want rfl rfl ?_
  refine Wl.q rfl (Qy.load 0 T.one3 rfl rfl rfl) ?_
  refine Wl.want rfl rfl ?_
  refine Wl.q rfl (Qy.move rfl) ?_
  refine Wl.want rfl rfl ?_
  refine Wl.q rfl (Qy.len T.sl26 rfl) ?_
  refine Wl.want rfl rfl ?_
  refine Wl.q rfl (Qy.neq rfl rfl) ?_
  refine Wl.q rfl (Qy.pick rfl rfl) ?_
  exact Wl.back 6 0 rfl rfl rfl rfl rfl
  intro hg1
  refine Wl.pass rfl rfl rfl ?_
  refine Wl.pass rfl rfl rfl ?_
  refine Wl.pass rfl rfl rfl ?_
  refine Wl.pass rfl rfl rfl ?_
  refine Wl.pass rfl rfl rfl ?_
  refine Wl.q rfl (Qy.pick rfl rfl) ?_
  exact Wl.back 6 0 rfl rfl rfl rfl rfl
  refine Wl.q rfl (Qy.move rfl) ?_
  apply Wl.joinOr 7 22 29 rfl
  intro hg1
  refine Wl.want rfl rfl ?_
  refine Wl.q rfl (Qy.fieldAddr T.fa25_3 rfl) ?_
  refine Wl.want rfl rfl ?_
  refine Wl.q rfl (Qy.load 0 T.one23 rfl rfl rfl) ?_
  refine Wl.want rfl rfl ?_
  refine Wl.q rfl (Qy.len T.sl23 rfl) ?_
  refine Wl.want rfl rfl ?_
  refine Wl.q rfl (Qy.move rfl) ?_
  refine Wl.want rfl rfl ?_
  refine Wl.q rfl (Qy.len T.sl26 rfl) ?_
  refine Wl.want rfl rfl ?_
  refine Wl.q rfl (Qy.neq rfl rfl) ?_
  refine Wl.q rfl (Qy.pick rfl rfl) ?_
  exact Wl.back 7 0 rfl rfl rfl rfl rfl
  intro hg1
  refine Wl.pass rfl rfl rfl ?_
  refine Wl.pass rfl rfl rfl ?_
  refine Wl.pass rfl rfl rfl ?_
  refine Wl.pass rfl rfl rfl ?_
  refine Wl.pass rfl rfl rfl ?_
  refine Wl.pass rfl rfl rfl ?_
  refine Wl.q rfl (Qy.pick rfl rfl) ?_
  exact Wl.back 7 0 rfl rfl rfl rfl rfl
  refine Wl.done ?_
  refine Ar.next ?_
  refine Wc.cond rfl (fun hc1 => ?_) (fun hc1 => ?_)
  refine Wc.seq ?_
  refine Wc.region rfl ?_
  refine Wl.q rfl (Qy.assign rfl) ?_
  refine Wl.done ?_
  refine Ar.next ?_
  refine Wc.ret ?_
  refine Ar.passRet ?_
  rotate_left
  refine Wc.skip ?_
  refine Ar.next ?_
  refine Wc.seq ?_
  refine Wc.draw [0] [(0, 3)] T.mixed rfl ?_
  refine Gm.q 0 [0] (by kernel_rfl) rfl rfl (Qy.loadAll 0 T.agg25 rfl rfl rfl) ?_
  refine Gm.q 1 [] (by kernel_rfl) rfl rfl (Qy.move rfl) ?_
  refine Gm.one 2 ⟨rfl, trivial⟩ (by first | exact Imm.le_refl _ | repeat (first | assumption | refine Imm.le_trans ?_ (by assumption))) (by kernel_rfl) rfl ?_
  refine Wl.call 1 rfl T.fn35 rfl (c35 _ _ _ l (by assumption) (by omega) hlc hr1 hr2) (tags_of trivial) (fun v1 G1 Ho1 hle1 hp => ?_)
  obtain ⟨ws1, wr1, wc1, rfl, hwA1, hwB1, hwL1, rfl⟩ := hp
  replace hc := hc.up hle1
  replace ho := ho.up hle1
  replace ha := ha.up hle1
  refine Wl.on0 ?_
  refine Gm.one 3 ⟨rfl, trivial⟩ (by first | exact Imm.le_refl _ | repeat (first | assumption | refine Imm.le_trans ?_ (by assumption))) (by kernel_rfl) rfl ?_
  rotate_left
  · refine Ar.out1 (.inr rfl) (Ho := []) rfl (.tmp rfl) trivial ?_
    refine ⟨?_, rfl⟩
    congr 1
    refine (decide_eq_false fun h => ?_).symm
    obtain ⟨h1, h2, h3, _⟩ := h
    rcases hc1 with (h | h) | h
    · exact h h1
    · exact h h2
    · omega
  have hR : rightP p = true := Classical.byContradiction fun h => hc1 (.inl (.inl h))
  have hpi : p.ins = l.length := Classical.byContradiction fun h => hc1 (.inl (.inr h))
  have hpo : p.outs.length = l.length := Classical.byContradiction fun h => hc1 (.inr (by omega))
  have hwl : wr1.length = l.length := hwB1.1.trans (gridR_lenN l)
  cases hf : followP p (gridR l) with
  | none =>
    refine Wl.call 1 rfl T.fn34 rfl (follow_none _ p _ _ _ _ _ _ _ (gridR l) l.length (by assumption) (by assumption) (by assumption) (ngrid_grid hwB1) hev (by omega) hR (by omega) hcl hf) (tags_of trivial) (fun v2 G2 Ho2 hle2 hp => ?_)
    obtain ⟨sv2, bad2, rfl, hbad2, rfl⟩ := hp
    replace hwA1 := hwA1.up hle2
    replace hc := hc.up hle2
    replace ho := ho.up hle2
    replace ha := ha.up hle2
    refine Wl.on0 ?_
    refine Gm.q 4 [] (by kernel_rfl) rfl rfl (Qy.move rfl) ?_
    refine Gm.q 5 [] (by kernel_rfl) rfl rfl (Qy.extract rfl rfl) ?_
    refine Gm.q 6 [] (by kernel_rfl) rfl rfl (Qy.extract rfl rfl) ?_
    refine Gm.q 7 [] (by kernel_rfl) rfl rfl (Qy.extract rfl rfl) ?_
    refine Gm.q 8 [] (by kernel_rfl) rfl rfl (Qy.assign rfl) ?_
    refine Gm.q 9 [] (by kernel_rfl) rfl rfl (Qy.assign rfl) ?_
    refine Gm.q 10 [] (by kernel_rfl) rfl rfl (Qy.assign rfl) ?_
    refine Gm.doneA (by kernel_rfl) trivial (by first | exact Imm.le_refl _ | repeat (first | assumption | refine Imm.le_trans ?_ (by assumption))) ?_
    refine Ar.next ?_
    refine Wc.seq ?_
    refine Wc.seq ?_
    refine Wc.region rfl ?_
    refine Wl.q rfl (Qy.move rfl) ?_
    refine Wl.q rfl (Qy.geq rfl rfl) ?_
    refine Wl.done ?_
    refine Ar.next ?_
    refine Wc.condP rfl (by first | assumption | omega) ?_
    refine Wc.seq ?_
    refine Wc.region rfl ?_
    refine Wl.q rfl (Qy.assign rfl) ?_
    refine Wl.done ?_
    refine Ar.next ?_
    refine Wc.ret ?_
    refine Ar.passRet ?_
    refine Ar.out1 (.inr rfl) (Ho := []) rfl (.tmp rfl) trivial ?_
    refine ⟨?_, rfl⟩
    congr 1
    refine (decide_eq_false fun h => ?_).symm
    have h4 := h.2.2.2
    rw [hf] at h4
    cases h4
  | some os =>
    refine Wl.call 1 rfl T.fn34 rfl (follow_some _ p _ _ _ _ _ _ _ (gridR l) l.length (by assumption) (by assumption) (by assumption) (ngrid_grid hwB1) hev (by omega) hR (by omega) hcl os hf) (tags_of trivial) (fun v2 G2 Ho2 hle2 hp => ?_)
    obtain ⟨sv2, oa2, oc2, ol2, rfl, hoA2, hoG2, rfl⟩ := hp
    replace hwA1 := hwA1.up hle2
    replace hc := hc.up hle2
    replace ho := ho.up hle2
    replace ha := ha.up hle2
    refine Wl.on0 ?_
    refine Gm.q 4 [] (by kernel_rfl) rfl rfl (Qy.move rfl) ?_
    refine Gm.q 5 [] (by kernel_rfl) rfl rfl (Qy.extract rfl rfl) ?_
    refine Gm.q 6 [] (by kernel_rfl) rfl rfl (Qy.extract rfl rfl) ?_
    refine Gm.q 7 [] (by kernel_rfl) rfl rfl (Qy.extract rfl rfl) ?_
    refine Gm.q 8 [] (by kernel_rfl) rfl rfl (Qy.assign rfl) ?_
    refine Gm.q 9 [] (by kernel_rfl) rfl rfl (Qy.assign rfl) ?_
    refine Gm.q 10 [] (by kernel_rfl) rfl rfl (Qy.assign rfl) ?_
    refine Gm.doneA (by kernel_rfl) trivial (by first | exact Imm.le_refl _ | repeat (first | assumption | refine Imm.le_trans ?_ (by assumption))) ?_
    refine Ar.next ?_
    refine Wc.seq ?_
    refine Wc.seq ?_
    refine Wc.region rfl ?_
    refine Wl.q rfl (Qy.move rfl) ?_
    refine Wl.q rfl (Qy.geq rfl rfl) ?_
    refine Wl.done ?_
    refine Ar.next ?_
    refine Wc.condN rfl (by first | assumption | omega) ?_
    refine Wc.skip ?_
    refine Ar.next ?_
    refine Wc.seq ?_
    refine Wc.seq ?_
    refine Wc.region rfl ?_
    refine Wl.q rfl (Qy.assign rfl) ?_
    refine Wl.done ?_
    refine Ar.next ?_
    refine Wc.block ?_
    have hol2 : ol2.length = l.length := by rw [hoG2.1, follow_len hf, hpo]
    have hose := follow_even hR hev (by rw [gridR_lenN]; omega) hf
    refine Wc.loopG (ι := Nat × Imm) (fun (j, Gx) => ([(9, .int .i64 (j : Int)), (8, Go.Value.slice oa2 (List.length ol2) oc2), (1, Go.Value.slice a (List.length l) c)], [(0, Option.some b1, Go.Obj.cells #[Go.Value.int Go.IntKind.i64 (Go.Proofs.YtbppmiimeccclaaGreat.PV.ins p), Go.Value.int Go.IntKind.i64 (Go.Proofs.YtbppmiimeccclaaGreat.PV.regs p), Go.Value.slice ac (List.length (Go.Proofs.YtbppmiimeccclaaGreat.PV.code p)) cc, Go.Value.slice ao (List.length (Go.Proofs.YtbppmiimeccclaaGreat.PV.outs p)) co] 25)])) (fun (j, Gx) => Gx) (fun (j, Gx) => j ≤ l.length ∧ G2.le Gx ∧ (∀ i, i < j → os[i]?.getD [] = unitR l.length i)) (fun (j, Gx) => l.length - j) ((0, G2)) (⟨Nat.zero_le _, Imm.le_refl _, fun i h => absurd h (by omega)⟩) rfl ⟨rfl, rfl, rfl, trivial⟩ ⟨rfl, trivial⟩ (fun ⟨j, Gx⟩ => fun (hk : j ≤ l.length ∧ G2.le Gx ∧ (∀ i, i < j → os[i]?.getD [] = unitR l.length i)) => ?_)
    obtain ⟨hj1, hj2, hj3⟩ := hk
    replace ha := ha.up hj2
    replace hoA2 := hoA2.up hj2
    rcases Nat.lt_or_ge j l.length with hjl | hjl
    · refine Wc.seq ?_
      refine Wc.seq ?_
      refine Wc.region rfl ?_
      refine Wl.q rfl (Qy.move rfl) ?_
      refine Wl.q rfl (Qy.move rfl) ?_
      refine Wl.q rfl (Qy.len T.sl26 rfl) ?_
      refine Wl.q rfl (Qy.lss rfl rfl) ?_
      refine Wl.done ?_
      refine Ar.next ?_
      refine Wc.condP rfl (by first | assumption | omega) ?_
      refine Wc.skip ?_
      refine Ar.next ?_
      refine Wc.seq ?_
      refine Wc.block ?_
      refine Wc.seq ?_
      refine Wc.region rfl ?_
      refine Wl.q rfl (Qy.move rfl) ?_
      refine Wl.q rfl (Qy.len T.sl26 rfl) ?_
      refine Wl.call 20 rfl T.fn36 rfl (c36W _ l.length (by omega)) (tags_of trivial) (fun v3 G3 Ho3 hle3 hp => ?_)
      obtain ⟨ub, rfl, rfl, huo, rfl⟩ := hp
      refine Wl.q rfl (Qy.assign rfl) ?_
      refine Wl.done ?_
      refine Ar.next ?_
      refine Wc.seq ?_
      refine Wc.region rfl ?_
      refine Wl.q rfl (Qy.move rfl) ?_
      refine Wl.q rfl (Qy.move rfl) ?_
      refine Wl.call 21 rfl T.fn37 rfl (c37 _ 1 (by decide)) (tags_of trivial) (fun v4 G4 Ho4 hle4 hp => ?_)
      obtain ⟨ro4, rfl, hro4, rfl⟩ := hp
      replace ha := ha.up hle4
      replace hoA2 := hoA2.up hle4
      refine Wl.q rfl (Qy.indexAddrO (α := IV) T.sl74 rfl rfl huo (by rw [List.length_replicate]; omega)) ?_
      refine Wl.setO (α := IV) (z := ro4) 20 T.size78 rfl rfl rfl huo (by rw [List.length_replicate]; omega) rfl (fun huo2 => ?_)
      refine Wl.done ?_
      refine Ar.next ?_
      refine Wc.seq ?_
      refine Wc.region rfl ?_
      refine Wl.q rfl (Qy.move rfl) ?_
      refine Wl.q rfl (Qy.move rfl) ?_
      refine Wl.q rfl (Qy.at (α := SV) T.sl69 rfl rfl (by assumption) (by omega)) ?_
      refine Wl.q rfl (Qy.loadG T.one74 rfl (Arr.cell (by assumption) (by omega) 0 rfl rfl)) ?_
      refine Wl.q rfl (Qy.move rfl) ?_
      have hRow : RowS G4 (ol2[((j : Nat) : Int).toNat]?.getD default) (os[j]?.getD []) := (hoG2.up (Imm.le_trans hj2 hle4)).2 j (by omega)
      have hose2 : (os[j]?.getD []).length = l.length ∧ Go.Sl.Below (4 + 5 * p.code.length) (os[j]?.getD []) := hose.at (k := (j : Int)) (by rw [follow_len hf]; omega)
      refine Wl.callB 30 rfl T.fn38 rfl (fun Gy hGy hgy => row_same Gy (ol2[((j : Nat) : Int).toNat]?.getD default) ⟨some ⟨ub, 0, none⟩, (List.replicate l.length (default : IV)).length, l.length⟩ (os[j]?.getD []) (unitR l.length j) (hRow.up hGy)
        ⟨(List.replicate l.length (default : IV)).set j ro4, by rw [List.length_set], by rw [List.length_replicate]; exact Nat.le_refl _, Arr.own hgy 20 rfl huo2, unit_nums (hro4.up hGy) hjl⟩ (4 + 5 * p.code.length) (by omega) hose2.2 (unit_below _ _ _ (by omega)) ?_ ?_) (fun v5 Gy5 G5 Ho5 hle5 hp => ?_)
      · obtain ⟨q, hq1, _, _, hq4⟩ := hRow
        rw [← hq1, hq4.1, hose2.1]; omega
      · show (List.replicate l.length (default : IV)).length ≤ 1048576
        rw [List.length_replicate]; omega
      · obtain ⟨rfl, rfl, rfl⟩ := hp
        refine Wl.q rfl (Qy.notD rfl) ?_
        refine Wl.done ?_
        refine Ar.next ?_
        refine Wc.cond rfl (fun hc2 => ?_) (fun hc2 => ?_)
        refine Wc.seq ?_
        refine Wc.region rfl ?_
        refine Wl.q rfl (Qy.assign rfl) ?_
        refine Wl.done ?_
        refine Ar.next ?_
        refine Wc.ret ?_
        refine Ar.outRet ?_
        refine Ar.passRet ?_
        refine Ar.passRet ?_
        refine Ar.outRet ?_
        refine Ar.passRet ?_
        rotate_left
        refine Wc.skip ?_
        refine Ar.outNormal ?_
        refine Ar.next ?_
        refine Wc.region rfl ?_
        refine Wl.q rfl (Qy.move rfl) ?_
        refine Wl.q rfl (Qy.add rfl rfl (by omega)) ?_
        refine Wl.q rfl (Qy.assign rfl) ?_
        refine Wl.done ?_
        rotate_left
        · refine Ar.out1 (.inr rfl) (Ho := []) rfl (.tmp rfl) trivial ?_
          refine ⟨?_, rfl⟩
          congr 1
          refine (decide_eq_false fun h => ?_).symm
          have h4 := h.2.2.2
          rw [hf] at h4
          have h5 : os = (List.range l.length).map (unitR l.length) := Option.some.inj h4
          refine hc2 ?_
          rw [h5, List.getElem?_map, List.getElem?_range hjl]; rfl
        · refine Ar.re 9 rfl (show _ = Value.int .i64 ((j + 1 : Nat) : Int) from rfl) ?_
          refine Ar.again ((j + 1, _)) ?_ ?_ rfl ⟨rfl, rfl, rfl, trivial⟩ ⟨rfl, trivial⟩
          · refine ⟨hjl, Imm.le_trans hj2 hle4, fun i hi => ?_⟩
            rcases Nat.lt_or_ge i j with h | h
            · exact hj3 i h
            · have e : i = j := by omega
              subst e
              exact Classical.byContradiction fun h => hc2 h
          · show l.length - (j + 1) < l.length - j
            omega
    · have hje : j = l.length := by omega
      subst hje
      refine Wc.seq ?_
      refine Wc.seq ?_
      refine Wc.region rfl ?_
      refine Wl.q rfl (Qy.move rfl) ?_
      refine Wl.q rfl (Qy.move rfl) ?_
      refine Wl.q rfl (Qy.len T.sl26 rfl) ?_
      refine Wl.q rfl (Qy.lss rfl rfl) ?_
      refine Wl.done ?_
      refine Ar.next ?_
      refine Wc.condN rfl (by first | assumption | omega) ?_
      refine Wc.exit ?_
      refine Ar.passExit ?_
      refine Ar.passExit ?_
      refine Ar.here ?_
      refine Ar.next ?_
      refine Wc.seq ?_
      refine Wc.region rfl ?_
      refine Wl.q rfl (Qy.assign rfl) ?_
      refine Wl.done ?_
      refine Ar.next ?_
      refine Wc.ret ?_
      refine Ar.out1 (.inr rfl) (Ho := []) rfl (.tmp rfl) trivial ?_
      refine ⟨?_, rfl⟩
      congr 1
      refine (decide_eq_true ⟨hR, hpi, hpo, ?_⟩).symm
      rw [hf]
      congr 1
      have hosl : os.length = l.length := by rw [follow_len hf, hpo]
      apply List.ext_getElem
      · rw [hosl, List.length_map, List.length_range]
      · intro i h1 h2
        have h3 := hj3 i (by omega)
        rw [List.getElem?_eq_getElem h1] at h3
        rw [List.getElem_map, List.getElem_range]
        exact h3
end Go.Proofs.YtbppmiimeccclaaGreat
set_option maxRecDepth 100000
set_option linter.unusedVariables false
namespace Go.Proofs.YtbppmiimeccclaaGreat
open Go Go.Sl
set_option maxHeartbeats 4000000
attribute [local irreducible] valB pb cmpZ lstWp p2 cst doI
theorem c76 (G : Imm) (n : Nat) (hn : n ≤ 4096) :
    Does Tryz.prog 76 [.int .i64 (n : Int)] G [] (fun v G' Ho => ∃ b, v = .tuple #[.slice (some ⟨b, 0, none⟩) (List.replicate n (default : IV)).length n, .int .i64 0] ∧ G' = G ∧ Ho = [(0, some b, Row 104 (List.replicate n (default : IV)) [])]) := by
  refine Does.enter Tryz.func76 rfl Tryz.ntmps76 rfl (fun w => ?_)
  refine Wc.seq ?_
  refine Wc.region rfl ?_
  refine Wl.q rfl (Qy.assign rfl) ?_
  refine Wl.q rfl (Qy.assign rfl) ?_
  refine Wl.done ?_
  refine Ar.next ?_
  refine Wc.seq ?_
  refine Wc.seq ?_
  refine Wc.region rfl ?_
  refine Wl.q rfl (Qy.move rfl) ?_
  refine Wl.q rfl (Qy.lss rfl rfl) ?_
  refine Wl.q rfl (Qy.move rfl) ?_
  refine Wl.no 6 rfl (by first | assumption | omega) ?_
  refine Wl.want rfl rfl ?_
  refine Wl.q rfl (Qy.move rfl) ?_
  refine Wl.want rfl rfl ?_
  refine Wl.q rfl (Qy.gtr rfl rfl) ?_
  refine Wl.q rfl (Qy.pick rfl rfl) ?_
  refine Wl.done ?_
  refine Ar.next ?_
  refine Wc.condN rfl (by first | assumption | omega) ?_
  refine Wc.skip ?_
  refine Ar.next ?_
  refine Wc.seq ?_
  refine Wc.region rfl ?_
  refine Wl.q rfl (Qy.move rfl) ?_
  refine Wl.make (α := IV) 0 rfl T.sl44 T.el104 rfl rfl (by omega) (by omega) (fun b1 => ?_)
  refine Wl.q rfl (Qy.assign rfl) ?_
  refine Wl.q rfl (Qy.assign rfl) ?_
  refine Wl.done ?_
  refine Ar.next ?_
  refine Wc.ret ?_
  refine Ar.out2 (.inr rfl) (Ho := [(0, some b1, Row 104 (List.replicate n (default : IV)) [])]) rfl (.tmp rfl) (.tmp rfl) ⟨rfl, trivial⟩ ?_
  exact ⟨b1, by simp, rfl, rfl⟩
theorem c28 (G : Imm) (n j : Nat) (hn : n ≤ 4096) (hj : j < n) :
    Does Tryz.prog 28 [.int .i64 (n : Int), .int .i64 (j : Int)] G [] (fun v G' Ho => ∃ s l d, v = .tuple #[.slice s (List.length l) d, .int .i64 0] ∧ Arr G' s l ∧ List.length l = n ∧ n ≤ d ∧ Bigs G' l (unitR n j) ∧ Ho = []) := by
  refine Does.enter Tryz.func28 rfl Tryz.ntmps28 rfl (fun w => ?_)
  refine Wc.seq ?_
  refine Wc.region rfl ?_
  refine Wl.q rfl (Qy.assign rfl) ?_
  refine Wl.q rfl (Qy.assign rfl) ?_
  refine Wl.done ?_
  refine Ar.next ?_
  refine Wc.seq ?_
  refine Wc.region rfl ?_
  refine Wl.q rfl (Qy.move rfl) ?_
  refine Wl.call 0 rfl T.fn76 rfl (c76 _ n hn) (tags_of trivial) (fun v1 G1 Ho1 hle1 hp => ?_)
  obtain ⟨b1, rfl, rfl, rfl⟩ := hp
  have ho3 : OwnA (some ⟨b1, 0, none⟩) n (List.replicate n (default : IV)) [] := .inr ⟨b1, rfl, by rw [List.length_replicate]; rfl, by rw [List.length_replicate]; exact Nat.le_refl _, by simp only [maxLen]; omega⟩
  obtain ⟨r0, hr0⟩ : ∃ r0, r0 = List.replicate n (default : IV) := ⟨_, rfl⟩
  have lr0 : r0.length = n := by rw [hr0, List.length_replicate]
  rw [← hr0] at ho3 ⊢
  refine Wl.q rfl (Qy.move rfl) ?_
  refine Wl.q rfl (Qy.extract rfl rfl) ?_
  refine Wl.q rfl (Qy.extract rfl rfl) ?_
  refine Wl.q rfl (Qy.assign rfl) ?_
  refine Wl.q rfl (Qy.assign rfl) ?_
  refine Wl.done ?_
  refine Ar.next ?_
  refine Wc.seq ?_
  refine Wc.block ?_
  refine Wc.seq ?_
  refine Wc.region rfl ?_
  refine Wl.q rfl (Qy.move rfl) ?_
  refine Wl.q rfl (Qy.neq rfl rfl) ?_
  refine Wl.q rfl (Qy.assign rfl) ?_
  refine Wl.done ?_
  refine Ar.next ?_
  refine Wc.condN rfl (by first | assumption | omega) ?_
  refine Wc.seq ?_
  refine Wc.region rfl ?_
  refine Wl.q rfl (Qy.move rfl) ?_
  refine Wl.q rfl (Qy.lss rfl rfl) ?_
  refine Wl.q rfl (Qy.move rfl) ?_
  refine Wl.no 20 rfl (by first | assumption | omega) ?_
  refine Wl.want rfl rfl ?_
  refine Wl.q rfl (Qy.move rfl) ?_
  refine Wl.want rfl rfl ?_
  refine Wl.q rfl (Qy.move rfl) ?_
  refine Wl.want rfl rfl ?_
  refine Wl.q rfl (Qy.geq rfl rfl) ?_
  refine Wl.q rfl (Qy.pick rfl rfl) ?_
  refine Wl.q rfl (Qy.assign rfl) ?_
  refine Wl.done ?_
  refine Ar.next ?_
  refine Wc.condN rfl (by first | assumption | omega) ?_
  refine Wc.skip ?_
  refine Ar.outNormal ?_
  refine Ar.next ?_
  refine Wc.seq ?_
  refine Wc.region rfl ?_
  refine Wl.q rfl (Qy.move rfl) ?_
  refine Wl.q rfl (Qy.move rfl) ?_
  refine Wl.call 1 rfl T.fn57 rfl (c57 _ _ (by decide)) (tags_of trivial) (fun v2 G2 Ho2 hle2 hp => ?_)
  obtain ⟨ri2, rfl, hri2, rfl⟩ := hp
  refine Wl.q rfl (Qy.indexAddrO (α := IV) T.sl44 rfl rfl (by assumption) (by omega)) ?_
  refine Wl.setO (z := ri2) (m := ((j : Nat) : Int)) 0 T.size104 rfl rfl rfl ho3 (by omega) rfl (fun ho1 => ?_)
  have hB : Bigs G2 (r0.set j ri2) (unitR n j) := by
    rw [hr0]; unfold unitR
    exact (Bigs.zeros G2 n).set j hri2
  have hl9 : (r0.set j ri2).length = n := by rw [List.length_set]; exact lr0
  rw [Int.toNat_natCast] at ho1 ⊢
  obtain ⟨r9, hr9⟩ : ∃ r9, r9 = r0.set j ri2 := ⟨_, rfl⟩
  rw [← hr9] at ho1 hB hl9 ⊢
  refine Wl.done ?_
  refine Ar.next ?_
  refine Wc.seq ?_
  refine Wc.region rfl ?_
  refine Wl.q rfl (Qy.move rfl) ?_
  refine Wl.q rfl (Qy.assign rfl) ?_
  refine Wl.q rfl (Qy.assign rfl) ?_
  refine Wl.done ?_
  refine Ar.next ?_
  refine Wc.ret ?_
  refine Ar.freezeRow 0 rfl ho1 (fun G3 hle3 hA3 => ?_)
  refine Ar.re 4 rfl (show _ = Value.slice (some ⟨b1, 0, none⟩) r9.length n by rw [hl9, lr0]) ?_
  refine Ar.out2 (.inr rfl) (Ho := Hp.only _ []) rfl (.tmp rfl) (.tmp rfl) (Hp.sub_only _ _) ?_
  exact ⟨_, r9, n, rfl, hA3, hl9, Nat.le_refl _, hB.up hle3, rfl⟩
end Go.Proofs.YtbppmiimeccclaaGreat
set_option maxRecDepth 100000
set_option linter.unusedVariables false
namespace Go.Proofs.YtbppmiimeccclaaGreat
open Go Go.Sl
set_option maxHeartbeats 4000000
theorem pb2_pw4 : pb 2 = pw 4 := by unfold pb pw; decide
theorem even_evenB {N : Nat} {gs : List (List Int)} (h : Even 4 N gs) : EvenB 2 N gs := fun zs hz => ⟨(h zs hz).1, fun z hz' => by rw [pb2_pw4]; exact (h zs hz).2 z hz'⟩
theorem unit_belowB (n j : Nat) : Below 2 (unitR n j) := fun z hz => by
  rw [pb2_pw4]; exact unit_below n j 4 (by omega) z hz
/-- the rows are the units'? -/
theorem units_eq {os : List (List Int)} {n : Nat} (hl : os.length = n) : (os = (List.range n).map (unitR n)) ↔ ∀ t : Nat, t < n → os[t]?.getD [] = unitR n t := by
  constructor
  · intro h t ht
    rw [h, List.getElem?_map, List.getElem?_range ht]; rfl
  · intro h
    refine List.ext_getElem? fun i => ?_
    rcases Nat.lt_or_ge i n with h1 | h1
    · have := h i h1
      rw [List.getElem?_eq_getElem (by omega)] at this ⊢
      rw [List.getElem?_map, List.getElem?_range h1]
      show some os[i] = some (unitR n i)
      rw [← this]; rfl
    · rw [List.getElem?_eq_none (by omega), List.getElem?_eq_none (by rw [List.length_map, List.length_range]; omega)]
attribute [local irreducible] valB pb pw cmpZ lstWp p2 cst doI followP gridR rightP unitR
theorem c7W (G : Imm) (p : PV) (ac ao : Option Addr) (cc co : Nat) (a : Option Addr) (c : Nat) (l : List R2) (ha : Arr G a l) (hac : l.length ≤ c) (hl : l.length ≤ 1048576) (hR : ¬ RightL l) :
    Does Tryz.prog 7 [.agg #[.int .i64 p.ins, .int .i64 p.regs, .slice ac p.code.length cc, .slice ao p.outs.length co], .slice a l.length c] G [] (fun v G' Ho => v = .tuple #[.bool false, .int .i64 2] ∧ Ho = []) := by
  refine Does.enter Tryz.func7 rfl Tryz.ntmps7 rfl (fun w => ?_)
  refine Wc.seq ?_
  refine Wc.region rfl ?_
  refine Wl.box 0 rfl rfl rfl (fun b1 => ?_)
  refine Wl.q rfl (Qy.assign rfl) ?_
  refine Wl.q rfl (Qy.assign rfl) ?_
  refine Wl.done ?_
  refine Ar.next ?_
  refine Wc.seq ?_
  refine Wc.region rfl ?_
  refine Wl.q rfl (Qy.move rfl) ?_
  refine Wl.call0 rfl T.fn27 rfl (c27W _ a c l (by assumption) (by omega) hac hR) ?_
  refine Wl.q rfl (Qy.move rfl) ?_
  refine Wl.q rfl (Qy.extract rfl rfl) ?_
  refine Wl.q rfl (Qy.extract rfl rfl) ?_
  refine Wl.q rfl (Qy.assign rfl) ?_
  refine Wl.q rfl (Qy.assign rfl) ?_
  refine Wl.done ?_
  refine Ar.next ?_
  refine Wc.seq ?_
  refine Wc.seq ?_
  refine Wc.region rfl ?_
  refine Wl.q rfl (Qy.move rfl) ?_
  refine Wl.q rfl (Qy.neq rfl rfl) ?_
  refine Wl.done ?_
  refine Ar.next ?_
  refine Wc.condP rfl (by first | assumption | omega) ?_
  refine Wc.seq ?_
  refine Wc.region rfl ?_
  refine Wl.q rfl (Qy.move rfl) ?_
  refine Wl.q rfl (Qy.assign rfl) ?_
  refine Wl.q rfl (Qy.assign rfl) ?_
  refine Wl.done ?_
  refine Ar.next ?_
  refine Wc.ret ?_
  refine Ar.passRet ?_
  refine Ar.out2 (.inr rfl) (Ho := Hp.only _ []) rfl (.tmp rfl) (.tmp rfl) (Hp.sub_only _ _) ?_
  exact ⟨rfl, rfl⟩
theorem c18P (G : Imm) (p : PV) (ac ao : Option Addr) (cc co : Nat) (hc : Arr G ac p.code) (ho : Arr G ao p.outs) (h1 : p.code.length ≤ 1099511627776) (h2 : p.outs.length ≤ 1099511627776) (hP : ¬ rightP p = true) :
    Does Tryz.prog 18 [.agg #[.int .i64 p.ins, .int .i64 p.regs, .slice ac p.code.length cc, .slice ao p.outs.length co]] G [] (fun v G' Ho => v = .tuple #[.int .i64 (checkP p).1, .int .i64 80] ∧ G' = G ∧ Ho = []) := by
  have hf : (checkP p).2 = true := by unfold rightP at hP; simpa using hP
  have h := c18 G p ac ao cc co hc ho h1 h2
  rw [hf] at h
  exact h
theorem c7P (G : Imm) (p : PV) (ac ao : Option Addr) (cc co : Nat) (a : Option Addr) (c : Nat) (l : List R2) (hc : Arr G ac p.code) (ho : Arr G ao p.outs) (hcl : p.code.length ≤ 1099511627776) (hol : p.outs.length ≤ 1099511627776) (ha : Arr G a l) (hac : l.length ≤ c) (hl : l.length ≤ 1048576) (hR : RightL l) (hP : ¬ rightP p = true) :
    Does Tryz.prog 7 [.agg #[.int .i64 p.ins, .int .i64 p.regs, .slice ac p.code.length cc, .slice ao p.outs.length co], .slice a l.length c] G [] (fun v G' Ho => v = .tuple #[.bool false, .int .i64 80] ∧ Ho = []) := by
  have hl15 := hR.2.1
  refine Does.enter Tryz.func7 rfl Tryz.ntmps7 rfl (fun w => ?_)
  refine Wc.seq ?_
  refine Wc.region rfl ?_
  refine Wl.box 0 rfl rfl rfl (fun b1 => ?_)
  refine Wl.q rfl (Qy.assign rfl) ?_
  refine Wl.q rfl (Qy.assign rfl) ?_
  refine Wl.done ?_
  refine Ar.next ?_
  refine Wc.seq ?_
  refine Wc.region rfl ?_
  refine Wl.q rfl (Qy.move rfl) ?_
  refine Wl.call 1 rfl T.fn27 rfl (c27R _ a c l (by assumption) (by omega) hac hR hl15 hR.2.2.1) (tags_of trivial) (fun v1 G1 Ho1 hle1 hp => ?_)
  obtain ⟨gs1, gr1, gc1, rfl, hga1, hgb1, hgc1, rfl⟩ := hp
  replace hc := hc.up hle1
  replace ho := ho.up hle1
  replace ha := ha.up hle1
  refine Wl.q rfl (Qy.move rfl) ?_
  refine Wl.q rfl (Qy.extract rfl rfl) ?_
  refine Wl.q rfl (Qy.extract rfl rfl) ?_
  refine Wl.q rfl (Qy.assign rfl) ?_
  refine Wl.q rfl (Qy.assign rfl) ?_
  refine Wl.done ?_
  refine Ar.next ?_
  refine Wc.seq ?_
  refine Wc.seq ?_
  refine Wc.region rfl ?_
  refine Wl.q rfl (Qy.move rfl) ?_
  refine Wl.q rfl (Qy.neq rfl rfl) ?_
  refine Wl.done ?_
  refine Ar.next ?_
  refine Wc.condN rfl (by first | assumption | omega) ?_
  refine Wc.skip ?_
  refine Ar.next ?_
  refine Wc.seq ?_
  refine Wc.seq ?_
  refine Wc.region rfl ?_
  refine Wl.q rfl (Qy.loadAll 0 T.agg25 rfl rfl rfl) ?_
  refine Wl.call0 rfl T.fn18 rfl (c18P _ p _ _ _ _ (by assumption) (by assumption) hcl hol hP) ?_
  refine Wl.q rfl (Qy.move rfl) ?_
  refine Wl.q rfl (Qy.extract rfl rfl) ?_
  refine Wl.q rfl (Qy.extract rfl rfl) ?_
  refine Wl.q rfl (Qy.assign rfl) ?_
  refine Wl.done ?_
  refine Ar.next ?_
  refine Wc.seq ?_
  refine Wc.region rfl ?_
  refine Wl.q rfl (Qy.move rfl) ?_
  refine Wl.q rfl (Qy.neq rfl rfl) ?_
  refine Wl.done ?_
  refine Ar.next ?_
  refine Wc.condP rfl (by first | assumption | omega) ?_
  refine Wc.seq ?_
  refine Wc.region rfl ?_
  refine Wl.q rfl (Qy.move rfl) ?_
  refine Wl.q rfl (Qy.assign rfl) ?_
  refine Wl.q rfl (Qy.assign rfl) ?_
  refine Wl.done ?_
  refine Ar.next ?_
  refine Wc.ret ?_
  refine Ar.passRet ?_
  refine Ar.out2 (.inr rfl) (Ho := Hp.only _ []) rfl (.tmp rfl) (.tmp rfl) (Hp.sub_only _ _) ?_
  exact ⟨rfl, rfl⟩
theorem c7Y (G : Imm) (p : PV) (ac ao : Option Addr) (cc co : Nat) (a : Option Addr) (c : Nat) (l : List R2) (hc : Arr G ac p.code) (ho : Arr G ao p.outs) (hcl : p.code.length ≤ 1099511627776) (hol : p.outs.length ≤ 1099511627776) (ha : Arr G a l) (hac : l.length ≤ c) (hl : l.length ≤ 1048576) (hR : RightL l) (hP : rightP p = true) :
    Does Tryz.prog 7 [.agg #[.int .i64 p.ins, .int .i64 p.regs, .slice ac p.code.length cc, .slice ao p.outs.length co], .slice a l.length c] G [] (fun v G' Ho => v = .tuple #[.bool (decide (InterpP p l)), .int .i64 0] ∧ Ho = []) := by
  have hl1 := hR.1
  have hl15 := hR.2.1
  have hev := even_evenB (gridR_even hl15 (fun i hi => (hR.2.2.1 i hi).1))
  have hgl := gridR_lenN l
  obtain ⟨f1, f2, f3, f4, f5, f6, f7, f8⟩ := right_facts hP
  refine Does.enter Tryz.func7 rfl Tryz.ntmps7 rfl (fun w => ?_)
  by_cases hI : p.ins = l.length
  · by_cases hO : p.outs.length = l.length
    · refine Wc.seq ?_
      refine Wc.region rfl ?_
      refine Wl.box 0 rfl rfl rfl (fun b1 => ?_)
      refine Wl.q rfl (Qy.assign rfl) ?_
      refine Wl.q rfl (Qy.assign rfl) ?_
      refine Wl.done ?_
      refine Ar.next ?_
      refine Wc.seq ?_
      refine Wc.region rfl ?_
      refine Wl.q rfl (Qy.move rfl) ?_
      refine Wl.call 1 rfl T.fn27 rfl (c27R _ a c l (by assumption) (by omega) hac hR hl15 hR.2.2.1) (tags_of trivial) (fun v1 G1 Ho1 hle1 hp => ?_)
      obtain ⟨gs1, gr1, gc1, rfl, hga1, hgb1, hgc1, rfl⟩ := hp
      replace hc := hc.up hle1
      replace ho := ho.up hle1
      replace ha := ha.up hle1
      refine Wl.q rfl (Qy.move rfl) ?_
      refine Wl.q rfl (Qy.extract rfl rfl) ?_
      refine Wl.q rfl (Qy.extract rfl rfl) ?_
      refine Wl.q rfl (Qy.assign rfl) ?_
      refine Wl.q rfl (Qy.assign rfl) ?_
      refine Wl.done ?_
      refine Ar.next ?_
      refine Wc.seq ?_
      refine Wc.seq ?_
      refine Wc.region rfl ?_
      refine Wl.q rfl (Qy.move rfl) ?_
      refine Wl.q rfl (Qy.neq rfl rfl) ?_
      refine Wl.done ?_
      refine Ar.next ?_
      refine Wc.condN rfl (by first | assumption | omega) ?_
      refine Wc.skip ?_
      refine Ar.next ?_
      refine Wc.seq ?_
      refine Wc.seq ?_
      refine Wc.region rfl ?_
      refine Wl.q rfl (Qy.loadAll 0 T.agg25 rfl rfl rfl) ?_
      refine Wl.call0 rfl T.fn18 rfl (c18R _ p _ _ _ _ (by assumption) (by assumption) hcl hol hP) ?_
      refine Wl.q rfl (Qy.move rfl) ?_
      refine Wl.q rfl (Qy.extract rfl rfl) ?_
      refine Wl.q rfl (Qy.extract rfl rfl) ?_
      refine Wl.q rfl (Qy.assign rfl) ?_
      refine Wl.done ?_
      refine Ar.next ?_
      refine Wc.seq ?_
      refine Wc.region rfl ?_
      refine Wl.q rfl (Qy.move rfl) ?_
      refine Wl.q rfl (Qy.neq rfl rfl) ?_
      refine Wl.done ?_
      refine Ar.next ?_
      refine Wc.condN rfl (by first | assumption | omega) ?_
      refine Wc.skip ?_
      refine Ar.next ?_
      refine Wc.seq ?_
      refine Wc.seq ?_
      refine Wc.region rfl ?_
      refine Wl.q rfl (Qy.fieldAddr T.fa25_0 rfl) ?_
      refine Wl.q rfl (Qy.load 0 T.one3 rfl rfl rfl) ?_
      refine Wl.q rfl (Qy.move rfl) ?_
      refine Wl.q rfl (Qy.len T.sl26 rfl) ?_
      refine Wl.q rfl (Qy.neq rfl rfl) ?_
      refine Wl.q rfl (Qy.move rfl) ?_
      refine Wl.no 35 rfl (by first | assumption | omega) ?_
      refine Wl.want rfl rfl ?_
      refine Wl.q rfl (Qy.fieldAddr T.fa25_3 rfl) ?_
      refine Wl.want rfl rfl ?_
      refine Wl.q rfl (Qy.load 0 T.one23 rfl rfl rfl) ?_
      refine Wl.want rfl rfl ?_
      refine Wl.q rfl (Qy.len T.sl23 rfl) ?_
      refine Wl.want rfl rfl ?_
      refine Wl.q rfl (Qy.move rfl) ?_
      refine Wl.want rfl rfl ?_
      refine Wl.q rfl (Qy.len T.sl26 rfl) ?_
      refine Wl.want rfl rfl ?_
      refine Wl.q rfl (Qy.neq rfl rfl) ?_
      refine Wl.q rfl (Qy.pick rfl rfl) ?_
      refine Wl.done ?_
      refine Ar.next ?_
      refine Wc.condN rfl (by first | assumption | omega) ?_
      refine Wc.skip ?_
      refine Ar.next ?_
      refine Wc.seq ?_
      refine Wc.region rfl ?_
      refine Wl.q rfl (Qy.loadAll 0 T.agg25 rfl rfl rfl) ?_
      refine Wl.q rfl (Qy.move rfl) ?_
      refine Wl.call 20 rfl T.fn24 rfl (c24 _ p ac ao gs1 cc co gc1 gr1 (gridR l) 2 l.length (by assumption) (by assumption) (by assumption) (by assumption) hev (by omega) hl1 (by omega) hP (by rw [hgb1.1, hgl, hI])) (tags_of trivial) (fun v9 G9 Ho9 hle9 hp => ?_)
      obtain ⟨rfl, ⟨os, ob, orr, oc, hfo, rfl, hoA, hol9, hoB, hoE⟩ | ⟨hno, k9, rfl⟩⟩ := hp
      · have hos := follow_len hfo
        have hoL := hoB.1
        replace ha := ha.up hle9
        have hiff : InterpP p l ↔ ∀ t : Nat, t < l.length → os[t]?.getD [] = unitR l.length t := by
          rw [← units_eq (by omega)]
          unfold InterpP
          rw [hfo]
          exact ⟨fun h => Option.some.inj h.2.2.2, fun h => ⟨hP, hI, hO, by rw [h]⟩⟩
        refine Wl.q rfl (Qy.move rfl) ?_
        refine Wl.q rfl (Qy.extract rfl rfl) ?_
        refine Wl.q rfl (Qy.extract rfl rfl) ?_
        refine Wl.q rfl (Qy.extract rfl rfl) ?_
        refine Wl.q rfl (Qy.assign rfl) ?_
        refine Wl.q rfl (Qy.assign rfl) ?_
        refine Wl.q rfl (Qy.assign rfl) ?_
        refine Wl.done ?_
        refine Ar.next ?_
        refine Wc.seq ?_
        refine Wc.seq ?_
        refine Wc.region rfl ?_
        refine Wl.q rfl (Qy.move rfl) ?_
        refine Wl.q rfl (Qy.neq rfl rfl) ?_
        refine Wl.done ?_
        refine Ar.next ?_
        refine Wc.condN rfl (by first | assumption | omega) ?_
        refine Wc.skip ?_
        refine Ar.next ?_
        refine Wc.seq ?_
        refine Wc.seq ?_
        refine Wc.region rfl ?_
        refine Wl.q rfl (Qy.move rfl) ?_
        refine Wl.q rfl (Qy.len T.sl53 rfl) ?_
        refine Wl.q rfl (Qy.move rfl) ?_
        refine Wl.done ?_
        refine Ar.next ?_
        refine Wc.block ?_
        refine Wc.loopG (ι := Nat × Imm) (fun (i, Gx) => ([(54, .int .i64 (i : Int)), (53, Go.Value.int Go.IntKind.i64 (↑(List.length orr) : Int)), (52, Go.Value.slice ob (List.length orr) oc), (1, Go.Value.slice a (List.length l) c)], [(0, Option.some b1, Go.Obj.cells #[Go.Value.int Go.IntKind.i64 (Go.Proofs.YtbppmiimeccclaaGreat.PV.ins p), Go.Value.int Go.IntKind.i64 (Go.Proofs.YtbppmiimeccclaaGreat.PV.regs p), Go.Value.slice ac (List.length (Go.Proofs.YtbppmiimeccclaaGreat.PV.code p)) cc, Go.Value.slice ao (List.length (Go.Proofs.YtbppmiimeccclaaGreat.PV.outs p)) co] 25)])) (fun (i, Gx) => Gx) (fun (i, Gx) => i ≤ l.length ∧ G9.le Gx ∧ ∀ t : Nat, t < i → os[t]?.getD [] = unitR l.length t) (fun (i, Gx) => l.length - i) ((0, G9)) (⟨Nat.zero_le _, Imm.le_refl _, fun t ht => by omega⟩) rfl ⟨rfl, rfl, rfl, rfl, trivial⟩ ⟨rfl, trivial⟩ (fun ⟨i, Gx⟩ => fun (hk : i ≤ l.length ∧ G9.le Gx ∧ ∀ t : Nat, t < i → os[t]?.getD [] = unitR l.length t) => ?_)
        obtain ⟨hi0, hgx, hall⟩ := hk
        replace hoA := hoA.up hgx
        rcases Nat.lt_or_ge i l.length with hil | hil
        · obtain ⟨l1, a1, a2, a3, a4⟩ := (hoB.up hgx).2 i (by omega)
          have hE1 := hoE.at (k := i) (by omega)
          refine Wc.seq ?_
          refine Wc.region rfl ?_
          refine Wl.q rfl (Qy.lss rfl rfl) ?_
          refine Wl.done ?_
          refine Ar.next ?_
          refine Wc.seq ?_
          refine Wc.condP rfl (by first | assumption | omega) ?_
          refine Wc.skip ?_
          refine Ar.next ?_
          refine Wc.seq ?_
          refine Wc.block ?_
          refine Wc.seq ?_
          refine Wc.region rfl ?_
          refine Wl.q rfl (Qy.move rfl) ?_
          refine Wl.q rfl (Qy.at (α := SV) T.sl53 rfl rfl (by assumption) (by omega)) ?_
          refine Wl.q rfl (Qy.loadG T.one44 rfl (Arr.cell (by assumption) (by omega) 0 rfl rfl)) ?_
          refine Wl.q rfl (Qy.assign rfl) ?_
          refine Wl.q rfl (Qy.assign rfl) ?_
          refine Wl.done ?_
          refine Ar.next ?_
          refine Wc.seq ?_
          refine Wc.region rfl ?_
          refine Wl.q rfl (Qy.move rfl) ?_
          refine Wl.q rfl (Qy.len T.sl26 rfl) ?_
          refine Wl.q rfl (Qy.move rfl) ?_
          refine Wl.call 20 rfl T.fn28 rfl (c28 _ l.length i (by omega) hil) (tags_of trivial) (fun v1 G2 Ho1 hle2 hp => ?_)
          obtain ⟨s2, l2, d2, rfl, hA2, hl2, hd2, hB2, rfl⟩ := hp
          refine Wl.q rfl (Qy.move rfl) ?_
          refine Wl.q rfl (Qy.extract rfl rfl) ?_
          refine Wl.q rfl (Qy.extract rfl rfl) ?_
          refine Wl.q rfl (Qy.assign rfl) ?_
          refine Wl.q rfl (Qy.assign rfl) ?_
          refine Wl.done ?_
          refine Ar.next ?_
          refine Wc.seq ?_
          refine Wc.region rfl ?_
          refine Wl.q rfl (Qy.move rfl) ?_
          refine Wl.q rfl (Qy.move rfl) ?_
          refine Wl.re 66 rfl (show _ = Value.slice (orr[i]?.getD default).a l1.length (orr[i]?.getD default).c by rw [a1]; rfl) ?_
          refine Wl.call 20 rfl T.fn29 rfl (c29 _ _ _ _ _ l1 l2 (os[i]?.getD []) (unitR l.length i) (a3.up hle2) hA2 (a4.up hle2) hB2 (by rw [a4.1, hE1.1]; omega) (by omega) (2 + 3 * p.code.length) (by omega) hE1.2 ((unit_belowB _ _).mono (by omega))) (tags_of trivial) (fun v1 G3 Ho1 hle3 hp => ?_)
          obtain ⟨rfl, rfl, rfl⟩ := hp
          by_cases he : os[i]?.getD [] = unitR l.length i
          · have he2 : ¬ ¬ (os[i]?.getD [] = unitR l.length i) := fun h => h he
            refine Wl.q rfl (Qy.notD rfl) ?_
            refine Wl.done ?_
            refine Ar.next ?_
            refine Wc.condN rfl (by first | assumption | omega) ?_
            refine Wc.skip ?_
            refine Ar.outNormal ?_
            refine Ar.next ?_
            refine Wc.region rfl ?_
            refine Wl.q rfl (Qy.add rfl rfl (by omega)) ?_
            refine Wl.q rfl (Qy.move rfl) ?_
            refine Wl.done ?_
            refine Ar.again ((i + 1, G3)) ?_ ?_ rfl ⟨rfl, rfl, rfl, rfl, trivial⟩ ⟨rfl, trivial⟩
            · refine ⟨by omega, Imm.le_trans hgx hle2, fun t ht => ?_⟩
              rcases Nat.lt_or_ge t i with h1 | h1
              · exact hall t h1
              · have e : t = i := by omega
                rw [e]; exact he
            · show l.length - (i + 1) < l.length - i
              omega
          · have hnI : ¬ InterpP p l := fun h => he (hiff.1 h i hil)
            refine Wl.q rfl (Qy.notD rfl) ?_
            refine Wl.done ?_
            refine Ar.next ?_
            refine Wc.condP rfl (by first | assumption | omega) ?_
            refine Wc.seq ?_
            refine Wc.region rfl ?_
            refine Wl.q rfl (Qy.assign rfl) ?_
            refine Wl.q rfl (Qy.assign rfl) ?_
            refine Wl.done ?_
            refine Ar.next ?_
            refine Wc.ret ?_
            refine Ar.outRet ?_
            refine Ar.passRet ?_
            refine Ar.passRet ?_
            refine Ar.outRet ?_
            refine Ar.passRet ?_
            refine Ar.out2 (.inr rfl) (Ho := Hp.only _ []) rfl (.tmp rfl) (.tmp rfl) (Hp.sub_only _ _) ?_
            exact ⟨by rw [decide_eq_false hnI], rfl⟩
        · have hyI : InterpP p l := hiff.2 (fun t ht => hall t (by omega))
          refine Wc.seq ?_
          refine Wc.region rfl ?_
          refine Wl.q rfl (Qy.lss rfl rfl) ?_
          refine Wl.done ?_
          refine Ar.next ?_
          refine Wc.seq ?_
          refine Wc.condN rfl (by first | assumption | omega) ?_
          refine Wc.exit ?_
          refine Ar.passExit ?_
          refine Ar.passExit ?_
          refine Ar.here ?_
          refine Ar.next ?_
          refine Wc.seq ?_
          refine Wc.region rfl ?_
          refine Wl.q rfl (Qy.assign rfl) ?_
          refine Wl.q rfl (Qy.assign rfl) ?_
          refine Wl.done ?_
          refine Ar.next ?_
          refine Wc.ret ?_
          refine Ar.out2 (.inr rfl) (Ho := Hp.only _ []) rfl (.tmp rfl) (.tmp rfl) (Hp.sub_only _ _) ?_
          exact ⟨by rw [decide_eq_true hyI], rfl⟩
      · have hnI : ¬ InterpP p l := fun h => by have := h.2.2.2; rw [hno] at this; cases this
        refine Wl.q rfl (Qy.move rfl) ?_
        refine Wl.q rfl (Qy.extract rfl rfl) ?_
        refine Wl.q rfl (Qy.extract rfl rfl) ?_
        refine Wl.q rfl (Qy.extract rfl rfl) ?_
        refine Wl.q rfl (Qy.assign rfl) ?_
        refine Wl.q rfl (Qy.assign rfl) ?_
        refine Wl.q rfl (Qy.assign rfl) ?_
        refine Wl.done ?_
        refine Ar.next ?_
        refine Wc.seq ?_
        refine Wc.seq ?_
        refine Wc.region rfl ?_
        refine Wl.q rfl (Qy.move rfl) ?_
        refine Wl.q rfl (Qy.neq rfl rfl) ?_
        refine Wl.done ?_
        refine Ar.next ?_
        refine Wc.condP rfl (by first | assumption | omega) ?_
        refine Wc.seq ?_
        refine Wc.region rfl ?_
        refine Wl.q rfl (Qy.assign rfl) ?_
        refine Wl.q rfl (Qy.assign rfl) ?_
        refine Wl.done ?_
        refine Ar.next ?_
        refine Wc.ret ?_
        refine Ar.passRet ?_
        refine Ar.out2 (.inr rfl) (Ho := Hp.only _ []) rfl (.tmp rfl) (.tmp rfl) (Hp.sub_only _ _) ?_
        exact ⟨by rw [decide_eq_false hnI], rfl⟩
    · have hnI : ¬ InterpP p l := fun h => hO h.2.2.1
      refine Wc.seq ?_
      refine Wc.region rfl ?_
      refine Wl.box 0 rfl rfl rfl (fun b1 => ?_)
      refine Wl.q rfl (Qy.assign rfl) ?_
      refine Wl.q rfl (Qy.assign rfl) ?_
      refine Wl.done ?_
      refine Ar.next ?_
      refine Wc.seq ?_
      refine Wc.region rfl ?_
      refine Wl.q rfl (Qy.move rfl) ?_
      refine Wl.call 1 rfl T.fn27 rfl (c27R _ a c l (by assumption) (by omega) hac hR hl15 hR.2.2.1) (tags_of trivial) (fun v1 G1 Ho1 hle1 hp => ?_)
      obtain ⟨gs1, gr1, gc1, rfl, hga1, hgb1, hgc1, rfl⟩ := hp
      replace hc := hc.up hle1
      replace ho := ho.up hle1
      replace ha := ha.up hle1
      refine Wl.q rfl (Qy.move rfl) ?_
      refine Wl.q rfl (Qy.extract rfl rfl) ?_
      refine Wl.q rfl (Qy.extract rfl rfl) ?_
      refine Wl.q rfl (Qy.assign rfl) ?_
      refine Wl.q rfl (Qy.assign rfl) ?_
      refine Wl.done ?_
      refine Ar.next ?_
      refine Wc.seq ?_
      refine Wc.seq ?_
      refine Wc.region rfl ?_
      refine Wl.q rfl (Qy.move rfl) ?_
      refine Wl.q rfl (Qy.neq rfl rfl) ?_
      refine Wl.done ?_
      refine Ar.next ?_
      refine Wc.condN rfl (by first | assumption | omega) ?_
      refine Wc.skip ?_
      refine Ar.next ?_
      refine Wc.seq ?_
      refine Wc.seq ?_
      refine Wc.region rfl ?_
      refine Wl.q rfl (Qy.loadAll 0 T.agg25 rfl rfl rfl) ?_
      refine Wl.call0 rfl T.fn18 rfl (c18R _ p _ _ _ _ (by assumption) (by assumption) hcl hol hP) ?_
      refine Wl.q rfl (Qy.move rfl) ?_
      refine Wl.q rfl (Qy.extract rfl rfl) ?_
      refine Wl.q rfl (Qy.extract rfl rfl) ?_
      refine Wl.q rfl (Qy.assign rfl) ?_
      refine Wl.done ?_
      refine Ar.next ?_
      refine Wc.seq ?_
      refine Wc.region rfl ?_
      refine Wl.q rfl (Qy.move rfl) ?_
      refine Wl.q rfl (Qy.neq rfl rfl) ?_
      refine Wl.done ?_
      refine Ar.next ?_
      refine Wc.condN rfl (by first | assumption | omega) ?_
      refine Wc.skip ?_
      refine Ar.next ?_
      refine Wc.seq ?_
      refine Wc.seq ?_
      refine Wc.region rfl ?_
      refine Wl.q rfl (Qy.fieldAddr T.fa25_0 rfl) ?_
      refine Wl.q rfl (Qy.load 0 T.one3 rfl rfl rfl) ?_
      refine Wl.q rfl (Qy.move rfl) ?_
      refine Wl.q rfl (Qy.len T.sl26 rfl) ?_
      refine Wl.q rfl (Qy.neq rfl rfl) ?_
      refine Wl.q rfl (Qy.move rfl) ?_
      refine Wl.no 35 rfl (by first | assumption | omega) ?_
      refine Wl.want rfl rfl ?_
      refine Wl.q rfl (Qy.fieldAddr T.fa25_3 rfl) ?_
      refine Wl.want rfl rfl ?_
      refine Wl.q rfl (Qy.load 0 T.one23 rfl rfl rfl) ?_
      refine Wl.want rfl rfl ?_
      refine Wl.q rfl (Qy.len T.sl23 rfl) ?_
      refine Wl.want rfl rfl ?_
      refine Wl.q rfl (Qy.move rfl) ?_
      refine Wl.want rfl rfl ?_
      refine Wl.q rfl (Qy.len T.sl26 rfl) ?_
      refine Wl.want rfl rfl ?_
      refine Wl.q rfl (Qy.neq rfl rfl) ?_
      refine Wl.q rfl (Qy.pick rfl rfl) ?_
      refine Wl.done ?_
      refine Ar.next ?_
      refine Wc.condP rfl (by first | assumption | omega) ?_
      refine Wc.seq ?_
      refine Wc.region rfl ?_
      refine Wl.q rfl (Qy.assign rfl) ?_
      refine Wl.q rfl (Qy.assign rfl) ?_
      refine Wl.done ?_
      refine Ar.next ?_
      refine Wc.ret ?_
      refine Ar.passRet ?_
      refine Ar.out2 (.inr rfl) (Ho := Hp.only _ []) rfl (.tmp rfl) (.tmp rfl) (Hp.sub_only _ _) ?_
      all_goals exact ⟨by rw [decide_eq_false hnI], rfl⟩
  · have hnI : ¬ InterpP p l := fun h => hI h.2.1
    refine Wc.seq ?_
    refine Wc.region rfl ?_
    refine Wl.box 0 rfl rfl rfl (fun b1 => ?_)
    refine Wl.q rfl (Qy.assign rfl) ?_
    refine Wl.q rfl (Qy.assign rfl) ?_
    refine Wl.done ?_
    refine Ar.next ?_
    refine Wc.seq ?_
    refine Wc.region rfl ?_
    refine Wl.q rfl (Qy.move rfl) ?_
    refine Wl.call 1 rfl T.fn27 rfl (c27R _ a c l (by assumption) (by omega) hac hR hl15 hR.2.2.1) (tags_of trivial) (fun v1 G1 Ho1 hle1 hp => ?_)
    obtain ⟨gs1, gr1, gc1, rfl, hga1, hgb1, hgc1, rfl⟩ := hp
    replace hc := hc.up hle1
    replace ho := ho.up hle1
    replace ha := ha.up hle1
    refine Wl.q rfl (Qy.move rfl) ?_
    refine Wl.q rfl (Qy.extract rfl rfl) ?_
    refine Wl.q rfl (Qy.extract rfl rfl) ?_
    refine Wl.q rfl (Qy.assign rfl) ?_
    refine Wl.q rfl (Qy.assign rfl) ?_
    refine Wl.done ?_
    refine Ar.next ?_
    refine Wc.seq ?_
    refine Wc.seq ?_
    refine Wc.region rfl ?_
    refine Wl.q rfl (Qy.move rfl) ?_
    refine Wl.q rfl (Qy.neq rfl rfl) ?_
    refine Wl.done ?_
    refine Ar.next ?_
    refine Wc.condN rfl (by first | assumption | omega) ?_
    refine Wc.skip ?_
    refine Ar.next ?_
    refine Wc.seq ?_
    refine Wc.seq ?_
    refine Wc.region rfl ?_
    refine Wl.q rfl (Qy.loadAll 0 T.agg25 rfl rfl rfl) ?_
    refine Wl.call0 rfl T.fn18 rfl (c18R _ p _ _ _ _ (by assumption) (by assumption) hcl hol hP) ?_
    refine Wl.q rfl (Qy.move rfl) ?_
    refine Wl.q rfl (Qy.extract rfl rfl) ?_
    refine Wl.q rfl (Qy.extract rfl rfl) ?_
    refine Wl.q rfl (Qy.assign rfl) ?_
    refine Wl.done ?_
    refine Ar.next ?_
    refine Wc.seq ?_
    refine Wc.region rfl ?_
    refine Wl.q rfl (Qy.move rfl) ?_
    refine Wl.q rfl (Qy.neq rfl rfl) ?_
    refine Wl.done ?_
    refine Ar.next ?_
    refine Wc.condN rfl (by first | assumption | omega) ?_
    refine Wc.skip ?_
    refine Ar.next ?_
    refine Wc.seq ?_
    refine Wc.seq ?_
    refine Wc.region rfl ?_
    refine Wl.q rfl (Qy.fieldAddr T.fa25_0 rfl) ?_
    refine Wl.q rfl (Qy.load 0 T.one3 rfl rfl rfl) ?_
    refine Wl.q rfl (Qy.move rfl) ?_
    refine Wl.q rfl (Qy.len T.sl26 rfl) ?_
    refine Wl.q rfl (Qy.neq rfl rfl) ?_
    refine Wl.q rfl (Qy.move rfl) ?_
    refine Wl.yes 35 rfl (by first | assumption | omega) ?_
    refine Wl.pass rfl rfl rfl ?_
    refine Wl.pass rfl rfl rfl ?_
    refine Wl.pass rfl rfl rfl ?_
    refine Wl.pass rfl rfl rfl ?_
    refine Wl.pass rfl rfl rfl ?_
    refine Wl.pass rfl rfl rfl ?_
    refine Wl.q rfl (Qy.pick rfl rfl) ?_
    refine Wl.done ?_
    refine Ar.next ?_
    refine Wc.condT rfl ?_
    refine Wc.seq ?_
    refine Wc.region rfl ?_
    refine Wl.q rfl (Qy.assign rfl) ?_
    refine Wl.q rfl (Qy.assign rfl) ?_
    refine Wl.done ?_
    refine Ar.next ?_
    refine Wc.ret ?_
    refine Ar.passRet ?_
    refine Ar.out2 (.inr rfl) (Ho := Hp.only _ []) rfl (.tmp rfl) (.tmp rfl) (Hp.sub_only _ _) ?_
    all_goals exact ⟨by rw [decide_eq_false hnI], rfl⟩
end Go.Proofs.YtbppmiimeccclaaGreat
set_option maxRecDepth 100000
set_option linter.unusedVariables false
set_option linter.unusedSectionVars false
set_option linter.unusedSimpArgs false
namespace Go.Proofs.YtbppmiimeccclaaGreat
open Go Go.Sl
set_option maxHeartbeats 4000000
attribute [local irreducible] RightL RightR gridR InterpP rightP
theorem right_live : RightL [⟨0, 1⟩] := by
  unfold RightL
  refine ⟨by simp, by simp, fun i hi => ?_, ?_⟩
  · have : i = 0 := by simp at hi; omega
    subst this
    show okP ⟨0, 1⟩
    unfold okP near
    simp
  · rintro ⟨j, hj, i, hi, _⟩
    simp at hj; omega
theorem c26L (G : Imm) (a : Option Addr) (c : Nat) (ha : Arr G a [(⟨0, 1⟩ : R2)]) (hc : 1 ≤ c) : Does Tryz.prog 26 [.slice a [(⟨0, 1⟩ : R2)].length c] G [] (fun v G' Ho => v = .bool true ∧ G' = G ∧ Ho = []) :=
  c26Y G a c _ ha (by simp) (by simpa using hc) right_live
theorem c6 (G : Imm) : Does Tryz.prog 6 [] G [] (fun v G' Ho => v = .bool true ∧ G' = G ∧ Ho = []) := by
  refine Does.enter Tryz.func6 rfl Tryz.ntmps6 rfl (fun w => ?_)
  refine Wc.seq ?_
  refine Wc.region rfl ?_
  refine Wl.q rfl (Qy.assign rfl) ?_
  refine Wl.done ?_
  refine Ar.next ?_
  refine Wc.seq ?_
  refine Wc.region rfl ?_
  refine Wl.q rfl (Qy.build (cs := [_, _]) T.st59 rfl rfl rfl) ?_
  refine Wl.lit (α := R2) 0 [⟨0, 1⟩] rfl T.sl26 T.el59 rfl rfl rfl rfl rfl (fun b1 => ?_)
  refine Wl.callB 1 rfl T.fn26 rfl (fun Gx hGx hgx => (c26L _ _ _ (by first | exact Arr.up (by assumption) hGx | exact Arr.nil _ | exact Arr.own hgx 0 rfl (by first | assumption | exact OwnA.made (by simp [maxLen]))) (by omega))) (fun v1 Gx1 G1 Ho1 hlx1 hp => ?_)
  obtain ⟨rfl, rfl, rfl⟩ := hp
  refine Wl.q rfl (Qy.assign rfl) ?_
  refine Wl.done ?_
  refine Ar.next ?_
  refine Wc.ret ?_
  refine Ar.out1 (.inr rfl) (Ho := []) rfl (.tmp rfl) trivial ?_
  exact ⟨rfl, rfl, rfl⟩
theorem c6D (G : Imm) : Does Tryz.prog 6 [] G [] (fun v G' Ho => v = .bool (decide (1 = 1)) ∧ G' = G ∧ Ho = []) := c6 G
theorem c8Y (G : Imm) (a : Option Addr) (c : Nat) (l : List R2) (ha : Arr G a l) (h1 : l.length ≤ 1048576) (hc : l.length ≤ c) (hR : RightL l) : Does Tryz.prog 8 [.slice a l.length c] G [] (fun v G' Ho => v = .bool true ∧ G' = G ∧ Ho = []) :=
  (c8 G a c l ha h1 hc).mono fun v G' Ho _ ⟨b, e1, e2, e3, e4⟩ => ⟨by rw [e1, e2.2 ((right_iff l).1 hR)], e3, e4⟩
theorem c8N (G : Imm) (a : Option Addr) (c : Nat) (l : List R2) (ha : Arr G a l) (h1 : l.length ≤ 1048576) (hc : l.length ≤ c) (hR : ¬ RightL l) : Does Tryz.prog 8 [.slice a l.length c] G [] (fun v G' Ho => v = .bool false ∧ G' = G ∧ Ho = []) :=
  (c8 G a c l ha h1 hc).mono fun v G' Ho _ ⟨b, e1, e2, e3, e4⟩ => ⟨by rw [e1]; congr 1; cases b; { rfl }; exact absurd ((right_iff l).2 (e2.1 rfl)) hR, e3, e4⟩
section
variable (G : Imm) (p : PV) (ac ao : Option Addr) (cc co : Nat) (a : Option Addr) (c : Nat) (l : List R2) (hc : Arr G ac p.code) (ho : Arr G ao p.outs) (hcl : p.code.length ≤ 1099511627776) (hol : p.outs.length ≤ 1099511627776) (ha : Arr G a l) (hac : l.length ≤ c) (hl : l.length ≤ 1048576)
include hc ho hcl hol
theorem c9Y (hP : rightP p = true) : Does Tryz.prog 9 [.agg #[.int .i64 p.ins, .int .i64 p.regs, .slice ac p.code.length cc, .slice ao p.outs.length co]] G [] (fun v G' Ho => v = .bool true ∧ G' = G ∧ Ho = []) := by
  have h := c9 G p ac ao cc co hc ho hcl hol
  rw [decide_eq_true hP] at h; exact h
theorem c9N (hP : ¬ rightP p = true) : Does Tryz.prog 9 [.agg #[.int .i64 p.ins, .int .i64 p.regs, .slice ac p.code.length cc, .slice ao p.outs.length co]] G [] (fun v G' Ho => v = .bool false ∧ G' = G ∧ Ho = []) := by
  have h := c9 G p ac ao cc co hc ho hcl hol
  rw [decide_eq_false hP] at h; exact h
include ha hac hl
theorem c7T (hR : RightL l) (hP : rightP p = true) (hI : InterpP p l) : Does Tryz.prog 7 [.agg #[.int .i64 p.ins, .int .i64 p.regs, .slice ac p.code.length cc, .slice ao p.outs.length co], .slice a l.length c] G [] (fun v G' Ho => v = .tuple #[.bool true, .int .i64 0] ∧ Ho = []) := by
  have h := c7Y G p ac ao cc co a c l hc ho hcl hol ha hac hl hR hP
  rw [decide_eq_true hI] at h; exact h
theorem c7F (hR : RightL l) (hP : rightP p = true) (hI : ¬ InterpP p l) : Does Tryz.prog 7 [.agg #[.int .i64 p.ins, .int .i64 p.regs, .slice ac p.code.length cc, .slice ao p.outs.length co], .slice a l.length c] G [] (fun v G' Ho => v = .tuple #[.bool false, .int .i64 0] ∧ Ho = []) := by
  have h := c7Y G p ac ao cc co a c l hc ho hcl hol ha hac hl hR hP
  rw [decide_eq_false hI] at h; exact h
theorem c10T (hcl2 : p.code.length ≤ 16384) (h1 : 1 ≤ l.length) (h15 : l.length ≤ 15) (hr2 : ∀ i, i < l.length → okP (l[i]?.getD default)) (hI : InterpP p l) : Does Tryz.prog 10 [.agg #[.int .i64 p.ins, .int .i64 p.regs, .slice ac p.code.length cc, .slice ao p.outs.length co], .slice a l.length c] G [] (fun v G' Ho => v = .bool true ∧ Ho = []) := by
  have h := c10 G p ac ao a cc co c l hc ho ha hcl2 hol hac h1 h15 hr2
  rw [decide_eq_true hI] at h; exact h
theorem c10F (hcl2 : p.code.length ≤ 16384) (h1 : 1 ≤ l.length) (h15 : l.length ≤ 15) (hr2 : ∀ i, i < l.length → okP (l[i]?.getD default)) (hI : ¬ InterpP p l) : Does Tryz.prog 10 [.agg #[.int .i64 p.ins, .int .i64 p.regs, .slice ac p.code.length cc, .slice ao p.outs.length co], .slice a l.length c] G [] (fun v G' Ho => v = .bool false ∧ Ho = []) := by
  have h := c10 G p ac ao a cc co c l hc ho ha hcl2 hol hac h1 h15 hr2
  rw [decide_eq_false hI] at h; exact h
end
/-- the law's answer -/
def LawTrue (v : Value) (G' : Imm) (Ho : Hp) : Prop := v = .bool true ∧ Ho = []
section
variable (G : Imm) (p : PV) (ac ao : Option Addr) (cc co : Nat) (a : Option Addr) (c : Nat) (l : List R2) (hc : Arr G ac p.code) (ho : Arr G ao p.outs) (hcl : p.code.length ≤ 1048576) (hol : p.outs.length ≤ 1048576) (ha : Arr G a l) (hac : l.length ≤ c) (hl : l.length ≤ 1048576)
include hc ho hcl hol ha hac hl
theorem c3L (hbig : 300 < l.length ∨ 400 < p.code.length ∨ 400 < p.outs.length) : Does Tryz.prog 3 [.agg #[.int .i64 p.ins, .int .i64 p.regs, .slice ac p.code.length cc, .slice ao p.outs.length co], .slice a l.length c] G [] LawTrue := by
  refine Does.enter Tryz.func3 rfl Tryz.ntmps3 rfl (fun w => ?_)
  by_cases h1 : 300 < l.length
  · refine Wc.seq ?_
    refine Wc.region rfl ?_
    refine Wl.box 0 rfl rfl rfl (fun b1 => ?_)
    refine Wl.q rfl (Qy.assign rfl) ?_
    refine Wl.done ?_
    refine Ar.next ?_
    refine Wc.seq ?_
    refine Wc.seq ?_
    refine Wc.region rfl ?_
    refine Wl.call0 rfl T.fn6 rfl (c6 _) ?_
    refine Wl.q rfl (Qy.not rfl) ?_
    refine Wl.done ?_
    refine Ar.next ?_
    refine Wc.condF rfl ?_
    refine Wc.skip ?_
    refine Ar.next ?_
    refine Wc.seq ?_
    refine Wc.seq ?_
    refine Wc.region rfl ?_
    refine Wl.q rfl (Qy.move rfl) ?_
    refine Wl.q rfl (Qy.len T.sl26 rfl) ?_
    refine Wl.q rfl (Qy.gtr rfl rfl) ?_
    refine Wl.q rfl (Qy.move rfl) ?_
    refine Wl.yes 14 rfl (by first | assumption | omega) ?_
    refine Wl.pass rfl rfl rfl ?_
    refine Wl.pass rfl rfl rfl ?_
    refine Wl.pass rfl rfl rfl ?_
    refine Wl.pass rfl rfl rfl ?_
    refine Wl.q rfl (Qy.pick rfl rfl) ?_
    refine Wl.q rfl (Qy.move rfl) ?_
    refine Wl.pass rfl rfl rfl ?_
    refine Wl.pass rfl rfl rfl ?_
    refine Wl.pass rfl rfl rfl ?_
    refine Wl.pass rfl rfl rfl ?_
    refine Wl.q rfl (Qy.pick rfl rfl) ?_
    refine Wl.done ?_
    refine Ar.next ?_
    refine Wc.condT rfl ?_
    refine Wc.seq ?_
    refine Wc.region rfl ?_
    refine Wl.q rfl (Qy.assign rfl) ?_
    refine Wl.done ?_
    refine Ar.next ?_
    refine Wc.ret ?_
    refine Ar.passRet ?_
    refine Ar.out1 (.inr rfl) (Ho := Hp.only _ []) rfl (.tmp rfl) (Hp.sub_only _ _) ?_
    all_goals exact ⟨rfl, rfl⟩
  by_cases h2 : 400 < p.code.length
  · refine Wc.seq ?_
    refine Wc.region rfl ?_
    refine Wl.box 0 rfl rfl rfl (fun b1 => ?_)
    refine Wl.q rfl (Qy.assign rfl) ?_
    refine Wl.done ?_
    refine Ar.next ?_
    refine Wc.seq ?_
    refine Wc.seq ?_
    refine Wc.region rfl ?_
    refine Wl.call0 rfl T.fn6 rfl (c6 _) ?_
    refine Wl.q rfl (Qy.not rfl) ?_
    refine Wl.done ?_
    refine Ar.next ?_
    refine Wc.condF rfl ?_
    refine Wc.skip ?_
    refine Ar.next ?_
    refine Wc.seq ?_
    refine Wc.seq ?_
    refine Wc.region rfl ?_
    refine Wl.q rfl (Qy.move rfl) ?_
    refine Wl.q rfl (Qy.len T.sl26 rfl) ?_
    refine Wl.q rfl (Qy.gtr rfl rfl) ?_
    refine Wl.q rfl (Qy.move rfl) ?_
    refine Wl.no 14 rfl (by first | assumption | omega) ?_
    refine Wl.want rfl rfl ?_
    refine Wl.q rfl (Qy.fieldAddr T.fa25_2 rfl) ?_
    refine Wl.want rfl rfl ?_
    refine Wl.q rfl (Qy.load 0 T.one22 rfl rfl rfl) ?_
    refine Wl.want rfl rfl ?_
    refine Wl.q rfl (Qy.len T.sl22 rfl) ?_
    refine Wl.want rfl rfl ?_
    refine Wl.q rfl (Qy.gtr rfl rfl) ?_
    refine Wl.q rfl (Qy.pick rfl rfl) ?_
    refine Wl.q rfl (Qy.move rfl) ?_
    refine Wl.yes 20 rfl (by first | assumption | omega) ?_
    refine Wl.pass rfl rfl rfl ?_
    refine Wl.pass rfl rfl rfl ?_
    refine Wl.pass rfl rfl rfl ?_
    refine Wl.pass rfl rfl rfl ?_
    refine Wl.q rfl (Qy.pick rfl rfl) ?_
    refine Wl.done ?_
    refine Ar.next ?_
    refine Wc.condT rfl ?_
    refine Wc.seq ?_
    refine Wc.region rfl ?_
    refine Wl.q rfl (Qy.assign rfl) ?_
    refine Wl.done ?_
    refine Ar.next ?_
    refine Wc.ret ?_
    refine Ar.passRet ?_
    refine Ar.out1 (.inr rfl) (Ho := Hp.only _ []) rfl (.tmp rfl) (Hp.sub_only _ _) ?_
    all_goals exact ⟨rfl, rfl⟩
  have h3 : 400 < p.outs.length := by omega
  refine Wc.seq ?_
  refine Wc.region rfl ?_
  refine Wl.box 0 rfl rfl rfl (fun b1 => ?_)
  refine Wl.q rfl (Qy.assign rfl) ?_
  refine Wl.done ?_
  refine Ar.next ?_
  refine Wc.seq ?_
  refine Wc.seq ?_
  refine Wc.region rfl ?_
  refine Wl.call0 rfl T.fn6 rfl (c6 _) ?_
  refine Wl.q rfl (Qy.not rfl) ?_
  refine Wl.done ?_
  refine Ar.next ?_
  refine Wc.condF rfl ?_
  refine Wc.skip ?_
  refine Ar.next ?_
  refine Wc.seq ?_
  refine Wc.seq ?_
  refine Wc.region rfl ?_
  refine Wl.q rfl (Qy.move rfl) ?_
  refine Wl.q rfl (Qy.len T.sl26 rfl) ?_
  refine Wl.q rfl (Qy.gtr rfl rfl) ?_
  refine Wl.q rfl (Qy.move rfl) ?_
  refine Wl.no 14 rfl (by first | assumption | omega) ?_
  refine Wl.want rfl rfl ?_
  refine Wl.q rfl (Qy.fieldAddr T.fa25_2 rfl) ?_
  refine Wl.want rfl rfl ?_
  refine Wl.q rfl (Qy.load 0 T.one22 rfl rfl rfl) ?_
  refine Wl.want rfl rfl ?_
  refine Wl.q rfl (Qy.len T.sl22 rfl) ?_
  refine Wl.want rfl rfl ?_
  refine Wl.q rfl (Qy.gtr rfl rfl) ?_
  refine Wl.q rfl (Qy.pick rfl rfl) ?_
  refine Wl.q rfl (Qy.move rfl) ?_
  refine Wl.no 20 rfl (by first | assumption | omega) ?_
  refine Wl.want rfl rfl ?_
  refine Wl.q rfl (Qy.fieldAddr T.fa25_3 rfl) ?_
  refine Wl.want rfl rfl ?_
  refine Wl.q rfl (Qy.load 0 T.one23 rfl rfl rfl) ?_
  refine Wl.want rfl rfl ?_
  refine Wl.q rfl (Qy.len T.sl23 rfl) ?_
  refine Wl.want rfl rfl ?_
  refine Wl.q rfl (Qy.gtr rfl rfl) ?_
  refine Wl.q rfl (Qy.pick rfl rfl) ?_
  refine Wl.done ?_
  refine Ar.next ?_
  refine Wc.condP rfl (by first | assumption | omega) ?_
  refine Wc.seq ?_
  refine Wc.region rfl ?_
  refine Wl.q rfl (Qy.assign rfl) ?_
  refine Wl.done ?_
  refine Ar.next ?_
  refine Wc.ret ?_
  refine Ar.passRet ?_
  refine Ar.out1 (.inr rfl) (Ho := Hp.only _ []) rfl (.tmp rfl) (Hp.sub_only _ _) ?_
  all_goals exact ⟨rfl, rfl⟩
theorem c3W (g1 : ¬ 300 < l.length) (g2 : ¬ 400 < p.code.length) (g3 : ¬ 400 < p.outs.length) (hR : ¬ RightL l) : Does Tryz.prog 3 [.agg #[.int .i64 p.ins, .int .i64 p.regs, .slice ac p.code.length cc, .slice ao p.outs.length co], .slice a l.length c] G [] LawTrue := by
  refine Does.enter Tryz.func3 rfl Tryz.ntmps3 rfl (fun w => ?_)
  by_cases hP : rightP p = true
  · skip
    refine Wc.seq ?_
    refine Wc.region rfl ?_
    refine Wl.box 0 rfl rfl rfl (fun b1 => ?_)
    refine Wl.q rfl (Qy.assign rfl) ?_
    refine Wl.done ?_
    refine Ar.next ?_
    refine Wc.seq ?_
    refine Wc.seq ?_
    refine Wc.region rfl ?_
    refine Wl.call0 rfl T.fn6 rfl (c6 _) ?_
    refine Wl.q rfl (Qy.not rfl) ?_
    refine Wl.done ?_
    refine Ar.next ?_
    refine Wc.condF rfl ?_
    refine Wc.skip ?_
    refine Ar.next ?_
    refine Wc.seq ?_
    refine Wc.seq ?_
    refine Wc.region rfl ?_
    refine Wl.q rfl (Qy.move rfl) ?_
    refine Wl.q rfl (Qy.len T.sl26 rfl) ?_
    refine Wl.q rfl (Qy.gtr rfl rfl) ?_
    refine Wl.q rfl (Qy.move rfl) ?_
    refine Wl.no 14 rfl (by first | assumption | omega) ?_
    refine Wl.want rfl rfl ?_
    refine Wl.q rfl (Qy.fieldAddr T.fa25_2 rfl) ?_
    refine Wl.want rfl rfl ?_
    refine Wl.q rfl (Qy.load 0 T.one22 rfl rfl rfl) ?_
    refine Wl.want rfl rfl ?_
    refine Wl.q rfl (Qy.len T.sl22 rfl) ?_
    refine Wl.want rfl rfl ?_
    refine Wl.q rfl (Qy.gtr rfl rfl) ?_
    refine Wl.q rfl (Qy.pick rfl rfl) ?_
    refine Wl.q rfl (Qy.move rfl) ?_
    refine Wl.no 20 rfl (by first | assumption | omega) ?_
    refine Wl.want rfl rfl ?_
    refine Wl.q rfl (Qy.fieldAddr T.fa25_3 rfl) ?_
    refine Wl.want rfl rfl ?_
    refine Wl.q rfl (Qy.load 0 T.one23 rfl rfl rfl) ?_
    refine Wl.want rfl rfl ?_
    refine Wl.q rfl (Qy.len T.sl23 rfl) ?_
    refine Wl.want rfl rfl ?_
    refine Wl.q rfl (Qy.gtr rfl rfl) ?_
    refine Wl.q rfl (Qy.pick rfl rfl) ?_
    refine Wl.done ?_
    refine Ar.next ?_
    refine Wc.condN rfl (by first | assumption | omega) ?_
    refine Wc.skip ?_
    refine Ar.next ?_
    refine Wc.seq ?_
    refine Wc.region rfl ?_
    refine Wl.q rfl (Qy.loadAll 0 T.agg25 rfl rfl rfl) ?_
    refine Wl.q rfl (Qy.move rfl) ?_
    refine Wl.call 1 rfl T.fn7 rfl (c7W _ p _ _ _ _ _ _ l (by assumption) hac hl hR) (tags_of trivial) (fun v1 G1 Ho1 hle1 hp => ?_)
    obtain ⟨rfl, rfl⟩ := hp
    replace hc := hc.up hle1
    replace ho := ho.up hle1
    replace ha := ha.up hle1
    refine Wl.q rfl (Qy.move rfl) ?_
    refine Wl.q rfl (Qy.extract rfl rfl) ?_
    refine Wl.q rfl (Qy.extract rfl rfl) ?_
    refine Wl.q rfl (Qy.assign rfl) ?_
    refine Wl.q rfl (Qy.assign rfl) ?_
    refine Wl.done ?_
    refine Ar.next ?_
    refine Wc.seq ?_
    refine Wc.region rfl ?_
    refine Wl.q rfl (Qy.move rfl) ?_
    refine Wl.call0 rfl T.fn8 rfl (c8N _ _ _ l (by assumption) hl hac hR) ?_
    refine Wl.q rfl (Qy.assign rfl) ?_
    refine Wl.done ?_
    refine Ar.next ?_
    refine Wc.seq ?_
    refine Wc.region rfl ?_
    refine Wl.q rfl (Qy.loadAll 0 T.agg25 rfl rfl rfl) ?_
    refine Wl.call0 rfl T.fn9 rfl (c9Y _ p _ _ _ _ (by assumption) (by assumption) (by omega) (by omega) hP) ?_
    refine Wl.q rfl (Qy.assign rfl) ?_
    refine Wl.done ?_
    refine Ar.next ?_
    refine Wc.seq ?_
    refine Wc.seq ?_
    refine Wc.region rfl ?_
    refine Wl.q rfl (Qy.move rfl) ?_
    refine Wl.q rfl (Qy.not rfl) ?_
    refine Wl.q rfl (Qy.move rfl) ?_
    refine Wl.pass rfl rfl rfl ?_
    refine Wl.pass rfl rfl rfl ?_
    refine Wl.q rfl (Qy.pick rfl rfl) ?_
    refine Wl.done ?_
    refine Ar.next ?_
    refine Wc.condT rfl ?_
    refine Wc.seq ?_
    refine Wc.region rfl ?_
    refine Wl.q rfl (Qy.move rfl) ?_
    refine Wl.q rfl (Qy.not rfl) ?_
    refine Wl.q rfl (Qy.move rfl) ?_
    refine Wl.want rfl rfl ?_
    refine Wl.q rfl (Qy.move rfl) ?_
    refine Wl.want rfl rfl ?_
    refine Wl.q rfl (Qy.move rfl) ?_
    refine Wl.pass rfl rfl rfl ?_
    refine Wl.pass rfl rfl rfl ?_
    refine Wl.want rfl rfl ?_
    refine Wl.q rfl (Qy.pick rfl rfl) ?_
    refine Wl.want rfl rfl ?_
    refine Wl.q rfl (Qy.move rfl) ?_
    refine Wl.want rfl rfl ?_
    refine Wl.q rfl (Qy.move rfl) ?_
    refine Wl.want rfl rfl ?_
    refine Wl.q rfl (Qy.not rfl) ?_
    refine Wl.want rfl rfl ?_
    refine Wl.q rfl (Qy.move rfl) ?_
    refine Wl.want rfl rfl ?_
    refine Wl.q rfl (Qy.move rfl) ?_
    refine Wl.want rfl rfl ?_
    refine Wl.q rfl (Qy.eql rfl rfl) ?_
    refine Wl.want rfl rfl ?_
    refine Wl.q rfl (Qy.pick rfl rfl) ?_
    refine Wl.want rfl rfl ?_
    refine Wl.q rfl (Qy.pick rfl rfl) ?_
    refine Wl.q rfl (Qy.pick rfl rfl) ?_
    refine Wl.q rfl (Qy.move rfl) ?_
    refine Wl.yes 59 rfl (by first | assumption | omega) ?_
    refine Wl.want rfl rfl ?_
    refine Wl.call0 rfl T.fn6 rfl (c6 _) ?_
    refine Wl.q rfl (Qy.pick rfl rfl) ?_
    refine Wl.q rfl (Qy.assign rfl) ?_
    refine Wl.done ?_
    refine Ar.next ?_
    refine Wc.ret ?_
    refine Ar.passRet ?_
    refine Ar.out1 (.inr rfl) (Ho := Hp.only _ []) rfl (.tmp rfl) (Hp.sub_only _ _) ?_
    all_goals exact ⟨rfl, rfl⟩
  · skip
    refine Wc.seq ?_
    refine Wc.region rfl ?_
    refine Wl.box 0 rfl rfl rfl (fun b1 => ?_)
    refine Wl.q rfl (Qy.assign rfl) ?_
    refine Wl.done ?_
    refine Ar.next ?_
    refine Wc.seq ?_
    refine Wc.seq ?_
    refine Wc.region rfl ?_
    refine Wl.call0 rfl T.fn6 rfl (c6 _) ?_
    refine Wl.q rfl (Qy.not rfl) ?_
    refine Wl.done ?_
    refine Ar.next ?_
    refine Wc.condF rfl ?_
    refine Wc.skip ?_
    refine Ar.next ?_
    refine Wc.seq ?_
    refine Wc.seq ?_
    refine Wc.region rfl ?_
    refine Wl.q rfl (Qy.move rfl) ?_
    refine Wl.q rfl (Qy.len T.sl26 rfl) ?_
    refine Wl.q rfl (Qy.gtr rfl rfl) ?_
    refine Wl.q rfl (Qy.move rfl) ?_
    refine Wl.no 14 rfl (by first | assumption | omega) ?_
    refine Wl.want rfl rfl ?_
    refine Wl.q rfl (Qy.fieldAddr T.fa25_2 rfl) ?_
    refine Wl.want rfl rfl ?_
    refine Wl.q rfl (Qy.load 0 T.one22 rfl rfl rfl) ?_
    refine Wl.want rfl rfl ?_
    refine Wl.q rfl (Qy.len T.sl22 rfl) ?_
    refine Wl.want rfl rfl ?_
    refine Wl.q rfl (Qy.gtr rfl rfl) ?_
    refine Wl.q rfl (Qy.pick rfl rfl) ?_
    refine Wl.q rfl (Qy.move rfl) ?_
    refine Wl.no 20 rfl (by first | assumption | omega) ?_
    refine Wl.want rfl rfl ?_
    refine Wl.q rfl (Qy.fieldAddr T.fa25_3 rfl) ?_
    refine Wl.want rfl rfl ?_
    refine Wl.q rfl (Qy.load 0 T.one23 rfl rfl rfl) ?_
    refine Wl.want rfl rfl ?_
    refine Wl.q rfl (Qy.len T.sl23 rfl) ?_
    refine Wl.want rfl rfl ?_
    refine Wl.q rfl (Qy.gtr rfl rfl) ?_
    refine Wl.q rfl (Qy.pick rfl rfl) ?_
    refine Wl.done ?_
    refine Ar.next ?_
    refine Wc.condN rfl (by first | assumption | omega) ?_
    refine Wc.skip ?_
    refine Ar.next ?_
    refine Wc.seq ?_
    refine Wc.region rfl ?_
    refine Wl.q rfl (Qy.loadAll 0 T.agg25 rfl rfl rfl) ?_
    refine Wl.q rfl (Qy.move rfl) ?_
    refine Wl.call 1 rfl T.fn7 rfl (c7W _ p _ _ _ _ _ _ l (by assumption) hac hl hR) (tags_of trivial) (fun v1 G1 Ho1 hle1 hp => ?_)
    obtain ⟨rfl, rfl⟩ := hp
    replace hc := hc.up hle1
    replace ho := ho.up hle1
    replace ha := ha.up hle1
    refine Wl.q rfl (Qy.move rfl) ?_
    refine Wl.q rfl (Qy.extract rfl rfl) ?_
    refine Wl.q rfl (Qy.extract rfl rfl) ?_
    refine Wl.q rfl (Qy.assign rfl) ?_
    refine Wl.q rfl (Qy.assign rfl) ?_
    refine Wl.done ?_
    refine Ar.next ?_
    refine Wc.seq ?_
    refine Wc.region rfl ?_
    refine Wl.q rfl (Qy.move rfl) ?_
    refine Wl.call0 rfl T.fn8 rfl (c8N _ _ _ l (by assumption) hl hac hR) ?_
    refine Wl.q rfl (Qy.assign rfl) ?_
    refine Wl.done ?_
    refine Ar.next ?_
    refine Wc.seq ?_
    refine Wc.region rfl ?_
    refine Wl.q rfl (Qy.loadAll 0 T.agg25 rfl rfl rfl) ?_
    refine Wl.call0 rfl T.fn9 rfl (c9N _ p _ _ _ _ (by assumption) (by assumption) (by omega) (by omega) hP) ?_
    refine Wl.q rfl (Qy.assign rfl) ?_
    refine Wl.done ?_
    refine Ar.next ?_
    refine Wc.seq ?_
    refine Wc.seq ?_
    refine Wc.region rfl ?_
    refine Wl.q rfl (Qy.move rfl) ?_
    refine Wl.q rfl (Qy.not rfl) ?_
    refine Wl.q rfl (Qy.move rfl) ?_
    refine Wl.pass rfl rfl rfl ?_
    refine Wl.pass rfl rfl rfl ?_
    refine Wl.q rfl (Qy.pick rfl rfl) ?_
    refine Wl.done ?_
    refine Ar.next ?_
    refine Wc.condT rfl ?_
    refine Wc.seq ?_
    refine Wc.region rfl ?_
    refine Wl.q rfl (Qy.move rfl) ?_
    refine Wl.q rfl (Qy.not rfl) ?_
    refine Wl.q rfl (Qy.move rfl) ?_
    refine Wl.want rfl rfl ?_
    refine Wl.q rfl (Qy.move rfl) ?_
    refine Wl.want rfl rfl ?_
    refine Wl.q rfl (Qy.move rfl) ?_
    refine Wl.pass rfl rfl rfl ?_
    refine Wl.pass rfl rfl rfl ?_
    refine Wl.want rfl rfl ?_
    refine Wl.q rfl (Qy.pick rfl rfl) ?_
    refine Wl.want rfl rfl ?_
    refine Wl.q rfl (Qy.move rfl) ?_
    refine Wl.want rfl rfl ?_
    refine Wl.q rfl (Qy.move rfl) ?_
    refine Wl.want rfl rfl ?_
    refine Wl.q rfl (Qy.not rfl) ?_
    refine Wl.want rfl rfl ?_
    refine Wl.q rfl (Qy.move rfl) ?_
    refine Wl.want rfl rfl ?_
    refine Wl.q rfl (Qy.move rfl) ?_
    refine Wl.want rfl rfl ?_
    refine Wl.q rfl (Qy.eql rfl rfl) ?_
    refine Wl.want rfl rfl ?_
    refine Wl.q rfl (Qy.pick rfl rfl) ?_
    refine Wl.want rfl rfl ?_
    refine Wl.q rfl (Qy.pick rfl rfl) ?_
    refine Wl.q rfl (Qy.pick rfl rfl) ?_
    refine Wl.q rfl (Qy.move rfl) ?_
    refine Wl.yes 59 rfl (by first | assumption | omega) ?_
    refine Wl.want rfl rfl ?_
    refine Wl.call0 rfl T.fn6 rfl (c6 _) ?_
    refine Wl.q rfl (Qy.pick rfl rfl) ?_
    refine Wl.q rfl (Qy.assign rfl) ?_
    refine Wl.done ?_
    refine Ar.next ?_
    refine Wc.ret ?_
    refine Ar.passRet ?_
    refine Ar.out1 (.inr rfl) (Ho := Hp.only _ []) rfl (.tmp rfl) (Hp.sub_only _ _) ?_
    all_goals exact ⟨rfl, rfl⟩
theorem c3P (g1 : ¬ 300 < l.length) (g2 : ¬ 400 < p.code.length) (g3 : ¬ 400 < p.outs.length) (hR : RightL l) (hP : ¬ rightP p = true) : Does Tryz.prog 3 [.agg #[.int .i64 p.ins, .int .i64 p.regs, .slice ac p.code.length cc, .slice ao p.outs.length co], .slice a l.length c] G [] LawTrue := by
  refine Does.enter Tryz.func3 rfl Tryz.ntmps3 rfl (fun w => ?_)
  refine Wc.seq ?_
  refine Wc.region rfl ?_
  refine Wl.box 0 rfl rfl rfl (fun b1 => ?_)
  refine Wl.q rfl (Qy.assign rfl) ?_
  refine Wl.done ?_
  refine Ar.next ?_
  refine Wc.seq ?_
  refine Wc.seq ?_
  refine Wc.region rfl ?_
  refine Wl.call0 rfl T.fn6 rfl (c6 _) ?_
  refine Wl.q rfl (Qy.not rfl) ?_
  refine Wl.done ?_
  refine Ar.next ?_
  refine Wc.condF rfl ?_
  refine Wc.skip ?_
  refine Ar.next ?_
  refine Wc.seq ?_
  refine Wc.seq ?_
  refine Wc.region rfl ?_
  refine Wl.q rfl (Qy.move rfl) ?_
  refine Wl.q rfl (Qy.len T.sl26 rfl) ?_
  refine Wl.q rfl (Qy.gtr rfl rfl) ?_
  refine Wl.q rfl (Qy.move rfl) ?_
  refine Wl.no 14 rfl (by first | assumption | omega) ?_
  refine Wl.want rfl rfl ?_
  refine Wl.q rfl (Qy.fieldAddr T.fa25_2 rfl) ?_
  refine Wl.want rfl rfl ?_
  refine Wl.q rfl (Qy.load 0 T.one22 rfl rfl rfl) ?_
  refine Wl.want rfl rfl ?_
  refine Wl.q rfl (Qy.len T.sl22 rfl) ?_
  refine Wl.want rfl rfl ?_
  refine Wl.q rfl (Qy.gtr rfl rfl) ?_
  refine Wl.q rfl (Qy.pick rfl rfl) ?_
  refine Wl.q rfl (Qy.move rfl) ?_
  refine Wl.no 20 rfl (by first | assumption | omega) ?_
  refine Wl.want rfl rfl ?_
  refine Wl.q rfl (Qy.fieldAddr T.fa25_3 rfl) ?_
  refine Wl.want rfl rfl ?_
  refine Wl.q rfl (Qy.load 0 T.one23 rfl rfl rfl) ?_
  refine Wl.want rfl rfl ?_
  refine Wl.q rfl (Qy.len T.sl23 rfl) ?_
  refine Wl.want rfl rfl ?_
  refine Wl.q rfl (Qy.gtr rfl rfl) ?_
  refine Wl.q rfl (Qy.pick rfl rfl) ?_
  refine Wl.done ?_
  refine Ar.next ?_
  refine Wc.condN rfl (by first | assumption | omega) ?_
  refine Wc.skip ?_
  refine Ar.next ?_
  refine Wc.seq ?_
  refine Wc.region rfl ?_
  refine Wl.q rfl (Qy.loadAll 0 T.agg25 rfl rfl rfl) ?_
  refine Wl.q rfl (Qy.move rfl) ?_
  refine Wl.call 1 rfl T.fn7 rfl (c7P _ p _ _ _ _ _ _ l (by assumption) (by assumption) (by omega) (by omega) (by assumption) hac hl hR hP) (tags_of trivial) (fun v1 G1 Ho1 hle1 hp => ?_)
  obtain ⟨rfl, rfl⟩ := hp
  replace hc := hc.up hle1
  replace ho := ho.up hle1
  replace ha := ha.up hle1
  refine Wl.q rfl (Qy.move rfl) ?_
  refine Wl.q rfl (Qy.extract rfl rfl) ?_
  refine Wl.q rfl (Qy.extract rfl rfl) ?_
  refine Wl.q rfl (Qy.assign rfl) ?_
  refine Wl.q rfl (Qy.assign rfl) ?_
  refine Wl.done ?_
  refine Ar.next ?_
  refine Wc.seq ?_
  refine Wc.region rfl ?_
  refine Wl.q rfl (Qy.move rfl) ?_
  refine Wl.call0 rfl T.fn8 rfl (c8Y _ _ _ l (by assumption) hl hac hR) ?_
  refine Wl.q rfl (Qy.assign rfl) ?_
  refine Wl.done ?_
  refine Ar.next ?_
  refine Wc.seq ?_
  refine Wc.region rfl ?_
  refine Wl.q rfl (Qy.loadAll 0 T.agg25 rfl rfl rfl) ?_
  refine Wl.call0 rfl T.fn9 rfl (c9N _ p _ _ _ _ (by assumption) (by assumption) (by omega) (by omega) hP) ?_
  refine Wl.q rfl (Qy.assign rfl) ?_
  refine Wl.done ?_
  refine Ar.next ?_
  refine Wc.seq ?_
  refine Wc.seq ?_
  refine Wc.region rfl ?_
  refine Wl.q rfl (Qy.move rfl) ?_
  refine Wl.q rfl (Qy.not rfl) ?_
  refine Wl.q rfl (Qy.move rfl) ?_
  refine Wl.want rfl rfl ?_
  refine Wl.q rfl (Qy.move rfl) ?_
  refine Wl.want rfl rfl ?_
  refine Wl.q rfl (Qy.not rfl) ?_
  refine Wl.q rfl (Qy.pick rfl rfl) ?_
  refine Wl.done ?_
  refine Ar.next ?_
  refine Wc.condT rfl ?_
  refine Wc.seq ?_
  refine Wc.region rfl ?_
  refine Wl.q rfl (Qy.move rfl) ?_
  refine Wl.q rfl (Qy.not rfl) ?_
  refine Wl.q rfl (Qy.move rfl) ?_
  refine Wl.want rfl rfl ?_
  refine Wl.q rfl (Qy.move rfl) ?_
  refine Wl.want rfl rfl ?_
  refine Wl.q rfl (Qy.move rfl) ?_
  refine Wl.want rfl rfl ?_
  refine Wl.q rfl (Qy.move rfl) ?_
  refine Wl.want rfl rfl ?_
  refine Wl.q rfl (Qy.eql rfl rfl) ?_
  refine Wl.want rfl rfl ?_
  refine Wl.q rfl (Qy.pick rfl rfl) ?_
  refine Wl.want rfl rfl ?_
  refine Wl.q rfl (Qy.move rfl) ?_
  refine Wl.yes 50 rfl (by first | assumption | omega) ?_
  refine Wl.pass rfl rfl rfl ?_
  refine Wl.pass rfl rfl rfl ?_
  refine Wl.pass rfl rfl rfl ?_
  refine Wl.passU rfl rfl rfl ?_
  refine Wl.passU rfl rfl rfl ?_
  refine Wl.pass rfl rfl rfl ?_
  refine Wl.want rfl rfl ?_
  refine Wl.q rfl (Qy.pick rfl rfl) ?_
  refine Wl.q rfl (Qy.pick rfl rfl) ?_
  refine Wl.q rfl (Qy.move rfl) ?_
  refine Wl.want rfl rfl ?_
  refine Wl.call0 rfl T.fn6 rfl (c6 _) ?_
  refine Wl.q rfl (Qy.pick rfl rfl) ?_
  refine Wl.q rfl (Qy.assign rfl) ?_
  refine Wl.done ?_
  refine Ar.next ?_
  refine Wc.ret ?_
  refine Ar.passRet ?_
  refine Ar.out1 (.inr rfl) (Ho := Hp.only _ []) rfl (.tmp rfl) (Hp.sub_only _ _) ?_
  all_goals exact ⟨rfl, rfl⟩
theorem c3Y (g1 : ¬ 300 < l.length) (g2 : ¬ 400 < p.code.length) (g3 : ¬ 400 < p.outs.length) (hR : RightL l) (hP : rightP p = true) : Does Tryz.prog 3 [.agg #[.int .i64 p.ins, .int .i64 p.regs, .slice ac p.code.length cc, .slice ao p.outs.length co], .slice a l.length c] G [] LawTrue := by
  have hrr : 1 ≤ l.length ∧ l.length ≤ 15 ∧ (∀ i, i < l.length → okP (l[i]?.getD default)) := by
    unfold RightL at hR; exact ⟨hR.1, hR.2.1, hR.2.2.1⟩
  obtain ⟨hr1, hr15, hr2⟩ := hrr
  refine Does.enter Tryz.func3 rfl Tryz.ntmps3 rfl (fun w => ?_)
  by_cases hI : InterpP p l
  · skip
    refine Wc.seq ?_
    refine Wc.region rfl ?_
    refine Wl.box 0 rfl rfl rfl (fun b1 => ?_)
    refine Wl.q rfl (Qy.assign rfl) ?_
    refine Wl.done ?_
    refine Ar.next ?_
    refine Wc.seq ?_
    refine Wc.seq ?_
    refine Wc.region rfl ?_
    refine Wl.call0 rfl T.fn6 rfl (c6D _) ?_
    refine Wl.q rfl (Qy.notD rfl) ?_
    refine Wl.done ?_
    refine Ar.next ?_
    refine Wc.condN rfl (by first | assumption | omega) ?_
    refine Wc.skip ?_
    refine Ar.next ?_
    refine Wc.seq ?_
    refine Wc.seq ?_
    refine Wc.region rfl ?_
    refine Wl.q rfl (Qy.move rfl) ?_
    refine Wl.q rfl (Qy.len T.sl26 rfl) ?_
    refine Wl.q rfl (Qy.gtr rfl rfl) ?_
    refine Wl.q rfl (Qy.move rfl) ?_
    refine Wl.no 14 rfl (by first | assumption | omega) ?_
    refine Wl.want rfl rfl ?_
    refine Wl.q rfl (Qy.fieldAddr T.fa25_2 rfl) ?_
    refine Wl.want rfl rfl ?_
    refine Wl.q rfl (Qy.load 0 T.one22 rfl rfl rfl) ?_
    refine Wl.want rfl rfl ?_
    refine Wl.q rfl (Qy.len T.sl22 rfl) ?_
    refine Wl.want rfl rfl ?_
    refine Wl.q rfl (Qy.gtr rfl rfl) ?_
    refine Wl.q rfl (Qy.pick rfl rfl) ?_
    refine Wl.q rfl (Qy.move rfl) ?_
    refine Wl.no 20 rfl (by first | assumption | omega) ?_
    refine Wl.want rfl rfl ?_
    refine Wl.q rfl (Qy.fieldAddr T.fa25_3 rfl) ?_
    refine Wl.want rfl rfl ?_
    refine Wl.q rfl (Qy.load 0 T.one23 rfl rfl rfl) ?_
    refine Wl.want rfl rfl ?_
    refine Wl.q rfl (Qy.len T.sl23 rfl) ?_
    refine Wl.want rfl rfl ?_
    refine Wl.q rfl (Qy.gtr rfl rfl) ?_
    refine Wl.q rfl (Qy.pick rfl rfl) ?_
    refine Wl.done ?_
    refine Ar.next ?_
    refine Wc.condN rfl (by first | assumption | omega) ?_
    refine Wc.skip ?_
    refine Ar.next ?_
    refine Wc.seq ?_
    refine Wc.region rfl ?_
    refine Wl.q rfl (Qy.loadAll 0 T.agg25 rfl rfl rfl) ?_
    refine Wl.q rfl (Qy.move rfl) ?_
    refine Wl.call 1 rfl T.fn7 rfl (c7T _ p _ _ _ _ _ _ l (by assumption) (by assumption) (by omega) (by omega) (by assumption) hac hl hR hP hI) (tags_of trivial) (fun v1 G1 Ho1 hle1 hp => ?_)
    obtain ⟨rfl, rfl⟩ := hp
    replace hc := hc.up hle1
    replace ho := ho.up hle1
    replace ha := ha.up hle1
    refine Wl.q rfl (Qy.move rfl) ?_
    refine Wl.q rfl (Qy.extract rfl rfl) ?_
    refine Wl.q rfl (Qy.extract rfl rfl) ?_
    refine Wl.q rfl (Qy.assign rfl) ?_
    refine Wl.q rfl (Qy.assign rfl) ?_
    refine Wl.done ?_
    refine Ar.next ?_
    refine Wc.seq ?_
    refine Wc.region rfl ?_
    refine Wl.q rfl (Qy.move rfl) ?_
    refine Wl.call0 rfl T.fn8 rfl (c8Y _ _ _ l (by assumption) hl hac hR) ?_
    refine Wl.q rfl (Qy.assign rfl) ?_
    refine Wl.done ?_
    refine Ar.next ?_
    refine Wc.seq ?_
    refine Wc.region rfl ?_
    refine Wl.q rfl (Qy.loadAll 0 T.agg25 rfl rfl rfl) ?_
    refine Wl.call0 rfl T.fn9 rfl (c9Y _ p _ _ _ _ (by assumption) (by assumption) (by omega) (by omega) hP) ?_
    refine Wl.q rfl (Qy.assign rfl) ?_
    refine Wl.done ?_
    refine Ar.next ?_
    refine Wc.seq ?_
    refine Wc.seq ?_
    refine Wc.region rfl ?_
    refine Wl.q rfl (Qy.move rfl) ?_
    refine Wl.q rfl (Qy.not rfl) ?_
    refine Wl.q rfl (Qy.move rfl) ?_
    refine Wl.want rfl rfl ?_
    refine Wl.q rfl (Qy.move rfl) ?_
    refine Wl.want rfl rfl ?_
    refine Wl.q rfl (Qy.not rfl) ?_
    refine Wl.q rfl (Qy.pick rfl rfl) ?_
    refine Wl.done ?_
    refine Ar.next ?_
    refine Wc.condF rfl ?_
    refine Wc.skip ?_
    refine Ar.next ?_
    refine Wc.seq ?_
    refine Wc.region rfl ?_
    refine Wl.q rfl (Qy.move rfl) ?_
    refine Wl.q rfl (Qy.eql rfl rfl) ?_
    refine Wl.q rfl (Qy.move rfl) ?_
    refine Wl.yes 64 rfl (by first | assumption | omega) ?_
    refine Wl.want rfl rfl ?_
    refine Wl.q rfl (Qy.move rfl) ?_
    refine Wl.want rfl rfl ?_
    refine Wl.q rfl (Qy.loadAll 0 T.agg25 rfl rfl rfl) ?_
    refine Wl.want rfl rfl ?_
    refine Wl.q rfl (Qy.move rfl) ?_
    refine Wl.want rfl rfl ?_
    refine Wl.call 1 rfl T.fn10 rfl (c10T _ p _ _ _ _ _ _ l (by assumption) (by assumption) (by omega) (by omega) (by assumption) hac hl (by omega) hr1 hr15 hr2 hI) (tags_of trivial) (fun v2 G2 Ho2 hle2 hp => ?_)
    obtain ⟨rfl, rfl⟩ := hp
    replace hc := hc.up hle2
    replace ho := ho.up hle2
    replace ha := ha.up hle2
    refine Wl.want rfl rfl ?_
    refine Wl.q rfl (Qy.eqlB T.u4 rfl rfl) ?_
    refine Wl.q rfl (Qy.pick rfl rfl) ?_
    refine Wl.q rfl (Qy.move rfl) ?_
    apply Wl.joinAnd 2 71 73 rfl
    intro hg1
    refine Wl.want rfl rfl ?_
    refine Wl.call0 rfl T.fn6 rfl (c6D _) ?_
    refine Wl.q rfl (Qy.pick rfl rfl) ?_
    exact Wl.back 2 0 rfl rfl rfl rfl rfl
    intro hg1
    refine Wl.pass rfl rfl rfl ?_
    refine Wl.q rfl (Qy.pick rfl rfl) ?_
    exact Wl.back 2 0 rfl rfl rfl rfl rfl
    refine Wl.q rfl (Qy.assign rfl) ?_
    refine Wl.done ?_
    refine Ar.next ?_
    refine Wc.ret ?_
    refine Ar.out1 (.inr rfl) (Ho := Hp.only _ []) rfl (.tmp rfl) (Hp.sub_only _ _) ?_
    all_goals exact ⟨by simp, rfl⟩
  · skip
    refine Wc.seq ?_
    refine Wc.region rfl ?_
    refine Wl.box 0 rfl rfl rfl (fun b1 => ?_)
    refine Wl.q rfl (Qy.assign rfl) ?_
    refine Wl.done ?_
    refine Ar.next ?_
    refine Wc.seq ?_
    refine Wc.seq ?_
    refine Wc.region rfl ?_
    refine Wl.call0 rfl T.fn6 rfl (c6D _) ?_
    refine Wl.q rfl (Qy.notD rfl) ?_
    refine Wl.done ?_
    refine Ar.next ?_
    refine Wc.condN rfl (by first | assumption | omega) ?_
    refine Wc.skip ?_
    refine Ar.next ?_
    refine Wc.seq ?_
    refine Wc.seq ?_
    refine Wc.region rfl ?_
    refine Wl.q rfl (Qy.move rfl) ?_
    refine Wl.q rfl (Qy.len T.sl26 rfl) ?_
    refine Wl.q rfl (Qy.gtr rfl rfl) ?_
    refine Wl.q rfl (Qy.move rfl) ?_
    refine Wl.no 14 rfl (by first | assumption | omega) ?_
    refine Wl.want rfl rfl ?_
    refine Wl.q rfl (Qy.fieldAddr T.fa25_2 rfl) ?_
    refine Wl.want rfl rfl ?_
    refine Wl.q rfl (Qy.load 0 T.one22 rfl rfl rfl) ?_
    refine Wl.want rfl rfl ?_
    refine Wl.q rfl (Qy.len T.sl22 rfl) ?_
    refine Wl.want rfl rfl ?_
    refine Wl.q rfl (Qy.gtr rfl rfl) ?_
    refine Wl.q rfl (Qy.pick rfl rfl) ?_
    refine Wl.q rfl (Qy.move rfl) ?_
    refine Wl.no 20 rfl (by first | assumption | omega) ?_
    refine Wl.want rfl rfl ?_
    refine Wl.q rfl (Qy.fieldAddr T.fa25_3 rfl) ?_
    refine Wl.want rfl rfl ?_
    refine Wl.q rfl (Qy.load 0 T.one23 rfl rfl rfl) ?_
    refine Wl.want rfl rfl ?_
    refine Wl.q rfl (Qy.len T.sl23 rfl) ?_
    refine Wl.want rfl rfl ?_
    refine Wl.q rfl (Qy.gtr rfl rfl) ?_
    refine Wl.q rfl (Qy.pick rfl rfl) ?_
    refine Wl.done ?_
    refine Ar.next ?_
    refine Wc.condN rfl (by first | assumption | omega) ?_
    refine Wc.skip ?_
    refine Ar.next ?_
    refine Wc.seq ?_
    refine Wc.region rfl ?_
    refine Wl.q rfl (Qy.loadAll 0 T.agg25 rfl rfl rfl) ?_
    refine Wl.q rfl (Qy.move rfl) ?_
    refine Wl.call 1 rfl T.fn7 rfl (c7F _ p _ _ _ _ _ _ l (by assumption) (by assumption) (by omega) (by omega) (by assumption) hac hl hR hP hI) (tags_of trivial) (fun v1 G1 Ho1 hle1 hp => ?_)
    obtain ⟨rfl, rfl⟩ := hp
    replace hc := hc.up hle1
    replace ho := ho.up hle1
    replace ha := ha.up hle1
    refine Wl.q rfl (Qy.move rfl) ?_
    refine Wl.q rfl (Qy.extract rfl rfl) ?_
    refine Wl.q rfl (Qy.extract rfl rfl) ?_
    refine Wl.q rfl (Qy.assign rfl) ?_
    refine Wl.q rfl (Qy.assign rfl) ?_
    refine Wl.done ?_
    refine Ar.next ?_
    refine Wc.seq ?_
    refine Wc.region rfl ?_
    refine Wl.q rfl (Qy.move rfl) ?_
    refine Wl.call0 rfl T.fn8 rfl (c8Y _ _ _ l (by assumption) hl hac hR) ?_
    refine Wl.q rfl (Qy.assign rfl) ?_
    refine Wl.done ?_
    refine Ar.next ?_
    refine Wc.seq ?_
    refine Wc.region rfl ?_
    refine Wl.q rfl (Qy.loadAll 0 T.agg25 rfl rfl rfl) ?_
    refine Wl.call0 rfl T.fn9 rfl (c9Y _ p _ _ _ _ (by assumption) (by assumption) (by omega) (by omega) hP) ?_
    refine Wl.q rfl (Qy.assign rfl) ?_
    refine Wl.done ?_
    refine Ar.next ?_
    refine Wc.seq ?_
    refine Wc.seq ?_
    refine Wc.region rfl ?_
    refine Wl.q rfl (Qy.move rfl) ?_
    refine Wl.q rfl (Qy.not rfl) ?_
    refine Wl.q rfl (Qy.move rfl) ?_
    refine Wl.want rfl rfl ?_
    refine Wl.q rfl (Qy.move rfl) ?_
    refine Wl.want rfl rfl ?_
    refine Wl.q rfl (Qy.not rfl) ?_
    refine Wl.q rfl (Qy.pick rfl rfl) ?_
    refine Wl.done ?_
    refine Ar.next ?_
    refine Wc.condF rfl ?_
    refine Wc.skip ?_
    refine Ar.next ?_
    refine Wc.seq ?_
    refine Wc.region rfl ?_
    refine Wl.q rfl (Qy.move rfl) ?_
    refine Wl.q rfl (Qy.eql rfl rfl) ?_
    refine Wl.q rfl (Qy.move rfl) ?_
    refine Wl.yes 64 rfl (by first | assumption | omega) ?_
    refine Wl.want rfl rfl ?_
    refine Wl.q rfl (Qy.move rfl) ?_
    refine Wl.want rfl rfl ?_
    refine Wl.q rfl (Qy.loadAll 0 T.agg25 rfl rfl rfl) ?_
    refine Wl.want rfl rfl ?_
    refine Wl.q rfl (Qy.move rfl) ?_
    refine Wl.want rfl rfl ?_
    refine Wl.call 1 rfl T.fn10 rfl (c10F _ p _ _ _ _ _ _ l (by assumption) (by assumption) (by omega) (by omega) (by assumption) hac hl (by omega) hr1 hr15 hr2 hI) (tags_of trivial) (fun v2 G2 Ho2 hle2 hp => ?_)
    obtain ⟨rfl, rfl⟩ := hp
    replace hc := hc.up hle2
    replace ho := ho.up hle2
    replace ha := ha.up hle2
    refine Wl.want rfl rfl ?_
    refine Wl.q rfl (Qy.eqlB T.u4 rfl rfl) ?_
    refine Wl.q rfl (Qy.pick rfl rfl) ?_
    refine Wl.q rfl (Qy.move rfl) ?_
    apply Wl.joinAnd 2 71 73 rfl
    intro hg1
    refine Wl.want rfl rfl ?_
    refine Wl.call0 rfl T.fn6 rfl (c6D _) ?_
    refine Wl.q rfl (Qy.pick rfl rfl) ?_
    exact Wl.back 2 0 rfl rfl rfl rfl rfl
    intro hg1
    refine Wl.pass rfl rfl rfl ?_
    refine Wl.q rfl (Qy.pick rfl rfl) ?_
    exact Wl.back 2 0 rfl rfl rfl rfl rfl
    refine Wl.q rfl (Qy.assign rfl) ?_
    refine Wl.done ?_
    refine Ar.next ?_
    refine Wc.ret ?_
    refine Ar.out1 (.inr rfl) (Ho := Hp.only _ []) rfl (.tmp rfl) (Hp.sub_only _ _) ?_
    all_goals exact ⟨by simp, rfl⟩
theorem c3 : Does Tryz.prog 3 [.agg #[.int .i64 p.ins, .int .i64 p.regs, .slice ac p.code.length cc, .slice ao p.outs.length co], .slice a l.length c] G [] LawTrue := by
  by_cases hbig : 300 < l.length ∨ 400 < p.code.length ∨ 400 < p.outs.length
  · exact c3L G p ac ao cc co a c l hc ho hcl hol ha hac hl hbig
  have g1 : ¬ 300 < l.length := by omega
  have g2 : ¬ 400 < p.code.length := by omega
  have g3 : ¬ 400 < p.outs.length := by omega
  by_cases hR : RightL l
  · by_cases hP : rightP p = true
    · exact c3Y G p ac ao cc co a c l hc ho hcl hol ha hac hl g1 g2 g3 hR hP
    · exact c3P G p ac ao cc co a c l hc ho hcl hol ha hac hl g1 g2 g3 hR hP
  · exact c3W G p ac ao cc co a c l hc ho hcl hol ha hac hl g1 g2 g3 hR
end
end Go.Proofs.YtbppmiimeccclaaGreat
