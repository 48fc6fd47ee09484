import Derived.Test.YtfleehgbpgmcnaaSlO
import Derived.Test.YtfleehgbpgmcnaaAs
namespace Go.Proofs.Ytfleehgbpgmcnaa
open Go Go.Sl
set_option maxRecDepth 100000

set_option maxHeartbeats 2000000
theorem c44F (G : Imm) (p : PV) (ac ao : Option Addr) (cc co : Nat) (hc : Arr G ac p.code) (ho : Arr G ao p.outs) (h1 : p.code.length ≤ 1099511627776) (h2 : p.outs.length ≤ 1099511627776) (hR : rightP p = true) :
    Does Try.prog 44 [.agg #[.int .i64 p.ins, .int .i64 p.regs, .slice ac p.code.length cc, .slice ao p.outs.length co]] G [] (fun v G' Ho => ∃ b c, v = .tuple #[.slice b (neededP p).length c, .int .i64 0] ∧ Arr G' b (neededP p) ∧ Ho = []) := by
  refine (Does.frz1 (α := Bool) (E := 4) (q := fun v a c xs => v = .tuple #[.slice a xs.length c, .int .i64 0] ∧ xs = neededP p)
    ((c44 G p ac ao cc co hc ho h1 h2 hR).mono fun v G' Ho _ ⟨b, c, j, g1, g2, g3, g4⟩ => ⟨b, c, neededP p, j, ⟨g1, rfl⟩, g2, g3, g4⟩)).mono
    fun v G' Ho _ ⟨a, c, xs, ⟨g1, g2⟩, h2, h3⟩ => ?_
  subst g2
  exact ⟨a, c, g1, h2, h3⟩
theorem dead_count {p : PV} (h : rightP p = true) : (deadP p).code.length + (idleP p).length = p.code.length := by
  have e : idleP p = idleTo p p.code.length := by rw [idleP, if_pos h]
  rw [e]
  exact idle_count p p.code.length
theorem dead_ask {p : PV} (h : rightP p = true) : askE p = askE (deadP p) := by
  rw [askE, askE, if_pos h, if_pos (dead_right h), dead_idem]
theorem ask_len {p : PV} (h : rightP p = true) : (askE p).length ≤ 128 := by
  obtain ⟨r1, r2, r3, r4, r5, r6, r7, r8⟩ := right_facts h
  rw [askE, if_pos h]
  unfold askAll
  rw [askTo_len]
  show p.regs.toNat ≤ 128
  omega
theorem dead_len {p : PV} (h : rightP p = true) : (deadP p).code.length ≤ 16384 ∧ (deadP p).outs.length ≤ 128 ∧ (deadP p).code.length ≤ p.code.length := by
  obtain ⟨r1, r2, r3, r4, r5, r6, r7, r8⟩ := right_facts (dead_right h)
  refine ⟨r4, r6, ?_⟩
  unfold deadP
  exact keepTo_len p p.code.length
attribute [local irreducible] deadE deadP errP askE askAll idleP neededP rightP
theorem c9 (G : Imm) (p : PV) (ac ao : Option Addr) (cc co : Nat) (hc : Arr G ac p.code) (ho : Arr G ao p.outs) (h1 : p.code.length ≤ 1048576) (h2 : p.outs.length ≤ 1048576) :
    Does Try.prog 9 [.agg #[.int .i64 p.ins, .int .i64 p.regs, .slice ac p.code.length cc, .slice ao p.outs.length co]] G [] (fun v G' Ho => v = .bool true) := by
  refine Does.enter Try.func9 rfl Try.ntmps9 rfl (fun w => ?_)
  refine Wc.seq ?_
  refine Wc.region rfl ?_
  refine Wl.box 0 rfl rfl rfl (fun b1 => ?_)
  refine Wl.q rfl (Qy.assign rfl) ?_
  refine Wl.done ?_
  refine Ar.next ?_
  refine Wc.seq ?_
  refine Wc.seq ?_
  refine Wc.region rfl ?_
  refine Wl.call0 rfl T.fn27 rfl (c27 _) ?_
  refine Wl.q rfl (Qy.not rfl) ?_
  refine Wl.done ?_
  refine Ar.next ?_
  refine Wc.condF rfl ?_
  refine Wc.skip ?_
  refine Ar.next ?_
  refine Wc.seq ?_
  refine Wc.seq ?_
  refine Wc.region rfl ?_
  refine Wl.q rfl (Qy.loadAll 0 T.agg25 rfl rfl rfl) ?_
  refine Wl.call0 rfl T.fn32 rfl (c32 _ _ _ _ _ _ (by omega) (by omega)) ?_
  refine Wl.done ?_
  refine Ar.next ?_
  refine Wc.cond rfl (fun hc1 => ?_) (fun hc1 => ?_)
  refine Wc.seq ?_
  refine Wc.region rfl ?_
  refine Wl.q rfl (Qy.assign rfl) ?_
  refine Wl.done ?_
  refine Ar.next ?_
  refine Wc.ret ?_
  refine Ar.passRet ?_
  refine Ar.out1 (.inr rfl) (Ho := Hp.only _ []) rfl (.tmp rfl) (Hp.sub_only _ _) ?_
  rotate_left
  refine Wc.skip ?_
  refine Ar.next ?_
  refine Wc.seq ?_
  refine Wc.region rfl ?_
  refine Wl.q rfl (Qy.loadAll 0 T.agg25 rfl rfl rfl) ?_
  rotate_left
  · rfl
  refine Wl.call 20 rfl T.fn28 rfl (c28F _ p _ _ _ _ hc ho (by omega) (by omega)) (tags_of trivial) (fun v1 G1 Ho1 hle1 hp => ?_)
  obtain ⟨q1, e1, qc1, qo1, qcc1, qoc1, rfl, ⟨hq1, he1⟩, hqc1, hqo1, rfl⟩ := hp
  replace hc := hc.up hle1
  replace ho := ho.up hle1
  by_cases hR : rightP p = true
  · have hE : deadE p = deadP p := by rw [deadE, if_pos hR]
    have hEr : errP p = 0 := by rw [errP, if_pos hR]
    rw [hE] at hq1
    rw [hEr] at he1
    subst hq1 he1
    obtain ⟨hl1, hl2, hl3⟩ := dead_len hR
    have hD := dead_right hR
    have hE2 : deadE (deadP p) = deadP p := by rw [deadE, if_pos hD, dead_idem]
    have hEr2 : errP (deadP p) = 0 := by rw [errP, if_pos hD]
    have hN := dead_needed p
    have hA := dead_ask hR
    have hI := dead_idle hR
    have hAl := ask_len hR
    have hAl2 := ask_len hD
    have hC := dead_count hR
    generalize hz : deadP p = z at *
    refine Wl.q rfl (Qy.move rfl) ?_
    refine Wl.q rfl (Qy.extract rfl rfl) ?_
    refine Wl.q rfl (Qy.extract rfl rfl) ?_
    refine Wl.alloc 1 rfl T.zero25 (fun b2 => ?_)
    refine Wl.storeAll 1 T.size25 rfl rfl rfl rfl rfl rfl ?_
    refine Wl.q rfl (Qy.assign rfl) ?_
    refine Wl.done ?_
    refine Ar.next ?_
    refine Wc.seq ?_
    refine Wc.seq ?_
    refine Wc.region rfl ?_
    refine Wl.q rfl (Qy.move rfl) ?_
    refine Wl.q rfl (Qy.neq rfl rfl) ?_
    refine Wl.done ?_
    refine Ar.next ?_
    refine Wc.condN rfl (by first | assumption | omega) ?_
    refine Wc.skip ?_
    refine Ar.next ?_
    refine Wc.seq ?_
    refine Wc.region rfl ?_
    refine Wl.q rfl (Qy.loadAll 1 T.agg25 rfl rfl rfl) ?_
    refine Wl.call 20 rfl T.fn44 rfl (c44F _ z _ _ _ _ hqc1 hqo1 (by omega) (by omega) hD) (tags_of trivial) (fun v2 G2 Ho2 hle2 hp => ?_)
    obtain ⟨nb, nc, rfl, hnA, rfl⟩ := hp
    replace hqc1 := hqc1.up hle2
    replace hqo1 := hqo1.up hle2
    refine Wl.q rfl (Qy.move rfl) ?_
    refine Wl.q rfl (Qy.extract rfl rfl) ?_
    refine Wl.q rfl (Qy.extract rfl rfl) ?_
    refine Wl.q rfl (Qy.assign rfl) ?_
    refine Wl.q rfl (Qy.assign rfl) ?_
    refine Wl.done ?_
    refine Ar.next ?_
    refine Wc.seq ?_
    refine Wc.region rfl ?_
    refine Wl.q rfl (Qy.loadAll 1 T.agg25 rfl rfl rfl) ?_
    refine Wl.call 20 rfl T.fn28 rfl (c28F _ z _ _ _ _ hqc1 hqo1 (by omega) (by omega)) (tags_of trivial) (fun v3 G3 Ho3 hle3 hp => ?_)
    obtain ⟨q3, e3, qc3, qo3, qcc3, qoc3, rfl, ⟨hq3, he3⟩, hqc3, hqo3, rfl⟩ := hp
    rw [hE2] at hq3
    rw [hEr2] at he3
    subst hq3 he3
    replace hqc1 := hqc1.up hle3
    replace hqo1 := hqo1.up hle3
    replace hnA := hnA.up hle3
    refine Wl.q rfl (Qy.move rfl) ?_
    refine Wl.q rfl (Qy.extract rfl rfl) ?_
    refine Wl.q rfl (Qy.extract rfl rfl) ?_
    refine Wl.alloc 2 rfl T.zero25 (fun b3 => ?_)
    refine Wl.storeAll 2 T.size25 rfl rfl rfl rfl rfl rfl ?_
    refine Wl.q rfl (Qy.assign rfl) ?_
    refine Wl.done ?_
    refine Ar.next ?_
    refine Wc.seq ?_
    refine Wc.region rfl ?_
    refine Wl.q rfl (Qy.loadAll 0 T.agg25 rfl rfl rfl) ?_
    refine Wl.call 20 rfl T.fn29 rfl (c29F _ p _ _ _ _ ((hc.up hle2).up hle3) ((ho.up hle2).up hle3) (by omega) (by omega)) (tags_of trivial) (fun v4 G4 Ho4 hle4 hp => ?_)
    obtain ⟨l4, e4, lb4, lc4, rfl, ⟨hl4, he4⟩, hln4, hla4, rfl⟩ := hp
    rw [hEr] at he4
    subst he4
    replace hqc1 := hqc1.up hle4
    replace hqo1 := hqo1.up hle4
    replace hqc3 := hqc3.up hle4
    replace hqo3 := hqo3.up hle4
    replace hnA := hnA.up hle4
    refine Wl.q rfl (Qy.move rfl) ?_
    refine Wl.q rfl (Qy.extract rfl rfl) ?_
    refine Wl.q rfl (Qy.extract rfl rfl) ?_
    refine Wl.q rfl (Qy.assign rfl) ?_
    refine Wl.q rfl (Qy.assign rfl) ?_
    refine Wl.done ?_
    refine Ar.next ?_
    refine Wc.seq ?_
    refine Wc.region rfl ?_
    refine Wl.q rfl (Qy.loadAll 1 T.agg25 rfl rfl rfl) ?_
    refine Wl.call 20 rfl T.fn29 rfl (c29F _ q3 _ _ _ _ hqc1 hqo1 (by omega) (by omega)) (tags_of trivial) (fun v5 G5 Ho5 hle5 hp => ?_)
    obtain ⟨l5, e5, lb5, lc5, rfl, ⟨hl5, he5⟩, hln5, hla5, rfl⟩ := hp
    rw [hEr2] at he5
    subst he5
    replace hqc1 := hqc1.up hle5
    replace hqo1 := hqo1.up hle5
    replace hqc3 := hqc3.up hle5
    replace hqo3 := hqo3.up hle5
    replace hnA := hnA.up hle5
    replace hla4 := hla4.up hle5
    refine Wl.q rfl (Qy.move rfl) ?_
    refine Wl.q rfl (Qy.extract rfl rfl) ?_
    refine Wl.q rfl (Qy.extract rfl rfl) ?_
    refine Wl.q rfl (Qy.assign rfl) ?_
    refine Wl.q rfl (Qy.assign rfl) ?_
    refine Wl.done ?_
    refine Ar.next ?_
    refine Wc.seq ?_
    refine Wc.draw [0, 1, 2] [] T.mixed rfl ?_
    refine Gm.q 0 [] (by kernel_rfl) rfl rfl (Qy.move rfl) ?_
    refine Gm.q 1 [] (by kernel_rfl) rfl rfl (Qy.eql rfl rfl) ?_
    refine Gm.q 2 [] (by kernel_rfl) rfl rfl (Qy.move rfl) ?_
    refine Gm.yes 47 rfl (by first | assumption | omega) ?_
    refine Gm.qYes 3 [] (by kernel_rfl) rfl rfl rfl rfl (Qy.move rfl) ?_
    refine Gm.qYes 4 [] (by kernel_rfl) rfl rfl rfl rfl (Qy.eql rfl rfl) ?_
    refine Gm.q 5 [] (by kernel_rfl) rfl rfl (Qy.pick rfl rfl) ?_
    refine Gm.q 6 [] (by kernel_rfl) rfl rfl (Qy.move rfl) ?_
    refine Gm.yes 51 rfl (by first | assumption | omega) ?_
    refine Gm.qYes 7 [] (by kernel_rfl) rfl rfl rfl rfl (Qy.move rfl) ?_
    refine Gm.qYes 8 [] (by kernel_rfl) rfl rfl rfl rfl (Qy.eql rfl rfl) ?_
    refine Gm.q 9 [] (by kernel_rfl) rfl rfl (Qy.pick rfl rfl) ?_
    refine Gm.q 10 [] (by kernel_rfl) rfl rfl (Qy.move rfl) ?_
    refine Gm.yes 55 rfl (by first | assumption | omega) ?_
    refine Gm.qYes 11 [] (by kernel_rfl) rfl rfl rfl rfl (Qy.move rfl) ?_
    refine Gm.qYes 12 [] (by kernel_rfl) rfl rfl rfl rfl (Qy.eql rfl rfl) ?_
    refine Gm.q 13 [] (by kernel_rfl) rfl rfl (Qy.pick rfl rfl) ?_
    refine Gm.q 14 [] (by kernel_rfl) rfl rfl (Qy.move rfl) ?_
    refine Gm.yes 59 rfl (by first | assumption | omega) ?_
    refine Gm.qYes 15 [] (by kernel_rfl) rfl rfl rfl rfl (Qy.move rfl) ?_
    refine Gm.one 16 ⟨rfl, rfl, rfl, trivial⟩ (by first | exact Imm.le_refl _ | assumption) (by kernel_rfl) rfl ?_
    refine Wl.want rfl rfl ?_
    refine Wl.call0 rfl T.fn45 rfl (c45 _ _ _ _ hnA _ (by rw [hN, List.length_replicate]; omega)) ?_
    refine Wl.re 61 rfl (show _ = Value.bool false by rw [hN]; simp) ?_
    refine Wl.on0 ?_
    refine Gm.qYes 17 [] (by kernel_rfl) rfl rfl rfl rfl (Qy.not rfl) ?_
    refine Gm.q 18 [] (by kernel_rfl) rfl rfl (Qy.pick rfl rfl) ?_
    refine Gm.q 19 [] (by kernel_rfl) rfl rfl (Qy.move rfl) ?_
    refine Gm.qYes 20 [2] (by kernel_rfl) rfl rfl rfl rfl (Qy.loadAll 2 T.agg25 rfl rfl rfl) ?_
    refine Gm.qYes 21 [1] (by kernel_rfl) rfl rfl rfl rfl (Qy.loadAll 1 T.agg25 rfl rfl rfl) ?_
    refine Gm.one 22 ⟨rfl, rfl, rfl, trivial⟩ (by first | exact Imm.le_refl _ | assumption) (by kernel_rfl) rfl ?_
    refine Wl.want rfl rfl ?_
    refine Wl.call0 rfl T.fn46 rfl (c46 _ q3 q3 _ _ _ _ _ _ _ _ hqc3 hqo3 hqc1 hqo1 (by omega) (by omega) (by omega) (by omega)) ?_
    refine Wl.re 67 rfl (show _ = Value.bool true by simp) ?_
    refine Wl.on0 ?_
    refine Gm.q 23 [] (by kernel_rfl) rfl rfl (Qy.pick rfl rfl) ?_
    refine Gm.q 24 [] (by kernel_rfl) rfl rfl (Qy.move rfl) ?_
    refine Gm.qYes 25 [] (by kernel_rfl) rfl rfl rfl rfl (Qy.fieldAddr T.fa25_2 rfl) ?_
    refine Gm.qYes 26 [1] (by kernel_rfl) rfl rfl rfl rfl (Qy.load 1 T.one22 rfl rfl rfl) ?_
    refine Gm.qYes 27 [] (by kernel_rfl) rfl rfl rfl rfl (Qy.len T.sl22 rfl) ?_
    refine Gm.qYes 28 [0] (by kernel_rfl) rfl rfl rfl rfl (Qy.loadAll 0 T.agg25 rfl rfl rfl) ?_
    refine Gm.qYes 32 [] (by kernel_rfl) rfl rfl rfl rfl (Qy.fieldAddr T.fa25_2 rfl) ?_
    refine Gm.qYes 33 [0] (by kernel_rfl) rfl rfl rfl rfl (Qy.load 0 T.one22 rfl rfl rfl) ?_
    refine Gm.qYes 34 [] (by kernel_rfl) rfl rfl rfl rfl (Qy.len T.sl22 rfl) ?_
    refine Gm.one 29 ⟨rfl, rfl, rfl, trivial⟩ (by first | exact Imm.le_refl _ | assumption) (by kernel_rfl) rfl ?_
    refine Wl.want rfl rfl ?_
    refine Wl.call 20 rfl T.fn31 rfl (c31F _ p _ _ _ _ ((((hc.up hle2).up hle3).up hle4).up hle5) ((((ho.up hle2).up hle3).up hle4).up hle5) h1 h2) (tags_of trivial) (fun v6 G6 Ho6 hle6 hp => ?_)
    obtain ⟨l6, ib6, id6, rfl, ⟨hl6, hn6⟩, hia6, rfl⟩ := hp
    have hl6l : q3.code.length + l6.length = p.code.length := by rw [hl6]; exact hC
    refine Wl.on0 ?_
    refine Gm.qYes 30 [] (by kernel_rfl) rfl rfl rfl rfl (Qy.len T.sl23 rfl) ?_
    refine Gm.qYes 31 [] (by kernel_rfl) rfl rfl rfl rfl (Qy.add rfl rfl (by omega)) ?_
    refine Gm.qYes 35 [] (by kernel_rfl) rfl rfl rfl rfl (Qy.eql rfl rfl) ?_
    refine Gm.q 36 [] (by kernel_rfl) rfl rfl (Qy.pick rfl rfl) ?_
    refine Gm.q 37 [] (by kernel_rfl) rfl rfl (Qy.move rfl) ?_
    refine Gm.yes 82 rfl (by first | assumption | omega) ?_
    refine Gm.qYes 38 [] (by kernel_rfl) rfl rfl rfl rfl (Qy.move rfl) ?_
    refine Gm.qYes 39 [] (by kernel_rfl) rfl rfl rfl rfl (Qy.move rfl) ?_
    refine Gm.one 40 ⟨rfl, rfl, rfl, trivial⟩ (by first | exact Imm.le_refl _ | assumption) (by kernel_rfl) rfl ?_
    refine Wl.want rfl rfl ?_
    refine Wl.call0 rfl T.fn30 rfl (c30 _ l4 l5 _ _ _ _ (hla4.up hle6) (hla5.up hle6) (by rw [hl4]; omega) (by rw [hl5]; omega)) ?_
    refine Wl.re 85 rfl (show _ = Value.bool true by rw [hl4, hl5, hA]; simp) ?_
    refine Wl.on0 ?_
    refine Gm.q 41 [] (by kernel_rfl) rfl rfl (Qy.pick rfl rfl) ?_
    refine Gm.q 42 [] (by kernel_rfl) rfl rfl (Qy.move rfl) ?_
    refine Gm.qYes 43 [1] (by kernel_rfl) rfl rfl rfl rfl (Qy.loadAll 1 T.agg25 rfl rfl rfl) ?_
    refine Gm.one 44 ⟨rfl, rfl, rfl, trivial⟩ (by first | exact Imm.le_refl _ | assumption) (by kernel_rfl) rfl ?_
    refine Wl.want rfl rfl ?_
    refine Wl.call 20 rfl T.fn31 rfl (c31F _ q3 _ _ _ _ (hqc1.up hle6) (hqo1.up hle6) (by omega) (by omega)) (tags_of trivial) (fun v7 G7 Ho7 hle7 hp => ?_)
    obtain ⟨l7, ib7, id7, rfl, ⟨hl7, hn7⟩, hia7, rfl⟩ := hp
    have hle67 := Imm.le_trans hle6 hle7
    have hb7 : ib7 = none := hn7.1 (by rw [hl7]; exact hI)
    refine Wl.on0 ?_
    refine Gm.qYes 45 [] (by kernel_rfl) rfl rfl rfl rfl (Qy.eqlSliceNil T.sl23 rfl rfl) ?_
    refine Gm.q 46 [] (by kernel_rfl) rfl rfl (Qy.pick rfl rfl) ?_
    refine Gm.q 47 [] (by kernel_rfl) rfl rfl (Qy.assign rfl) ?_
    refine Gm.doneA (by kernel_rfl) ⟨rfl, rfl, rfl, trivial⟩ (by first | exact Imm.le_refl _ | assumption) ?_
    refine Ar.next ?_
    refine Wc.ret ?_
    refine Ar.out1 (.inr rfl) (Ho := Hp.only _ []) rfl (.tmp rfl) (Hp.sub_only _ _) ?_
    rw [hb7]; rfl
  · have he : errP p = 80 := by rw [errP, if_neg hR]
    rw [he] at he1
    refine Wl.q rfl (Qy.move rfl) ?_
    refine Wl.q rfl (Qy.extract rfl rfl) ?_
    refine Wl.q rfl (Qy.extract rfl rfl) ?_
    refine Wl.alloc 1 rfl T.zero25 (fun b2 => ?_)
    refine Wl.storeAll 1 T.size25 rfl rfl rfl rfl rfl rfl ?_
    refine Wl.q rfl (Qy.assign rfl) ?_
    refine Wl.done ?_
    refine Ar.next ?_
    refine Wc.seq ?_
    refine Wc.seq ?_
    refine Wc.region rfl ?_
    refine Wl.q rfl (Qy.move rfl) ?_
    refine Wl.q rfl (Qy.neq rfl rfl) ?_
    refine Wl.done ?_
    refine Ar.next ?_
    refine Wc.condP rfl (by first | assumption | omega) ?_
    refine Wc.seq ?_
    refine Wc.region rfl ?_
    refine Wl.q rfl (Qy.move rfl) ?_
    refine Wl.q rfl (Qy.eql rfl rfl) ?_
    refine Wl.q rfl (Qy.assign rfl) ?_
    refine Wl.done ?_
    refine Ar.next ?_
    refine Wc.ret ?_
    refine Ar.passRet ?_
    refine Ar.out1 (.inr rfl) (Ho := Hp.only _ []) rfl (.tmp rfl) (Hp.sub_only _ _) ?_
    rw [he1]; rfl
end Go.Proofs.Ytfleehgbpgmcnaa
