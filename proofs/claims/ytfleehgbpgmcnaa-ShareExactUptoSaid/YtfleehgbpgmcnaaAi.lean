import Derived.Test.YtfleehgbpgmcnaaAh
import Derived.Test.YtfleehgbpgmcnaaSlK
namespace Go.Proofs.Ytfleehgbpgmcnaa
open Go Go.Sl
set_option maxRecDepth 100000

set_option maxHeartbeats 2000000

theorem c17E (G : Imm) (p : PV) (ac ao : Option Addr) (cc co : Nat) (hc : Arr G ac p.code) (ho : Arr G ao p.outs) (hR : rightP p = true) :
    Does Try.prog 17 [.agg #[.int .i64 p.ins, .int .i64 p.regs, .slice ac p.code.length cc, .slice ao p.outs.length co]] G [] (fun v G' Ho =>
      ∃ bc bo dc do_ j1 j2, v = .agg #[.int .i64 (passP p).ins, .int .i64 (passP p).regs, .slice bc (passP p).code.length dc, .slice bo (passP p).outs.length do_] ∧
        OwnA bc dc (passP p).code j1 ∧ OwnA bo do_ (passP p).outs j2 ∧ Ho = [(0, bc.map (·.block), Row 34 (passP p).code j1), (1, bo.map (·.block), Row 3 (passP p).outs j2)] ∧ G' = G) := c17 G p ac ao cc co hc ho hR
attribute [local irreducible] Yes passP passE passErr rightP passTo passOuts
theorem pass_len {p : PV} (h : rightP p = true) : (passP p).code.length ≤ 1099511627776 ∧ (passP p).outs.length ≤ 1099511627776 := by
  obtain ⟨h1, _⟩ := pass_idem h
  obtain ⟨_, _, _, r4, _, r6, _⟩ := right_facts h1
  omega
theorem c3 (G : Imm) (p : PV) (ac ao : Option Addr) (cc co : Nat) (hc : Arr G ac p.code) (ho : Arr G ao p.outs) (h1 : p.code.length ≤ 1099511627776) (h2 : p.outs.length ≤ 1099511627776) :
    Does Try.prog 3 [.agg #[.int .i64 p.ins, .int .i64 p.regs, .slice ac p.code.length cc, .slice ao p.outs.length co]] G [] (fun v G' Ho => v = .bool true ∧ G' = G ∧ Ho = []) := by
  by_cases hR : rightP p = true
  · obtain ⟨hi1, hi2⟩ := pass_idem hR
    refine Does.enter Try.func3 rfl Try.ntmps3 rfl (fun w => ?_)
    refine Wc.seq ?_
    refine Wc.region rfl ?_
    refine Wl.box 0 rfl rfl rfl (fun b1 => ?_)
    refine Wl.q rfl (Qy.assign rfl) ?_
    refine Wl.done ?_
    refine Ar.next ?_
    refine Wc.seq ?_
    refine Wc.seq ?_
    refine Wc.region rfl ?_
    refine Wl.callB 1 rfl T.fn11 rfl (fun Gx hGx hgx => (c11 _)) (fun v1 Gx1 G1 Ho1 hlx1 hp => ?_)
    obtain ⟨rfl, rfl, rfl⟩ := hp
    refine Wl.q rfl (Qy.notD rfl) ?_
    refine Wl.done ?_
    refine Ar.next ?_
    refine Wc.cond rfl (fun hc1 => ?_) (fun hc1 => ?_)
    refine Wc.seq ?_
    refine Wc.region rfl ?_
    refine Wl.q rfl (Qy.assign rfl) ?_
    refine Wl.done ?_
    refine Ar.next ?_
    refine Wc.ret ?_
    refine Ar.passRet ?_
    refine Ar.out1 (.inr rfl) (Ho := Hp.only _ []) rfl (.tmp rfl) (Hp.sub_only _ _) ?_
    rotate_left
    refine Wc.skip ?_
    refine Ar.next ?_
    refine Wc.seq ?_
    refine Wc.seq ?_
    refine Wc.region rfl ?_
    refine Wl.q rfl (Qy.loadAll 0 T.agg25 rfl rfl rfl) ?_
    refine Wl.call0 rfl T.fn12 rfl (c12 _ _ _ _ _ _ (by omega) (by omega)) ?_
    refine Wl.done ?_
    refine Ar.next ?_
    refine Wc.cond rfl (fun hc2 => ?_) (fun hc2 => ?_)
    refine Wc.seq ?_
    refine Wc.region rfl ?_
    refine Wl.q rfl (Qy.assign rfl) ?_
    refine Wl.done ?_
    refine Ar.next ?_
    refine Wc.ret ?_
    refine Ar.passRet ?_
    refine Ar.out1 (.inr rfl) (Ho := Hp.only _ []) rfl (.tmp rfl) (Hp.sub_only _ _) ?_
    rotate_left
    refine Wc.skip ?_
    refine Ar.next ?_
    refine Wc.seq ?_
    refine Wc.region rfl ?_
    refine Wl.q rfl (Qy.loadAll 0 T.agg25 rfl rfl rfl) ?_
    refine Wl.callB 1 rfl T.fn13 rfl (fun Gx hGx hgx => (c13 _ _ _ _ _ _ (by first | exact Arr.up (by assumption) hGx | exact Arr.nil _) (by first | exact Arr.up (by assumption) hGx | exact Arr.nil _) (by omega) (by omega))) (fun v2 Gx2 G2 Ho2 hlx2 hp => ?_)
    obtain ⟨oc2, oo2, occ2, ooc2, oj2, ok2, rfl, hoc2, hoo2, rfl, rfl⟩ := hp
    refine Wl.alloc 13 rfl T.zero25 (fun b2 => ?_)
    refine Wl.storeAll 13 T.size25 rfl rfl rfl rfl rfl rfl ?_
    refine Wl.done ?_
    refine Ar.next ?_
    refine Wc.seq ?_
    refine Wc.region rfl ?_
    refine Wl.q rfl (Qy.loadAll 0 T.agg25 rfl rfl rfl) ?_
    refine Wl.callB 14 rfl T.fn14 rfl (fun Gx hGx hgx => (c14B _ _ _ _ _ _ (by first | exact Arr.up (by assumption) hGx | exact Arr.nil _ | exact Arr.own hgx 11 rfl (by first | assumption | exact OwnA.made (by simp [maxLen])) | exact Arr.own hgx 12 rfl (by first | assumption | exact OwnA.made (by simp [maxLen]))) (by first | exact Arr.up (by assumption) hGx | exact Arr.nil _ | exact Arr.own hgx 11 rfl (by first | assumption | exact OwnA.made (by simp [maxLen])) | exact Arr.own hgx 12 rfl (by first | assumption | exact OwnA.made (by simp [maxLen]))) (by omega) (by omega))) (fun v3 Gx3 G3 Ho3 hlx3 hp => ?_)
    obtain ⟨q3, e3, qc3, qo3, qcc3, qoc3, qj3, qk3, rfl, hq3, hqc3, hqo3, rfl, rfl⟩ := hp
    refine Wl.q rfl (Qy.move rfl) ?_
    refine Wl.q rfl (Qy.extract rfl rfl) ?_
    refine Wl.q rfl (Qy.extract rfl rfl) ?_
    refine Wl.alloc 16 rfl T.zero25 (fun b3 => ?_)
    refine Wl.storeAll 16 T.size25 rfl rfl rfl rfl rfl rfl ?_
    refine Wl.q rfl (Qy.assign rfl) ?_
    refine Wl.done ?_
    refine Ar.next ?_
    refine Wc.seq ?_
    refine Wc.region rfl ?_
    refine Wl.q rfl (Qy.loadAll 0 T.agg25 rfl rfl rfl) ?_
    refine Wl.callB 17 rfl T.fn15 rfl (fun Gx hGx hgx => (c15 _ _ _ _ _ _ (by first | exact Arr.up (by assumption) hGx | exact Arr.nil _ | exact Arr.own hgx 14 rfl (by first | assumption | exact OwnA.made (by simp [maxLen])) | exact Arr.own hgx 15 rfl (by first | assumption | exact OwnA.made (by simp [maxLen])) | exact Arr.own hgx 11 rfl (by first | assumption | exact OwnA.made (by simp [maxLen])) | exact Arr.own hgx 12 rfl (by first | assumption | exact OwnA.made (by simp [maxLen]))) (by first | exact Arr.up (by assumption) hGx | exact Arr.nil _ | exact Arr.own hgx 14 rfl (by first | assumption | exact OwnA.made (by simp [maxLen])) | exact Arr.own hgx 15 rfl (by first | assumption | exact OwnA.made (by simp [maxLen])) | exact Arr.own hgx 11 rfl (by first | assumption | exact OwnA.made (by simp [maxLen])) | exact Arr.own hgx 12 rfl (by first | assumption | exact OwnA.made (by simp [maxLen]))) (by omega) (by omega))) (fun v4 Gx4 G4 Ho4 hlx4 hp => ?_)
    obtain ⟨rfl, rfl, rfl⟩ := hp
    refine Wl.q rfl (Qy.assign rfl) ?_
    refine Wl.done ?_
    refine Ar.next ?_
    refine Wc.seq ?_
    refine Wc.seq ?_
    refine Wc.region rfl ?_
    refine Wl.q rfl (Qy.move rfl) ?_
    refine Wl.q rfl (Qy.notD rfl) ?_
    refine Wl.done ?_
    refine Ar.next ?_
    refine Wc.cond rfl (fun hc3 => ?_) (fun hc3 => ?_)
    refine Wc.seq ?_
    refine Wc.region rfl ?_
    refine Wl.q rfl (Qy.loadAll 16 T.agg25 rfl rfl rfl) ?_
    refine Wl.call0 rfl T.fn16 rfl (c16 _ _ _ _ _ _) ?_
    refine Wl.q rfl (Qy.move rfl) ?_
    apply Wl.joinAnd 3 31 34 rfl
    intro hg1
    refine Wl.want rfl rfl ?_
    refine Wl.q rfl (Qy.move rfl) ?_
    refine Wl.want rfl rfl ?_
    refine Wl.q rfl (Qy.eql rfl rfl) ?_
    refine Wl.q rfl (Qy.pick rfl rfl) ?_
    exact Wl.back 3 0 rfl rfl rfl rfl rfl
    intro hg1
    refine Wl.pass rfl rfl rfl ?_
    refine Wl.pass rfl rfl rfl ?_
    refine Wl.q rfl (Qy.pick rfl rfl) ?_
    exact Wl.back 3 0 rfl rfl rfl rfl rfl
    refine Wl.q rfl (Qy.move rfl) ?_
    apply Wl.joinAnd 2 35 37 rfl
    intro hg1
    refine Wl.want rfl rfl ?_
    refine Wl.callB 17 rfl T.fn11 rfl (fun Gx hGx hgx => (c11 _)) (fun v5 Gx5 G5 Ho5 hlx5 hp => ?_)
    obtain ⟨rfl, rfl, rfl⟩ := hp
    refine Wl.q rfl (Qy.pick rfl rfl) ?_
    exact Wl.back 2 0 rfl rfl rfl rfl rfl
    intro hg1
    refine Wl.pass rfl rfl rfl ?_
    refine Wl.q rfl (Qy.pick rfl rfl) ?_
    exact Wl.back 2 0 rfl rfl rfl rfl rfl
    refine Wl.q rfl (Qy.assign rfl) ?_
    refine Wl.done ?_
    refine Ar.next ?_
    refine Wc.ret ?_
    refine Ar.passRet ?_
    refine Ar.out1 (.inr rfl) (Ho := Hp.only _ []) rfl (.tmp rfl) (Hp.sub_only _ _) ?_
    rotate_left
    refine Wc.skip ?_
    refine Ar.next ?_
    refine Wc.seq ?_
    refine Wc.region rfl ?_
    refine Wl.q rfl (Qy.loadAll 0 T.agg25 rfl rfl rfl) ?_
    rotate_left
    · exact absurd yes hc1
    · exact ⟨rfl, rfl, rfl⟩
    · exact absurd hR hc3
    obtain ⟨hq, he⟩ := hq3
    have hq : q3 = passP p := by rw [hq]; unfold passE; rw [if_pos hR]
    have he : e3 = 0 := by rw [he]; unfold passErr; rw [if_pos hR]
    subst hq he
    refine Wl.callB 17 rfl T.fn17 rfl (fun Gx hGx hgx => c17E Gx p ac ao cc co (hc.up hGx) (ho.up hGx) hR) (fun v9 Gx9 G9 Ho9 hlx9 hp => ?_)
    obtain ⟨rc, ro, rcc, roc, rj, rk, rfl, hrc, hro, rfl, rfl⟩ := hp
    refine Wl.alloc 19 rfl T.zero25 (fun b4 => ?_)
    refine Wl.storeAll 19 T.size25 rfl rfl rfl rfl rfl rfl ?_
    refine Wl.done ?_
    refine Ar.next ?_
    refine Wc.seq ?_
    refine Wc.seq ?_
    refine Wc.region rfl ?_
    refine Wl.q rfl (Qy.move rfl) ?_
    refine Wl.q rfl (Qy.neq rfl rfl) ?_
    refine Wl.q rfl (Qy.move rfl) ?_
    refine Wl.no 42 rfl (by first | assumption | omega) ?_
    refine Wl.want rfl rfl ?_
    refine Wl.q rfl (Qy.loadAll 16 T.agg25 rfl rfl rfl) ?_
    refine Wl.want rfl rfl ?_
    refine Wl.q rfl (Qy.loadAll 19 T.agg25 rfl rfl rfl) ?_
    refine Wl.want rfl rfl ?_
    refine Wl.callB 20 rfl T.fn18 rfl (fun Gx hGx hgx => c18 Gx (passP p) (passP p) qc3 qo3 rc ro qcc3 qoc3 rcc roc (Arr.own hgx 14 rfl hqc3) (Arr.own hgx 15 rfl hqo3) (Arr.own hgx 17 rfl hrc) (Arr.own hgx 18 rfl hro) (pass_len hR).1 (pass_len hR).2) (fun v10 Gx10 G10 Ho10 hlx10 hp => ?_)
    obtain ⟨rfl, rfl, rfl⟩ := hp
    refine Wl.want rfl rfl ?_
    refine Wl.q rfl (Qy.notD rfl) ?_
    refine Wl.q rfl (Qy.pick rfl rfl) ?_
    refine Wl.q rfl (Qy.move rfl) ?_
    apply Wl.joinOr 3 48 51 rfl
    intro hg1
    refine Wl.want rfl rfl ?_
    refine Wl.callB 20 rfl T.fn11 rfl (fun Gx hGx hgx => (c11 _)) (fun v5 Gx5 G5 Ho5 hlx5 hp => ?_)
    obtain ⟨rfl, rfl, rfl⟩ := hp
    refine Wl.want rfl rfl ?_
    refine Wl.q rfl (Qy.notD rfl) ?_
    refine Wl.q rfl (Qy.pick rfl rfl) ?_
    exact Wl.back 3 0 rfl rfl rfl rfl rfl
    intro hg1
    refine Wl.pass rfl rfl rfl ?_
    refine Wl.pass rfl rfl rfl ?_
    refine Wl.q rfl (Qy.pick rfl rfl) ?_
    exact Wl.back 3 0 rfl rfl rfl rfl rfl
    refine Wl.done ?_
    refine Ar.next ?_
    refine Wc.cond rfl (fun hc4 => ?_) (fun hc4 => ?_)
    refine Wc.seq ?_
    refine Wc.region rfl ?_
    refine Wl.q rfl (Qy.assign rfl) ?_
    refine Wl.done ?_
    refine Ar.next ?_
    refine Wc.ret ?_
    refine Ar.passRet ?_
    refine Ar.out1 (.inr rfl) (Ho := Hp.only _ []) rfl (.tmp rfl) (Hp.sub_only _ _) ?_
    rotate_left
    refine Wc.skip ?_
    refine Ar.next ?_
    refine Wc.seq ?_
    refine Wc.region rfl ?_
    refine Wl.q rfl (Qy.loadAll 16 T.agg25 rfl rfl rfl) ?_
    rotate_left
    · exfalso
      rcases hc4 with h | h
      · exact h rfl
      · exact h yes
    refine Wl.callB 20 rfl T.fn14 rfl (fun Gx hGx hgx => c14B Gx (passP p) qc3 qo3 qcc3 qoc3 (Arr.own hgx 14 rfl hqc3) (Arr.own hgx 15 rfl hqo3) (pass_len hR).1 (pass_len hR).2) (fun v12 Gx12 G12 Ho12 hlx12 hp => ?_)
    obtain ⟨q4, e4, nc, no, ncc, noc, nj, nk, rfl, ⟨hq, he⟩, hnc, hno, rfl, rfl⟩ := hp
    have hq : q4 = passP p := by rw [hq]; unfold passE; rw [if_pos hi1, hi2]
    have he : e4 = 0 := by rw [he]; unfold passErr; rw [if_pos hi1]
    subst hq he
    refine Wl.q rfl (Qy.move rfl) ?_
    refine Wl.q rfl (Qy.extract rfl rfl) ?_
    refine Wl.q rfl (Qy.extract rfl rfl) ?_
    refine Wl.alloc 22 rfl T.zero25 (fun b5 => ?_)
    refine Wl.storeAll 22 T.size25 rfl rfl rfl rfl rfl rfl ?_
    refine Wl.q rfl (Qy.assign rfl) ?_
    refine Wl.done ?_
    refine Ar.next ?_
    refine Wc.seq ?_
    refine Wc.seq ?_
    refine Wc.region rfl ?_
    refine Wl.q rfl (Qy.move rfl) ?_
    refine Wl.q rfl (Qy.neq rfl rfl) ?_
    refine Wl.q rfl (Qy.move rfl) ?_
    refine Wl.no 59 rfl (by first | assumption | omega) ?_
    refine Wl.want rfl rfl ?_
    refine Wl.q rfl (Qy.loadAll 22 T.agg25 rfl rfl rfl) ?_
    refine Wl.want rfl rfl ?_
    refine Wl.q rfl (Qy.loadAll 19 T.agg25 rfl rfl rfl) ?_
    refine Wl.want rfl rfl ?_
    refine Wl.callB 23 rfl T.fn18 rfl (fun Gx hGx hgx => c18 Gx (passP p) (passP p) nc no rc ro ncc noc rcc roc (Arr.own hgx 20 rfl hnc) (Arr.own hgx 21 rfl hno) (Arr.own hgx 17 rfl hrc) (Arr.own hgx 18 rfl hro) (pass_len hR).1 (pass_len hR).2) (fun v13 Gx13 G13 Ho13 hlx13 hp => ?_)
    obtain ⟨rfl, rfl, rfl⟩ := hp
    refine Wl.want rfl rfl ?_
    refine Wl.q rfl (Qy.notD rfl) ?_
    refine Wl.q rfl (Qy.pick rfl rfl) ?_
    refine Wl.done ?_
    refine Ar.next ?_
    refine Wc.cond rfl (fun hc5 => ?_) (fun hc5 => ?_)
    refine Wc.seq ?_
    refine Wc.region rfl ?_
    refine Wl.q rfl (Qy.assign rfl) ?_
    refine Wl.done ?_
    refine Ar.next ?_
    refine Wc.ret ?_
    refine Ar.passRet ?_
    refine Ar.out1 (.inr rfl) (Ho := Hp.only _ []) rfl (.tmp rfl) (Hp.sub_only _ _) ?_
    rotate_left
    refine Wc.skip ?_
    refine Ar.next ?_
    refine Wc.seq ?_
    refine Wc.draw [0, 12, 11, 13, 15, 14, 16, 18, 17, 19, 21, 20, 22] [] T.mixed rfl ?_
    refine Gm.q 0 [] (by kernel_rfl) rfl rfl (Qy.fieldAddr T.fa25_2 rfl) ?_
    refine Gm.q 1 [16] (by kernel_rfl) rfl rfl (Qy.load 16 T.one22 rfl rfl rfl) ?_
    refine Gm.q 2 [] (by kernel_rfl) rfl rfl (Qy.fieldAddr T.fa25_2 rfl) ?_
    refine Gm.q 3 [16] (by kernel_rfl) rfl rfl (Qy.load 16 T.one22 rfl rfl rfl) ?_
    refine Gm.q 4 [] (by kernel_rfl) rfl rfl (Qy.cap T.sl22 rfl) ?_
    refine Gm.q 5 [] (by kernel_rfl) rfl rfl (Qy.cutH T.sl22 rfl rfl (by omega)) ?_
    refine Gm.q 6 [] (by kernel_rfl) rfl rfl (Qy.fieldAddr T.fa25_3 rfl) ?_
    refine Gm.q 7 [16] (by kernel_rfl) rfl rfl (Qy.load 16 T.one23 rfl rfl rfl) ?_
    refine Gm.q 8 [] (by kernel_rfl) rfl rfl (Qy.fieldAddr T.fa25_3 rfl) ?_
    refine Gm.q 9 [16] (by kernel_rfl) rfl rfl (Qy.load 16 T.one23 rfl rfl rfl) ?_
    refine Gm.q 10 [] (by kernel_rfl) rfl rfl (Qy.cap T.sl23 rfl) ?_
    refine Gm.q 11 [] (by kernel_rfl) rfl rfl (Qy.cutH T.sl23 rfl rfl (by omega)) ?_
    refine Gm.q 12 [] (by kernel_rfl) rfl rfl (Qy.assign rfl) ?_
    refine Gm.q 13 [] (by kernel_rfl) rfl rfl (Qy.assign rfl) ?_
    refine Gm.doneA (by kernel_rfl) ⟨rfl, rfl, rfl, rfl, rfl, rfl, rfl, rfl, rfl, rfl, rfl, rfl, rfl, trivial⟩ (by first | exact Imm.le_refl _ | assumption) ?_
    refine Ar.next ?_
    refine Wc.seq ?_
    refine Wc.seq ?_
    refine Wc.region rfl ?_
    refine Wl.q rfl (Qy.assign rfl) ?_
    refine Wl.done ?_
    refine Ar.next ?_
    refine Wc.block ?_
    rotate_left
    · exact absurd rfl hc5
    have hcb := hqc3.blkOf
    have hcm : qcc3 ≤ 9223372036854775807 := by rcases hqc3 with ⟨_, _, _, h⟩ | ⟨_, _, _, _, h⟩ <;> first | omega | (simp only [maxLen] at h; omega)
    have hdm : qoc3 ≤ 9223372036854775807 := by rcases hqo3 with ⟨_, _, _, h⟩ | ⟨_, _, _, _, h⟩ <;> first | omega | (simp only [maxLen] at h; omega)
    have hdb := hqo3.blkOf
    have hqa : Value.slice (subA qc3 qcc3 0 5) (qcc3 : Int).toNat qcc3 = .slice qc3 qcc3 qcc3 := by rw [subA_zero_own hqc3]; rfl
    have hqb : Value.slice (subA qo3 qoc3 0 1) (qoc3 : Int).toNat qoc3 = .slice qo3 qoc3 qoc3 := by rw [subA_zero_own hqo3]; rfl
    generalize hcs : flat (passP p).code ++ qj3 = cs at *
    generalize hds : flat (passP p).outs ++ qk3 = ds at *
    refine Wc.reH 14 (.cells cs.toArray 34 (0, 0)) rfl (by rw [← hcs]; rfl) (Wc.reH 15 (.cells ds.toArray 3 (0, 0)) rfl (by rw [← hds]; rfl) ?_)
    refine Wc.re 10 rfl hqa (Wc.re 11 rfl hqb ?_)
    refine Wc.loop (ι := Nat × List Value) (fun (k, cs) => ([(12, .int .i64 (k : Int)), (11, Go.Value.slice qo3 qoc3 qoc3), (10, Go.Value.slice qc3 qcc3 qcc3), (3, Go.Value.pointer (Option.some (Go.Addr.mk b2 0 Option.none))), (2, Go.Value.bool Bool.false), (1, Go.Value.pointer (Option.some (Go.Addr.mk b1 0 Option.none)))], [(14, qc3.map (·.block), .cells cs.toArray 34 (0, 0)), (15, Option.map (fun x => Go.Addr.block x) qo3, Go.Obj.cells (List.toArray ds) 3), (22, Option.some b5, Go.Obj.cells #[Go.Value.int Go.IntKind.i64 (Go.Proofs.Ytfleehgbpgmcnaa.PV.ins (Go.Proofs.Ytfleehgbpgmcnaa.passP p)), Go.Value.int Go.IntKind.i64 (Go.Proofs.Ytfleehgbpgmcnaa.PV.regs (Go.Proofs.Ytfleehgbpgmcnaa.passP p)), Go.Value.slice nc (List.length (Go.Proofs.Ytfleehgbpgmcnaa.PV.code (Go.Proofs.Ytfleehgbpgmcnaa.passP p))) ncc, Go.Value.slice no (List.length (Go.Proofs.Ytfleehgbpgmcnaa.PV.outs (Go.Proofs.Ytfleehgbpgmcnaa.passP p))) noc] 25), (20, Option.map (fun x => Go.Addr.block x) nc, Go.Sl.Row (α := Go.Sl.Instr) 34 (Go.Proofs.Ytfleehgbpgmcnaa.PV.code (Go.Proofs.Ytfleehgbpgmcnaa.passP p)) (nj)), (21, Option.map (fun x => Go.Addr.block x) no, Go.Sl.Row (α := Int) 3 (Go.Proofs.Ytfleehgbpgmcnaa.PV.outs (Go.Proofs.Ytfleehgbpgmcnaa.passP p)) (nk)), (19, Option.some b4, Go.Obj.cells #[Go.Value.int Go.IntKind.i64 (Go.Proofs.Ytfleehgbpgmcnaa.PV.ins (Go.Proofs.Ytfleehgbpgmcnaa.passP p)), Go.Value.int Go.IntKind.i64 (Go.Proofs.Ytfleehgbpgmcnaa.PV.regs (Go.Proofs.Ytfleehgbpgmcnaa.passP p)), Go.Value.slice rc (List.length (Go.Proofs.Ytfleehgbpgmcnaa.PV.code (Go.Proofs.Ytfleehgbpgmcnaa.passP p))) rcc, Go.Value.slice ro (List.length (Go.Proofs.Ytfleehgbpgmcnaa.PV.outs (Go.Proofs.Ytfleehgbpgmcnaa.passP p))) roc] 25), (17, Option.map (fun x => Go.Addr.block x) rc, Go.Sl.Row (α := Go.Sl.Instr) 34 (Go.Proofs.Ytfleehgbpgmcnaa.PV.code (Go.Proofs.Ytfleehgbpgmcnaa.passP p)) (rj)), (18, Option.map (fun x => Go.Addr.block x) ro, Go.Sl.Row (α := Int) 3 (Go.Proofs.Ytfleehgbpgmcnaa.PV.outs (Go.Proofs.Ytfleehgbpgmcnaa.passP p)) (rk)), (16, Option.some b3, Go.Obj.cells #[Go.Value.int Go.IntKind.i64 (Go.Proofs.Ytfleehgbpgmcnaa.PV.ins (Go.Proofs.Ytfleehgbpgmcnaa.passP p)), Go.Value.int Go.IntKind.i64 (Go.Proofs.Ytfleehgbpgmcnaa.PV.regs (Go.Proofs.Ytfleehgbpgmcnaa.passP p)), Go.Value.slice qc3 (List.length (Go.Proofs.Ytfleehgbpgmcnaa.PV.code (Go.Proofs.Ytfleehgbpgmcnaa.passP p))) qcc3, Go.Value.slice qo3 (List.length (Go.Proofs.Ytfleehgbpgmcnaa.PV.outs (Go.Proofs.Ytfleehgbpgmcnaa.passP p))) qoc3] 25), (13, Option.some b2, Go.Obj.cells #[Go.Value.int Go.IntKind.i64 (Go.Proofs.Ytfleehgbpgmcnaa.PV.ins p), Go.Value.int Go.IntKind.i64 (Go.Proofs.Ytfleehgbpgmcnaa.PV.regs p), Go.Value.slice oc2 (List.length (Go.Proofs.Ytfleehgbpgmcnaa.PV.code p)) occ2, Go.Value.slice oo2 (List.length (Go.Proofs.Ytfleehgbpgmcnaa.PV.outs p)) ooc2] 25), (11, Option.map (fun x => Go.Addr.block x) oc2, Go.Sl.Row (α := Go.Sl.Instr) 34 (Go.Proofs.Ytfleehgbpgmcnaa.PV.code p) (oj2)), (12, Option.map (fun x => Go.Addr.block x) oo2, Go.Sl.Row (α := Int) 3 (Go.Proofs.Ytfleehgbpgmcnaa.PV.outs p) (ok2)), (0, Option.some b1, Go.Obj.cells #[Go.Value.int Go.IntKind.i64 (Go.Proofs.Ytfleehgbpgmcnaa.PV.ins p), Go.Value.int Go.IntKind.i64 (Go.Proofs.Ytfleehgbpgmcnaa.PV.regs p), Go.Value.slice ac (List.length (Go.Proofs.Ytfleehgbpgmcnaa.PV.code p)) cc, Go.Value.slice ao (List.length (Go.Proofs.Ytfleehgbpgmcnaa.PV.outs p)) co] 25)])) (fun (k, cs) => k ≤ qcc3 ∧ Blk qc3 qcc3 5 cs) (fun (k, cs) => qcc3 - k) ((0, cs)) (⟨Nat.zero_le _, hcb⟩) ⟨rfl, rfl, rfl, rfl, rfl, rfl, trivial⟩ ⟨rfl, rfl, rfl, rfl, rfl, rfl, rfl, rfl, rfl, rfl, rfl, rfl, rfl, trivial⟩ (fun ⟨k, cs⟩ => fun (hk : k ≤ qcc3 ∧ Blk qc3 qcc3 5 cs) => ?_)
    obtain ⟨hk1, hk2⟩ := hk
    refine Wc.seq ?_
    refine Wc.seq ?_
    refine Wc.region rfl ?_
    refine Wl.q rfl (Qy.move rfl) ?_
    refine Wl.q rfl (Qy.move rfl) ?_
    refine Wl.q rfl (Qy.len T.sl22 rfl) ?_
    refine Wl.q rfl (Qy.lss rfl rfl) ?_
    refine Wl.done ?_
    refine Ar.next ?_
    refine Wc.cond rfl (fun hc6 => ?_) (fun hc6 => ?_)
    refine Wc.skip ?_
    refine Ar.next ?_
    refine Wc.seq ?_
    refine Wc.block ?_
    refine Wc.region rfl ?_
    refine Wl.q rfl (Qy.move rfl) ?_
    refine Wl.q rfl (Qy.move rfl) ?_
    refine Wl.q rfl (Qy.build (cs := [_, _, _, _, _]) T.st34 rfl rfl rfl) ?_
    rotate_left
    refine Wc.exit ?_
    refine Ar.passExit ?_
    refine Ar.passExit ?_
    refine Ar.here ?_
    refine Ar.next ?_
    refine Wc.seq ?_
    refine Wc.seq ?_
    refine Wc.region rfl ?_
    refine Wl.q rfl (Qy.assign rfl) ?_
    refine Wl.done ?_
    refine Ar.next ?_
    refine Wc.block ?_
    rotate_left
    · refine Wl.q rfl (Qy.indexAddrK T.sl22 rfl rfl hk2 (by omega)) (Wl.storeK 14 T.size34 rfl rfl rfl rfl rfl rfl hk2 (by omega) (fun cs' hcs' => ?_))
      refine Wl.done ?_
      refine Ar.outNormal ?_
      refine Ar.next ?_
      refine Wc.region rfl ?_
      refine Wl.q rfl (Qy.move rfl) ?_
      refine Wl.q rfl (Qy.add rfl rfl (by omega)) ?_
      refine Wl.q rfl (Qy.assign rfl) ?_
      refine Wl.done ?_
      refine Ar.again ((k + 1, cs')) ?_ ?_ rfl ⟨rfl, rfl, rfl, rfl, rfl, rfl, trivial⟩ ⟨rfl, rfl, rfl, rfl, rfl, rfl, rfl, rfl, rfl, rfl, rfl, rfl, rfl, trivial⟩
      · exact ⟨by omega, hcs'⟩
      · show qcc3 - (k + 1) < qcc3 - k
        omega
    clear hc6 hk2 hk1
    refine Wc.loop (ι := Nat × List Value) (fun (k, ds) => ([(13, .int .i64 (k : Int)), (11, Go.Value.slice qo3 qoc3 qoc3), (3, Go.Value.pointer (Option.some (Go.Addr.mk b2 0 Option.none))), (2, Go.Value.bool Bool.false), (1, Go.Value.pointer (Option.some (Go.Addr.mk b1 0 Option.none)))], [(15, qo3.map (·.block), .cells ds.toArray 3 (0, 0)), (14, Option.map (fun x => Go.Addr.block x) qc3, Go.Obj.cells (List.toArray cs) 34), (22, Option.some b5, Go.Obj.cells #[Go.Value.int Go.IntKind.i64 (Go.Proofs.Ytfleehgbpgmcnaa.PV.ins (Go.Proofs.Ytfleehgbpgmcnaa.passP p)), Go.Value.int Go.IntKind.i64 (Go.Proofs.Ytfleehgbpgmcnaa.PV.regs (Go.Proofs.Ytfleehgbpgmcnaa.passP p)), Go.Value.slice nc (List.length (Go.Proofs.Ytfleehgbpgmcnaa.PV.code (Go.Proofs.Ytfleehgbpgmcnaa.passP p))) ncc, Go.Value.slice no (List.length (Go.Proofs.Ytfleehgbpgmcnaa.PV.outs (Go.Proofs.Ytfleehgbpgmcnaa.passP p))) noc] 25), (20, Option.map (fun x => Go.Addr.block x) nc, Go.Sl.Row (α := Go.Sl.Instr) 34 (Go.Proofs.Ytfleehgbpgmcnaa.PV.code (Go.Proofs.Ytfleehgbpgmcnaa.passP p)) (nj)), (21, Option.map (fun x => Go.Addr.block x) no, Go.Sl.Row (α := Int) 3 (Go.Proofs.Ytfleehgbpgmcnaa.PV.outs (Go.Proofs.Ytfleehgbpgmcnaa.passP p)) (nk)), (19, Option.some b4, Go.Obj.cells #[Go.Value.int Go.IntKind.i64 (Go.Proofs.Ytfleehgbpgmcnaa.PV.ins (Go.Proofs.Ytfleehgbpgmcnaa.passP p)), Go.Value.int Go.IntKind.i64 (Go.Proofs.Ytfleehgbpgmcnaa.PV.regs (Go.Proofs.Ytfleehgbpgmcnaa.passP p)), Go.Value.slice rc (List.length (Go.Proofs.Ytfleehgbpgmcnaa.PV.code (Go.Proofs.Ytfleehgbpgmcnaa.passP p))) rcc, Go.Value.slice ro (List.length (Go.Proofs.Ytfleehgbpgmcnaa.PV.outs (Go.Proofs.Ytfleehgbpgmcnaa.passP p))) roc] 25), (17, Option.map (fun x => Go.Addr.block x) rc, Go.Sl.Row (α := Go.Sl.Instr) 34 (Go.Proofs.Ytfleehgbpgmcnaa.PV.code (Go.Proofs.Ytfleehgbpgmcnaa.passP p)) (rj)), (18, Option.map (fun x => Go.Addr.block x) ro, Go.Sl.Row (α := Int) 3 (Go.Proofs.Ytfleehgbpgmcnaa.PV.outs (Go.Proofs.Ytfleehgbpgmcnaa.passP p)) (rk)), (16, Option.some b3, Go.Obj.cells #[Go.Value.int Go.IntKind.i64 (Go.Proofs.Ytfleehgbpgmcnaa.PV.ins (Go.Proofs.Ytfleehgbpgmcnaa.passP p)), Go.Value.int Go.IntKind.i64 (Go.Proofs.Ytfleehgbpgmcnaa.PV.regs (Go.Proofs.Ytfleehgbpgmcnaa.passP p)), Go.Value.slice qc3 (List.length (Go.Proofs.Ytfleehgbpgmcnaa.PV.code (Go.Proofs.Ytfleehgbpgmcnaa.passP p))) qcc3, Go.Value.slice qo3 (List.length (Go.Proofs.Ytfleehgbpgmcnaa.PV.outs (Go.Proofs.Ytfleehgbpgmcnaa.passP p))) qoc3] 25), (13, Option.some b2, Go.Obj.cells #[Go.Value.int Go.IntKind.i64 (Go.Proofs.Ytfleehgbpgmcnaa.PV.ins p), Go.Value.int Go.IntKind.i64 (Go.Proofs.Ytfleehgbpgmcnaa.PV.regs p), Go.Value.slice oc2 (List.length (Go.Proofs.Ytfleehgbpgmcnaa.PV.code p)) occ2, Go.Value.slice oo2 (List.length (Go.Proofs.Ytfleehgbpgmcnaa.PV.outs p)) ooc2] 25), (11, Option.map (fun x => Go.Addr.block x) oc2, Go.Sl.Row (α := Go.Sl.Instr) 34 (Go.Proofs.Ytfleehgbpgmcnaa.PV.code p) (oj2)), (12, Option.map (fun x => Go.Addr.block x) oo2, Go.Sl.Row (α := Int) 3 (Go.Proofs.Ytfleehgbpgmcnaa.PV.outs p) (ok2)), (0, Option.some b1, Go.Obj.cells #[Go.Value.int Go.IntKind.i64 (Go.Proofs.Ytfleehgbpgmcnaa.PV.ins p), Go.Value.int Go.IntKind.i64 (Go.Proofs.Ytfleehgbpgmcnaa.PV.regs p), Go.Value.slice ac (List.length (Go.Proofs.Ytfleehgbpgmcnaa.PV.code p)) cc, Go.Value.slice ao (List.length (Go.Proofs.Ytfleehgbpgmcnaa.PV.outs p)) co] 25)])) (fun (k, ds) => k ≤ qoc3 ∧ Blk qo3 qoc3 1 ds) (fun (k, ds) => qoc3 - k) ((0, ds)) (⟨Nat.zero_le _, hdb⟩) ⟨rfl, rfl, rfl, rfl, rfl, trivial⟩ ⟨rfl, rfl, rfl, rfl, rfl, rfl, rfl, rfl, rfl, rfl, rfl, rfl, rfl, trivial⟩ (fun ⟨k, ds⟩ => fun (hk : k ≤ qoc3 ∧ Blk qo3 qoc3 1 ds) => ?_)
    obtain ⟨hk1, hk2⟩ := hk
    refine Wc.seq ?_
    refine Wc.seq ?_
    refine Wc.region rfl ?_
    refine Wl.q rfl (Qy.move rfl) ?_
    refine Wl.q rfl (Qy.move rfl) ?_
    refine Wl.q rfl (Qy.len T.sl23 rfl) ?_
    refine Wl.q rfl (Qy.lss rfl rfl) ?_
    refine Wl.done ?_
    refine Ar.next ?_
    refine Wc.cond rfl (fun hc6 => ?_) (fun hc6 => ?_)
    refine Wc.skip ?_
    refine Ar.next ?_
    refine Wc.seq ?_
    refine Wc.block ?_
    refine Wc.region rfl ?_
    refine Wl.q rfl (Qy.move rfl) ?_
    refine Wl.q rfl (Qy.move rfl) ?_
    rotate_left
    refine Wc.exit ?_
    refine Ar.passExit ?_
    refine Ar.passExit ?_
    refine Ar.here ?_
    refine Ar.next ?_
    refine Wc.seq ?_
    refine Wc.region rfl ?_
    refine Wl.q rfl (Qy.loadAll 0 T.agg25 rfl rfl rfl) ?_
    refine Wl.q rfl (Qy.loadAll 13 T.agg25 rfl rfl rfl) ?_
    rotate_left
    · refine Wl.q rfl (Qy.indexAddrK T.sl23 rfl rfl hk2 (by omega)) (Wl.storeK (vs := [.int .i64 (-3)]) 15 T.size3 rfl rfl rfl rfl rfl rfl hk2 (by omega) (fun cs' hcs' => ?_))
      refine Wl.done ?_
      refine Ar.outNormal ?_
      refine Ar.next ?_
      refine Wc.region rfl ?_
      refine Wl.q rfl (Qy.move rfl) ?_
      refine Wl.q rfl (Qy.add rfl rfl (by omega)) ?_
      refine Wl.q rfl (Qy.assign rfl) ?_
      refine Wl.done ?_
      refine Ar.again ((k + 1, cs')) ?_ ?_ rfl ⟨rfl, rfl, rfl, rfl, rfl, trivial⟩ ⟨rfl, rfl, rfl, rfl, rfl, rfl, rfl, rfl, rfl, rfl, rfl, rfl, rfl, trivial⟩
      · exact ⟨by omega, hcs'⟩
      · show qoc3 - (k + 1) < qoc3 - k
        omega
    clear hc6 hk2 hk1
    refine Wl.callB 23 rfl T.fn18 rfl (fun Gx hGx hgx => c18 Gx p p ac ao oc2 oo2 cc co occ2 ooc2 (hc.up hGx) (ho.up hGx) (Arr.own hgx 11 rfl hoc2) (Arr.own hgx 12 rfl hoo2) (by omega) (by omega)) (fun v14 Gx14 G14 Ho14 hlx14 hp => ?_)
    obtain ⟨rfl, rfl, rfl⟩ := hp
    refine Wl.q rfl (Qy.assign rfl) ?_
    refine Wl.done ?_
    refine Ar.next ?_
    refine Wc.ret ?_
    refine Ar.out1 (.inr rfl) (Ho := Hp.only _ []) rfl (.tmp rfl) (Hp.sub_only _ _) ?_
    exact ⟨by simp, rfl, rfl⟩
  · refine Does.enter Try.func3 rfl Try.ntmps3 rfl (fun w => ?_)
    refine Wc.seq ?_
    refine Wc.region rfl ?_
    refine Wl.box 0 rfl rfl rfl (fun b1 => ?_)
    refine Wl.q rfl (Qy.assign rfl) ?_
    refine Wl.done ?_
    refine Ar.next ?_
    refine Wc.seq ?_
    refine Wc.seq ?_
    refine Wc.region rfl ?_
    refine Wl.callB 1 rfl T.fn11 rfl (fun Gx hGx hgx => (c11 _)) (fun v1 Gx1 G1 Ho1 hlx1 hp => ?_)
    obtain ⟨rfl, rfl, rfl⟩ := hp
    refine Wl.q rfl (Qy.notD rfl) ?_
    refine Wl.done ?_
    refine Ar.next ?_
    refine Wc.cond rfl (fun hc1 => ?_) (fun hc1 => ?_)
    refine Wc.seq ?_
    refine Wc.region rfl ?_
    refine Wl.q rfl (Qy.assign rfl) ?_
    refine Wl.done ?_
    refine Ar.next ?_
    refine Wc.ret ?_
    refine Ar.passRet ?_
    refine Ar.out1 (.inr rfl) (Ho := Hp.only _ []) rfl (.tmp rfl) (Hp.sub_only _ _) ?_
    rotate_left
    refine Wc.skip ?_
    refine Ar.next ?_
    refine Wc.seq ?_
    refine Wc.seq ?_
    refine Wc.region rfl ?_
    refine Wl.q rfl (Qy.loadAll 0 T.agg25 rfl rfl rfl) ?_
    refine Wl.call0 rfl T.fn12 rfl (c12 _ _ _ _ _ _ (by omega) (by omega)) ?_
    refine Wl.done ?_
    refine Ar.next ?_
    refine Wc.cond rfl (fun hc2 => ?_) (fun hc2 => ?_)
    refine Wc.seq ?_
    refine Wc.region rfl ?_
    refine Wl.q rfl (Qy.assign rfl) ?_
    refine Wl.done ?_
    refine Ar.next ?_
    refine Wc.ret ?_
    refine Ar.passRet ?_
    refine Ar.out1 (.inr rfl) (Ho := Hp.only _ []) rfl (.tmp rfl) (Hp.sub_only _ _) ?_
    rotate_left
    refine Wc.skip ?_
    refine Ar.next ?_
    refine Wc.seq ?_
    refine Wc.region rfl ?_
    refine Wl.q rfl (Qy.loadAll 0 T.agg25 rfl rfl rfl) ?_
    refine Wl.callB 1 rfl T.fn13 rfl (fun Gx hGx hgx => (c13 _ _ _ _ _ _ (by first | exact Arr.up (by assumption) hGx | exact Arr.nil _) (by first | exact Arr.up (by assumption) hGx | exact Arr.nil _) (by omega) (by omega))) (fun v2 Gx2 G2 Ho2 hlx2 hp => ?_)
    obtain ⟨oc2, oo2, occ2, ooc2, oj2, ok2, rfl, hoc2, hoo2, rfl, rfl⟩ := hp
    refine Wl.alloc 13 rfl T.zero25 (fun b2 => ?_)
    refine Wl.storeAll 13 T.size25 rfl rfl rfl rfl rfl rfl ?_
    refine Wl.done ?_
    refine Ar.next ?_
    refine Wc.seq ?_
    refine Wc.region rfl ?_
    refine Wl.q rfl (Qy.loadAll 0 T.agg25 rfl rfl rfl) ?_
    refine Wl.callB 14 rfl T.fn14 rfl (fun Gx hGx hgx => (c14B _ _ _ _ _ _ (by first | exact Arr.up (by assumption) hGx | exact Arr.nil _ | exact Arr.own hgx 11 rfl (by first | assumption | exact OwnA.made (by simp [maxLen])) | exact Arr.own hgx 12 rfl (by first | assumption | exact OwnA.made (by simp [maxLen]))) (by first | exact Arr.up (by assumption) hGx | exact Arr.nil _ | exact Arr.own hgx 11 rfl (by first | assumption | exact OwnA.made (by simp [maxLen])) | exact Arr.own hgx 12 rfl (by first | assumption | exact OwnA.made (by simp [maxLen]))) (by omega) (by omega))) (fun v3 Gx3 G3 Ho3 hlx3 hp => ?_)
    obtain ⟨q3, e3, qc3, qo3, qcc3, qoc3, qj3, qk3, rfl, hq3, hqc3, hqo3, rfl, rfl⟩ := hp
    refine Wl.q rfl (Qy.move rfl) ?_
    refine Wl.q rfl (Qy.extract rfl rfl) ?_
    refine Wl.q rfl (Qy.extract rfl rfl) ?_
    refine Wl.alloc 16 rfl T.zero25 (fun b3 => ?_)
    refine Wl.storeAll 16 T.size25 rfl rfl rfl rfl rfl rfl ?_
    refine Wl.q rfl (Qy.assign rfl) ?_
    refine Wl.done ?_
    refine Ar.next ?_
    refine Wc.seq ?_
    refine Wc.region rfl ?_
    refine Wl.q rfl (Qy.loadAll 0 T.agg25 rfl rfl rfl) ?_
    refine Wl.callB 17 rfl T.fn15 rfl (fun Gx hGx hgx => (c15 _ _ _ _ _ _ (by first | exact Arr.up (by assumption) hGx | exact Arr.nil _ | exact Arr.own hgx 14 rfl (by first | assumption | exact OwnA.made (by simp [maxLen])) | exact Arr.own hgx 15 rfl (by first | assumption | exact OwnA.made (by simp [maxLen])) | exact Arr.own hgx 11 rfl (by first | assumption | exact OwnA.made (by simp [maxLen])) | exact Arr.own hgx 12 rfl (by first | assumption | exact OwnA.made (by simp [maxLen]))) (by first | exact Arr.up (by assumption) hGx | exact Arr.nil _ | exact Arr.own hgx 14 rfl (by first | assumption | exact OwnA.made (by simp [maxLen])) | exact Arr.own hgx 15 rfl (by first | assumption | exact OwnA.made (by simp [maxLen])) | exact Arr.own hgx 11 rfl (by first | assumption | exact OwnA.made (by simp [maxLen])) | exact Arr.own hgx 12 rfl (by first | assumption | exact OwnA.made (by simp [maxLen]))) (by omega) (by omega))) (fun v4 Gx4 G4 Ho4 hlx4 hp => ?_)
    obtain ⟨rfl, rfl, rfl⟩ := hp
    refine Wl.q rfl (Qy.assign rfl) ?_
    refine Wl.done ?_
    refine Ar.next ?_
    refine Wc.seq ?_
    refine Wc.seq ?_
    refine Wc.region rfl ?_
    refine Wl.q rfl (Qy.move rfl) ?_
    refine Wl.q rfl (Qy.notD rfl) ?_
    refine Wl.done ?_
    refine Ar.next ?_
    refine Wc.condP rfl (by first | assumption | omega) ?_
    refine Wc.seq ?_
    refine Wc.region rfl ?_
    refine Wl.q rfl (Qy.loadAll 16 T.agg25 rfl rfl rfl) ?_
    refine Wl.call0 rfl T.fn16 rfl (c16 _ _ _ _ _ _) ?_
    refine Wl.q rfl (Qy.move rfl) ?_
    apply Wl.joinAnd 3 31 34 rfl
    intro hg1
    refine Wl.want rfl rfl ?_
    refine Wl.q rfl (Qy.move rfl) ?_
    refine Wl.want rfl rfl ?_
    refine Wl.q rfl (Qy.eql rfl rfl) ?_
    refine Wl.q rfl (Qy.pick rfl rfl) ?_
    exact Wl.back 3 0 rfl rfl rfl rfl rfl
    intro hg1
    refine Wl.pass rfl rfl rfl ?_
    refine Wl.pass rfl rfl rfl ?_
    refine Wl.q rfl (Qy.pick rfl rfl) ?_
    exact Wl.back 3 0 rfl rfl rfl rfl rfl
    refine Wl.q rfl (Qy.move rfl) ?_
    apply Wl.joinAnd 2 35 37 rfl
    intro hg1
    refine Wl.want rfl rfl ?_
    refine Wl.callB 17 rfl T.fn11 rfl (fun Gx hGx hgx => (c11 _)) (fun v5 Gx5 G5 Ho5 hlx5 hp => ?_)
    obtain ⟨rfl, rfl, rfl⟩ := hp
    refine Wl.q rfl (Qy.pick rfl rfl) ?_
    exact Wl.back 2 0 rfl rfl rfl rfl rfl
    intro hg1
    refine Wl.pass rfl rfl rfl ?_
    refine Wl.q rfl (Qy.pick rfl rfl) ?_
    exact Wl.back 2 0 rfl rfl rfl rfl rfl
    refine Wl.q rfl (Qy.assign rfl) ?_
    refine Wl.done ?_
    refine Ar.next ?_
    refine Wc.ret ?_
    refine Ar.passRet ?_
    refine Ar.out1 (.inr rfl) (Ho := Hp.only _ []) rfl (.tmp rfl) (Hp.sub_only _ _) ?_
    rotate_left
    · exact absurd yes hc1
    · exact ⟨rfl, rfl, rfl⟩
    · obtain ⟨hq, he⟩ := hq3
      have hq : q3 = ⟨0, 0, [], []⟩ := by rw [hq]; unfold passE; rw [if_neg hR]
      have he : e3 = 80 := by rw [he]; unfold passErr; rw [if_neg hR]
      refine ⟨?_, rfl, rfl⟩
      rw [hq, he]
      simp [yes]
end Go.Proofs.Ytfleehgbpgmcnaa
