import Derived.Test.YtfleehgbpgmcnaaDoorSlP
import Derived.Test.YtfleehgbpgmcnaaDoorAo
set_option maxRecDepth 100000
set_option linter.unusedVariables false
namespace Go.Proofs.YtfleehgbpgmcnaaDoor
open Go Go.Sl

set_option maxHeartbeats 4000000
theorem fold_at (p : PV) {k : Nat} (h : k < (foldP p).code.length) : (foldP p).code[((k : Nat) : Int).toNat]?.getD default ∈ (foldP p).code := getD_mem h
theorem fold_code_right {p : PV} (hR : rightP p = true) : ∀ i ∈ (foldP p).code, mayOk i 128 = true := fun i hi => may_more (r := p.regs) (right_codes (fold_right hR) i hi) (right_128 hR)
theorem fold_code_again (p : PV) : (foldP (foldP p)).code = (foldP p).code := by rw [fold_again]
theorem fold_right' {p : PV} (hR : rightP p = true) : rightP ⟨p.ins, p.regs, (foldP p).code, p.outs⟩ = true := fold_right hR
theorem fold_again' (p : PV) : (foldP ⟨p.ins, p.regs, (foldP p).code, p.outs⟩).code = (foldP p).code := fold_code_again p
attribute [local irreducible] plainP meltP pushL foldTo foldP foldE errP rightP plainQ meltQ cntO
theorem c6W (G : Imm) (hT : TabOk G) (p : PV) (ac ao : Option Addr) (cc co : Nat) (hc : Arr G ac p.code) (ho : Arr G ao p.outs) (h1 : p.code.length ≤ 1048576) (h2 : p.outs.length ≤ 1048576) (hR : ¬ rightP p = true) :
    Does Tryd.prog 6 [.agg #[.int .i64 p.ins, .int .i64 p.regs, .slice ac p.code.length cc, .slice ao p.outs.length co]] G [] (fun v G' Ho => v = .bool true) := by
  refine Does.enter Tryd.func6 rfl Tryd.ntmps6 rfl (fun w => ?_)
  refine Wc.seq ?_
  refine Wc.region rfl ?_
  refine Wl.box 0 rfl rfl rfl (fun b1 => ?_)
  refine Wl.q rfl (Qy.assign rfl) ?_
  refine Wl.done ?_
  refine Ar.next ?_
  refine Wc.seq ?_
  refine Wc.seq ?_
  refine Wc.region rfl ?_
  refine Wl.call0 rfl T.fn7 rfl (c7 _ (by assumption)) ?_
  refine Wl.q rfl (Qy.not rfl) ?_
  refine Wl.done ?_
  refine Ar.next ?_
  refine Wc.condF rfl ?_
  refine Wc.skip ?_
  refine Ar.next ?_
  refine Wc.seq ?_
  refine Wc.seq ?_
  refine Wc.region rfl ?_
  refine Wl.q rfl (Qy.loadAll 0 T.agg25 rfl rfl rfl) ?_
  refine Wl.call0 rfl T.fn8 rfl (c8 _ _ _ _ _ _ (by omega) (by omega)) ?_
  refine Wl.done ?_
  refine Ar.next ?_
  refine Wc.cond rfl (fun hc1 => ?_) (fun hc1 => ?_)
  refine Wc.seq ?_
  refine Wc.region rfl ?_
  refine Wl.q rfl (Qy.assign rfl) ?_
  refine Wl.done ?_
  refine Ar.next ?_
  refine Wc.ret ?_
  refine Ar.passRet ?_
  rotate_left
  refine Wc.skip ?_
  refine Ar.next ?_
  refine Wc.seq ?_
  refine Wc.region rfl ?_
  refine Wl.q rfl (Qy.loadAll 0 T.agg25 rfl rfl rfl) ?_
  refine Wl.call 1 rfl T.fn10 rfl (c10W _ p _ _ _ _ (by assumption) (by assumption) (by omega) (by omega) (by assumption)) (tags_of trivial) (fun v1 G1 Ho1 hle1 hp => ?_)
  obtain ⟨rfl, rfl, rfl⟩ := hp
  refine Wl.q rfl (Qy.move rfl) ?_
  refine Wl.q rfl (Qy.extract rfl rfl) ?_
  refine Wl.q rfl (Qy.extract rfl rfl) ?_
  refine Wl.alloc 3 rfl T.zero25 (fun b2 => ?_)
  refine Wl.storeAll 3 T.size25 rfl rfl rfl rfl rfl rfl ?_
  refine Wl.q rfl (Qy.assign rfl) ?_
  refine Wl.done ?_
  refine Ar.next ?_
  refine Wc.seq ?_
  refine Wc.seq ?_
  refine Wc.region rfl ?_
  refine Wl.q rfl (Qy.move rfl) ?_
  refine Wl.q rfl (Qy.neq rfl rfl) ?_
  refine Wl.done ?_
  refine Ar.next ?_
  refine Wc.condP rfl (by first | assumption | omega) ?_
  refine Wc.seq ?_
  refine Wc.region rfl ?_
  refine Wl.q rfl (Qy.move rfl) ?_
  refine Wl.q rfl (Qy.eql rfl rfl) ?_
  refine Wl.q rfl (Qy.assign rfl) ?_
  refine Wl.done ?_
  refine Ar.next ?_
  refine Wc.ret ?_
  refine Ar.passRet ?_
  rotate_left
  all_goals exact Ar.out1 (.inr rfl) (Ho := []) rfl (.tmp rfl) trivial rfl
theorem c6R (G : Imm) (hT : TabOk G) (p : PV) (ac ao : Option Addr) (cc co : Nat) (hc : Arr G ac p.code) (ho : Arr G ao p.outs) (h1 : p.code.length ≤ 1048576) (h2 : p.outs.length ≤ 1048576) (hR : rightP p = true) :
    Does Tryd.prog 6 [.agg #[.int .i64 p.ins, .int .i64 p.regs, .slice ac p.code.length cc, .slice ao p.outs.length co]] G [] (fun v G' Ho => v = .bool true) := by
  have hfl := fold_len p
  refine Does.enter Tryd.func6 rfl Tryd.ntmps6 rfl (fun w => ?_)
  refine Wc.seq ?_
  refine Wc.region rfl ?_
  refine Wl.box 0 rfl rfl rfl (fun b1 => ?_)
  refine Wl.q rfl (Qy.assign rfl) ?_
  refine Wl.done ?_
  refine Ar.next ?_
  refine Wc.seq ?_
  refine Wc.seq ?_
  refine Wc.region rfl ?_
  refine Wl.call0 rfl T.fn7 rfl (c7 _ (by assumption)) ?_
  refine Wl.q rfl (Qy.not rfl) ?_
  refine Wl.done ?_
  refine Ar.next ?_
  refine Wc.condF rfl ?_
  refine Wc.skip ?_
  refine Ar.next ?_
  refine Wc.seq ?_
  refine Wc.seq ?_
  refine Wc.region rfl ?_
  refine Wl.q rfl (Qy.loadAll 0 T.agg25 rfl rfl rfl) ?_
  refine Wl.call0 rfl T.fn8 rfl (c8 _ _ _ _ _ _ (by omega) (by omega)) ?_
  refine Wl.done ?_
  refine Ar.next ?_
  refine Wc.cond rfl (fun hc1 => ?_) (fun hc1 => ?_)
  refine Wc.seq ?_
  refine Wc.region rfl ?_
  refine Wl.q rfl (Qy.assign rfl) ?_
  refine Wl.done ?_
  refine Ar.next ?_
  refine Wc.ret ?_
  refine Ar.passRet ?_
  rotate_left
  refine Wc.skip ?_
  refine Ar.next ?_
  refine Wc.seq ?_
  refine Wc.region rfl ?_
  refine Wl.q rfl (Qy.loadAll 0 T.agg25 rfl rfl rfl) ?_
  refine Wl.call 1 rfl T.fn10 rfl (c10RF _ (by assumption) p _ _ _ _ (by assumption) (by assumption) (by omega) (by omega) (by assumption)) (tags_of trivial) (fun v1 G1 Ho1 hle1 hp => ?_)
  obtain ⟨qc1, qo1, qcc1, qoc1, rfl, hqc1, hqo1, rfl⟩ := hp
  replace hc := hc.up hle1
  replace ho := ho.up hle1
  refine Wl.q rfl (Qy.move rfl) ?_
  refine Wl.q rfl (Qy.extract rfl rfl) ?_
  refine Wl.q rfl (Qy.extract rfl rfl) ?_
  refine Wl.alloc 1 rfl T.zero25 (fun b2 => ?_)
  refine Wl.storeAll 1 T.size25 rfl rfl rfl rfl rfl rfl ?_
  refine Wl.q rfl (Qy.assign rfl) ?_
  refine Wl.done ?_
  refine Ar.next ?_
  refine Wc.seq ?_
  refine Wc.seq ?_
  refine Wc.region rfl ?_
  refine Wl.q rfl (Qy.move rfl) ?_
  refine Wl.q rfl (Qy.neq rfl rfl) ?_
  refine Wl.done ?_
  refine Ar.next ?_
  refine Wc.condN rfl (by first | assumption | omega) ?_
  refine Wc.skip ?_
  refine Ar.next ?_
  refine Wc.seq ?_
  refine Wc.seq ?_
  refine Wc.region rfl ?_
  refine Wl.q rfl (Qy.fieldAddr T.fa25_2 rfl) ?_
  refine Wl.q rfl (Qy.load 1 T.one22 rfl rfl rfl) ?_
  refine Wl.q rfl (Qy.len T.sl22 rfl) ?_
  refine Wl.q rfl (Qy.fieldAddr T.fa25_2 rfl) ?_
  refine Wl.q rfl (Qy.load 0 T.one22 rfl rfl rfl) ?_
  refine Wl.q rfl (Qy.len T.sl22 rfl) ?_
  refine Wl.q rfl (Qy.gtr rfl rfl) ?_
  refine Wl.done ?_
  refine Ar.next ?_
  refine Wc.condN rfl (by first | assumption | omega) ?_
  refine Wc.skip ?_
  refine Ar.next ?_
  refine Wc.seq ?_
  refine Wc.seq ?_
  refine Wc.region rfl ?_
  refine Wl.q rfl (Qy.fieldAddr T.fa25_2 rfl) ?_
  refine Wl.q rfl (Qy.load 1 T.one22 rfl rfl rfl) ?_
  refine Wl.q rfl (Qy.len T.sl22 rfl) ?_
  refine Wl.q rfl (Qy.move rfl) ?_
  refine Wl.done ?_
  refine Ar.next ?_
  refine Wc.block ?_
  rotate_left
  · exact Ar.out1 (.inr rfl) (Ho := []) rfl (.tmp rfl) trivial rfl
  clear hc1
  replace hT := hT.up hle1
  refine Wc.loop (ι := Nat) (fun k => ([(39, .int .i64 (k : Int)), (38, Go.Value.int Go.IntKind.i64 (↑(List.length (Go.Proofs.YtfleehgbpgmcnaaDoor.PV.code (Go.Proofs.YtfleehgbpgmcnaaDoor.foldP p))) : Int)), (37, Go.Value.slice qc1 (List.length (Go.Proofs.YtfleehgbpgmcnaaDoor.PV.code (Go.Proofs.YtfleehgbpgmcnaaDoor.foldP p))) qcc1), (4, Go.Value.int Go.IntKind.i64 0), (3, Go.Value.pointer (Option.some (Go.Addr.mk b2 0 Option.none))), (1, Go.Value.pointer (Option.some (Go.Addr.mk b1 0 Option.none)))], [(1, Option.some b2, Go.Obj.cells #[Go.Value.int Go.IntKind.i64 (Go.Proofs.YtfleehgbpgmcnaaDoor.PV.ins p), Go.Value.int Go.IntKind.i64 (Go.Proofs.YtfleehgbpgmcnaaDoor.PV.regs p), Go.Value.slice qc1 (List.length (Go.Proofs.YtfleehgbpgmcnaaDoor.PV.code (Go.Proofs.YtfleehgbpgmcnaaDoor.foldP p))) qcc1, Go.Value.slice qo1 (List.length (Go.Proofs.YtfleehgbpgmcnaaDoor.PV.outs p)) qoc1] 25), (0, Option.some b1, Go.Obj.cells #[Go.Value.int Go.IntKind.i64 (Go.Proofs.YtfleehgbpgmcnaaDoor.PV.ins p), Go.Value.int Go.IntKind.i64 (Go.Proofs.YtfleehgbpgmcnaaDoor.PV.regs p), Go.Value.slice ac (List.length (Go.Proofs.YtfleehgbpgmcnaaDoor.PV.code p)) cc, Go.Value.slice ao (List.length (Go.Proofs.YtfleehgbpgmcnaaDoor.PV.outs p)) co] 25)])) (fun k => k ≤ (foldP p).code.length) (fun k => (foldP p).code.length - k) (0) (Nat.zero_le _) ⟨rfl, rfl, rfl, rfl, rfl, rfl, trivial⟩ ⟨rfl, rfl, trivial⟩ (fun k => fun (hk : k ≤ (foldP p).code.length) => ?_)
  rcases Nat.lt_or_ge k (foldP p).code.length with hlt | hge
  · have hmem := fold_at p hlt
    have hmay := fold_code_right hR _ hmem
    have hpl := (fold_plain p _ hmem).1
    have hid := (fold_plain p _ hmem).2
    have n1 : ¬ (plainP ((foldP p).code[((k : Nat) : Int).toNat]?.getD default) ≠ (foldP p).code[((k : Nat) : Int).toNat]?.getD default) := fun h => h hpl
    have n2 : ¬ (((foldP p).code[((k : Nat) : Int).toNat]?.getD default).op = 1 ∧ ((foldP p).code[((k : Nat) : Int).toNat]?.getD default).to = ((foldP p).code[((k : Nat) : Int).toNat]?.getD default).a) := fun h => hid (decide_eq_true h)
    rcases Nat.eq_zero_or_pos k with rfl | hpos
    · refine Wc.seq ?_
      refine Wc.region rfl ?_
      refine Wl.q rfl (Qy.lss rfl rfl) ?_
      refine Wl.done ?_
      refine Ar.next ?_
      refine Wc.seq ?_
      refine Wc.condP rfl (by first | assumption | omega) ?_
      refine Wc.skip ?_
      refine Ar.next ?_
      refine Wc.seq ?_
      refine Wc.block ?_
      refine Wc.seq ?_
      refine Wc.region rfl ?_
      refine Wl.q rfl (Qy.move rfl) ?_
      refine Wl.q rfl (Qy.at (α := Instr) T.sl22 rfl rfl (by assumption) (by omega)) ?_
      refine Wl.q rfl (Qy.loadsG T.agg34 rfl (Arr.elem (by assumption) (by omega)) rfl) ?_
      refine Wl.alloc 2 rfl T.zero34 (fun b3 => ?_)
      refine Wl.q rfl (Qy.assign rfl) ?_
      refine Wl.storeAll 2 T.size34 rfl rfl rfl rfl rfl rfl ?_
      refine Wl.done ?_
      refine Ar.next ?_
      refine Wc.seq ?_
      refine Wc.region rfl ?_
      refine Wl.q rfl (Qy.loadAll 2 T.agg34 rfl rfl rfl) ?_
      refine Wl.call0 rfl T.fn15 rfl (c15Y _ (by assumption) _ (by assumption)) ?_
      refine Wl.q rfl (Qy.move rfl) ?_
      refine Wl.q rfl (Qy.extract rfl rfl) ?_
      refine Wl.q rfl (Qy.extract rfl rfl) ?_
      refine Wl.alloc 3 rfl T.zero34 (fun b4 => ?_)
      refine Wl.storeAll 3 T.size34 rfl rfl rfl rfl rfl rfl ?_
      refine Wl.q rfl (Qy.assign rfl) ?_
      refine Wl.done ?_
      refine Ar.next ?_
      refine Wc.seq ?_
      refine Wc.seq ?_
      refine Wc.region rfl ?_
      refine Wl.q rfl (Qy.move rfl) ?_
      refine Wl.q rfl (Qy.move rfl) ?_
      refine Wl.no 50 rfl (by first | assumption | omega) ?_
      refine Wl.want rfl rfl ?_
      refine Wl.q rfl (Qy.loadAll 3 T.agg34 rfl rfl rfl) ?_
      refine Wl.want rfl rfl ?_
      refine Wl.q rfl (Qy.loadAll 2 T.agg34 rfl rfl rfl) ?_
      refine Wl.want rfl rfl ?_
      refine Wl.q rfl (Qy.neqInstr T.ai34 rfl rfl) ?_
      refine Wl.q rfl (Qy.pick rfl rfl) ?_
      refine Wl.q rfl (Qy.move rfl) ?_
      refine Wl.no 55 rfl (by first | assumption | omega) ?_
      refine Wl.want rfl rfl ?_
      refine Wl.q rfl (Qy.fieldAddr T.fa34_0 rfl) ?_
      refine Wl.want rfl rfl ?_
      refine Wl.q rfl (Qy.load 2 T.one3 rfl rfl rfl) ?_
      refine Wl.want rfl rfl ?_
      refine Wl.q rfl (Qy.eql rfl rfl) ?_
      refine Wl.want rfl rfl ?_
      refine Wl.q rfl (Qy.move rfl) ?_
      apply Wl.joinAnd 6 59 65 rfl
      intro hg1
      refine Wl.want rfl rfl ?_
      refine Wl.q rfl (Qy.fieldAddr T.fa34_1 rfl) ?_
      refine Wl.want rfl rfl ?_
      refine Wl.q rfl (Qy.load 2 T.one3 rfl rfl rfl) ?_
      refine Wl.want rfl rfl ?_
      refine Wl.q rfl (Qy.fieldAddr T.fa34_2 rfl) ?_
      refine Wl.want rfl rfl ?_
      refine Wl.q rfl (Qy.load 2 T.one3 rfl rfl rfl) ?_
      refine Wl.want rfl rfl ?_
      refine Wl.q rfl (Qy.eql rfl rfl) ?_
      refine Wl.want rfl rfl ?_
      refine Wl.q rfl (Qy.pick rfl rfl) ?_
      exact Wl.back 6 0 rfl rfl rfl rfl rfl
      intro hg1
      refine Wl.pass rfl rfl rfl ?_
      refine Wl.pass rfl rfl rfl ?_
      refine Wl.pass rfl rfl rfl ?_
      refine Wl.pass rfl rfl rfl ?_
      refine Wl.pass rfl rfl rfl ?_
      refine Wl.want rfl rfl ?_
      refine Wl.q rfl (Qy.pick rfl rfl) ?_
      exact Wl.back 6 0 rfl rfl rfl rfl rfl
      refine Wl.q rfl (Qy.pick rfl rfl) ?_
      refine Wl.done ?_
      refine Ar.next ?_
      refine Wc.condN rfl (by first | assumption | omega) ?_
      refine Wc.skip ?_
      refine Ar.next ?_
      refine Wc.seq ?_
      refine Wc.region rfl ?_
      refine Wl.q rfl (Qy.move rfl) ?_
      refine Wl.q rfl (Qy.gtr rfl rfl) ?_
      refine Wl.done ?_
      refine Ar.next ?_
      refine Wc.condN rfl (by first | assumption | omega) ?_
      refine Wc.skip ?_
      refine Ar.outNormal ?_
      refine Ar.next ?_
      refine Wc.region rfl ?_
      refine Wl.q rfl (Qy.add rfl rfl (by omega)) ?_
      refine Wl.q rfl (Qy.move rfl) ?_
      refine Wl.done ?_
      refine Ar.again (1) ?_ ?_ rfl ⟨rfl, rfl, rfl, rfl, rfl, rfl, trivial⟩ ⟨rfl, rfl, trivial⟩
      · show 1 ≤ (foldP p).code.length
        omega
      · show (foldP p).code.length - 1 < (foldP p).code.length - 0
        omega
    · have hm1 : (((k : Nat) : Int) - 1).toNat = k - 1 := by omega
      have hmem2 := fold_at p (show k - 1 < (foldP p).code.length by omega)
      have e2 : (((k - 1 : Nat) : Int)).toNat = (((k : Nat) : Int) - 1).toNat := by omega
      rw [e2] at hmem2
      have hmay2 := fold_code_right hR _ hmem2
      have hpl2 := (fold_plain p _ hmem2).1
      have hnx := fold_next p (k := k - 1) (by omega)
      rw [show k - 1 + 1 = k by omega] at hnx
      have hnx' : ¬ (meltP ((foldP p).code[(((k : Nat) : Int) - 1).toNat]?.getD default) ((foldP p).code[((k : Nat) : Int).toNat]?.getD default)).2 = true := by
        rw [hm1, Int.toNat_natCast]; exact hnx
      refine Wc.seq ?_
      refine Wc.region rfl ?_
      refine Wl.q rfl (Qy.lss rfl rfl) ?_
      refine Wl.done ?_
      refine Ar.next ?_
      refine Wc.seq ?_
      refine Wc.condP rfl (by first | assumption | omega) ?_
      refine Wc.skip ?_
      refine Ar.next ?_
      refine Wc.seq ?_
      refine Wc.block ?_
      refine Wc.seq ?_
      refine Wc.region rfl ?_
      refine Wl.q rfl (Qy.move rfl) ?_
      refine Wl.q rfl (Qy.at (α := Instr) T.sl22 rfl rfl (by assumption) (by omega)) ?_
      refine Wl.q rfl (Qy.loadsG T.agg34 rfl (Arr.elem (by assumption) (by omega)) rfl) ?_
      refine Wl.alloc 2 rfl T.zero34 (fun b3 => ?_)
      refine Wl.q rfl (Qy.assign rfl) ?_
      refine Wl.storeAll 2 T.size34 rfl rfl rfl rfl rfl rfl ?_
      refine Wl.done ?_
      refine Ar.next ?_
      refine Wc.seq ?_
      refine Wc.region rfl ?_
      refine Wl.q rfl (Qy.loadAll 2 T.agg34 rfl rfl rfl) ?_
      refine Wl.call0 rfl T.fn15 rfl (c15Y _ (by assumption) _ (by assumption)) ?_
      refine Wl.q rfl (Qy.move rfl) ?_
      refine Wl.q rfl (Qy.extract rfl rfl) ?_
      refine Wl.q rfl (Qy.extract rfl rfl) ?_
      refine Wl.alloc 3 rfl T.zero34 (fun b4 => ?_)
      refine Wl.storeAll 3 T.size34 rfl rfl rfl rfl rfl rfl ?_
      refine Wl.q rfl (Qy.assign rfl) ?_
      refine Wl.done ?_
      refine Ar.next ?_
      refine Wc.seq ?_
      refine Wc.seq ?_
      refine Wc.region rfl ?_
      refine Wl.q rfl (Qy.move rfl) ?_
      refine Wl.q rfl (Qy.move rfl) ?_
      refine Wl.no 50 rfl (by first | assumption | omega) ?_
      refine Wl.want rfl rfl ?_
      refine Wl.q rfl (Qy.loadAll 3 T.agg34 rfl rfl rfl) ?_
      refine Wl.want rfl rfl ?_
      refine Wl.q rfl (Qy.loadAll 2 T.agg34 rfl rfl rfl) ?_
      refine Wl.want rfl rfl ?_
      refine Wl.q rfl (Qy.neqInstr T.ai34 rfl rfl) ?_
      refine Wl.q rfl (Qy.pick rfl rfl) ?_
      refine Wl.q rfl (Qy.move rfl) ?_
      refine Wl.no 55 rfl (by first | assumption | omega) ?_
      refine Wl.want rfl rfl ?_
      refine Wl.q rfl (Qy.fieldAddr T.fa34_0 rfl) ?_
      refine Wl.want rfl rfl ?_
      refine Wl.q rfl (Qy.load 2 T.one3 rfl rfl rfl) ?_
      refine Wl.want rfl rfl ?_
      refine Wl.q rfl (Qy.eql rfl rfl) ?_
      refine Wl.want rfl rfl ?_
      refine Wl.q rfl (Qy.move rfl) ?_
      apply Wl.joinAnd 6 59 65 rfl
      intro hg1
      refine Wl.want rfl rfl ?_
      refine Wl.q rfl (Qy.fieldAddr T.fa34_1 rfl) ?_
      refine Wl.want rfl rfl ?_
      refine Wl.q rfl (Qy.load 2 T.one3 rfl rfl rfl) ?_
      refine Wl.want rfl rfl ?_
      refine Wl.q rfl (Qy.fieldAddr T.fa34_2 rfl) ?_
      refine Wl.want rfl rfl ?_
      refine Wl.q rfl (Qy.load 2 T.one3 rfl rfl rfl) ?_
      refine Wl.want rfl rfl ?_
      refine Wl.q rfl (Qy.eql rfl rfl) ?_
      refine Wl.want rfl rfl ?_
      refine Wl.q rfl (Qy.pick rfl rfl) ?_
      exact Wl.back 6 0 rfl rfl rfl rfl rfl
      intro hg1
      refine Wl.pass rfl rfl rfl ?_
      refine Wl.pass rfl rfl rfl ?_
      refine Wl.pass rfl rfl rfl ?_
      refine Wl.pass rfl rfl rfl ?_
      refine Wl.pass rfl rfl rfl ?_
      refine Wl.want rfl rfl ?_
      refine Wl.q rfl (Qy.pick rfl rfl) ?_
      exact Wl.back 6 0 rfl rfl rfl rfl rfl
      refine Wl.q rfl (Qy.pick rfl rfl) ?_
      refine Wl.done ?_
      refine Ar.next ?_
      refine Wc.condN rfl (by first | assumption | omega) ?_
      refine Wc.skip ?_
      refine Ar.next ?_
      refine Wc.seq ?_
      refine Wc.region rfl ?_
      refine Wl.q rfl (Qy.move rfl) ?_
      refine Wl.q rfl (Qy.gtr rfl rfl) ?_
      refine Wl.done ?_
      refine Ar.next ?_
      refine Wc.condP rfl (by first | assumption | omega) ?_
      refine Wc.seq ?_
      refine Wc.draw [0, 1, 2, 3] [(3, 12), (2, 12), (1, 12), (0, 12)] T.mixed rfl ?_
      refine Gm.q 0 [] (by kernel_rfl) rfl rfl (Qy.fieldAddr T.fa25_2 rfl) ?_
      refine Gm.q 1 [1] (by kernel_rfl) rfl rfl (Qy.load 1 T.one22 rfl rfl rfl) ?_
      refine Gm.q 2 [] (by kernel_rfl) rfl rfl (Qy.move rfl) ?_
      refine Gm.q 3 [] (by kernel_rfl) rfl rfl (Qy.sub rfl rfl (by omega)) ?_
      refine Gm.q 4 [] (by kernel_rfl) rfl rfl (Qy.at (α := Instr) T.sl22 rfl rfl (by assumption) (by omega)) ?_
      refine Gm.q 5 [] (by kernel_rfl) rfl rfl (Qy.loadsG T.agg34 rfl (Arr.elem (by assumption) (by omega)) rfl) ?_
      refine Gm.q 6 [2] (by kernel_rfl) rfl rfl (Qy.loadAll 2 T.agg34 rfl rfl rfl) ?_
      refine Gm.two 7 11 ⟨rfl, rfl, rfl, rfl, trivial⟩ (by first | exact Imm.le_refl _ | assumption) (by kernel_rfl) rfl rfl ?_ ?_
      refine Wl.call0 rfl T.fn16 rfl (c16Y _ (by assumption) _ _ (by assumption) (by assumption) (by assumption) (by assumption)) ?_
      refine Wl.on0 ?_
      refine Gm.q 8 [] (by kernel_rfl) rfl rfl (Qy.move rfl) ?_
      refine Gm.q 9 [] (by kernel_rfl) rfl rfl (Qy.extract rfl rfl) ?_
      refine Gm.q 10 [] (by kernel_rfl) rfl rfl (Qy.extract rfl rfl) ?_
      refine Gm.one 11 ⟨rfl, rfl, rfl, rfl, trivial⟩ (by first | exact Imm.le_refl _ | assumption) (by kernel_rfl) rfl ?_
      refine Wl.alloc 4 rfl T.zero34 (fun b5 => ?_)
      refine Wl.on0 ?_
      refine Gm.one 12 ⟨rfl, rfl, rfl, rfl, trivial⟩ (by first | exact Imm.le_refl _ | assumption) (by kernel_rfl) rfl ?_
      refine Wl.storeAll 4 T.size34 rfl rfl rfl rfl rfl rfl ?_
      refine Wl.on0 ?_
      refine Gm.q 13 [] (by kernel_rfl) rfl rfl (Qy.assign rfl) ?_
      refine Gm.doneA (by kernel_rfl) trivial (by first | exact Imm.le_refl _ | assumption) ?_
      refine Ar.next ?_
      refine Wc.seq ?_
      refine Wc.region rfl ?_
      refine Wl.q rfl (Qy.move rfl) ?_
      refine Wl.done ?_
      refine Ar.next ?_
      refine Wc.ite rfl (fun hc1 => ?_) (fun hc1 => ?_)
      refine Wc.seq ?_
      refine Wc.region rfl ?_
      refine Wl.q rfl (Qy.assign rfl) ?_
      refine Wl.done ?_
      refine Ar.next ?_
      refine Wc.ret ?_
      refine Ar.outRet ?_
      refine Ar.passRet ?_
      refine Ar.passRet ?_
      refine Ar.outRet ?_
      refine Ar.passRet ?_
      rotate_left
      refine Wc.skip ?_
      refine Ar.outNormal ?_
      refine Ar.next ?_
      refine Wc.region rfl ?_
      refine Wl.q rfl (Qy.add rfl rfl (by omega)) ?_
      refine Wl.q rfl (Qy.move rfl) ?_
      refine Wl.done ?_
      rotate_left
      refine Wl.alloc 4 rfl T.zero34 (fun b5 => ?_)
      refine Wl.on0 ?_
      refine Gm.one 7 ⟨rfl, rfl, rfl, rfl, trivial⟩ (by first | exact Imm.le_refl _ | assumption) (by kernel_rfl) rfl ?_
      refine Wl.call0 rfl T.fn16 rfl (c16Y _ (by assumption) _ _ (by assumption) (by assumption) (by assumption) (by assumption)) ?_
      refine Wl.on0 ?_
      refine Gm.q 8 [] (by kernel_rfl) rfl rfl (Qy.move rfl) ?_
      refine Gm.q 9 [] (by kernel_rfl) rfl rfl (Qy.extract rfl rfl) ?_
      refine Gm.q 10 [] (by kernel_rfl) rfl rfl (Qy.extract rfl rfl) ?_
      refine Gm.one 12 ⟨rfl, rfl, rfl, rfl, trivial⟩ (by first | exact Imm.le_refl _ | assumption) (by kernel_rfl) rfl ?_
      refine Wl.storeAll 4 T.size34 rfl rfl rfl rfl rfl rfl ?_
      refine Wl.on0 ?_
      refine Gm.q 13 [] (by kernel_rfl) rfl rfl (Qy.assign rfl) ?_
      refine Gm.doneA (by kernel_rfl) trivial (by first | exact Imm.le_refl _ | assumption) ?_
      refine Ar.next ?_
      refine Wc.seq ?_
      refine Wc.region rfl ?_
      refine Wl.q rfl (Qy.move rfl) ?_
      refine Wl.done ?_
      refine Ar.next ?_
      refine Wc.ite rfl (fun hc1 => ?_) (fun hc1 => ?_)
      refine Wc.seq ?_
      refine Wc.region rfl ?_
      refine Wl.q rfl (Qy.assign rfl) ?_
      refine Wl.done ?_
      refine Ar.next ?_
      refine Wc.ret ?_
      refine Ar.outRet ?_
      refine Ar.passRet ?_
      refine Ar.passRet ?_
      refine Ar.outRet ?_
      refine Ar.passRet ?_
      rotate_left
      refine Wc.skip ?_
      refine Ar.outNormal ?_
      refine Ar.next ?_
      refine Wc.region rfl ?_
      refine Wl.q rfl (Qy.add rfl rfl (by omega)) ?_
      refine Wl.q rfl (Qy.move rfl) ?_
      refine Wl.done ?_
      rotate_left
      · exact absurd (by assumption) hnx'
      · refine Ar.again (k + 1) ?_ ?_ rfl ⟨rfl, rfl, rfl, rfl, rfl, rfl, trivial⟩ ⟨rfl, rfl, trivial⟩
        · show k + 1 ≤ (foldP p).code.length
          omega
        · show (foldP p).code.length - (k + 1) < (foldP p).code.length - k
          omega
      · exact absurd (by assumption) hnx'
      · refine Ar.again (k + 1) ?_ ?_ rfl ⟨rfl, rfl, rfl, rfl, rfl, rfl, trivial⟩ ⟨rfl, rfl, trivial⟩
        · show k + 1 ≤ (foldP p).code.length
          omega
        · show (foldP p).code.length - (k + 1) < (foldP p).code.length - k
          omega
  · have hRq := fold_right' hR
    have hag := fold_again' p
    refine Wc.seq ?_
    refine Wc.region rfl ?_
    refine Wl.q rfl (Qy.lss rfl rfl) ?_
    refine Wl.done ?_
    refine Ar.next ?_
    refine Wc.seq ?_
    refine Wc.condN rfl (by first | assumption | omega) ?_
    refine Wc.exit ?_
    refine Ar.passExit ?_
    refine Ar.passExit ?_
    refine Ar.here ?_
    refine Ar.next ?_
    refine Wc.seq ?_
    refine Wc.region rfl ?_
    refine Wl.q rfl (Qy.loadAll 1 T.agg25 rfl rfl rfl) ?_
    refine Wl.call 20 rfl T.fn10 rfl (c10RF _ hT ⟨p.ins, p.regs, (foldP p).code, p.outs⟩ _ _ _ _ hqc1 hqo1 (by show (foldP p).code.length ≤ _; omega) (by show p.outs.length ≤ _; omega) hRq) (tags_of trivial) (fun v3 G3 Ho3 hle3 hp => ?_)
    obtain ⟨rc, ro, rcc, roc, rfl, hrc, hro, rfl⟩ := hp
    replace hqc1 := hqc1.up hle3
    replace hqo1 := hqo1.up hle3
    replace hc := hc.up hle3
    replace ho := ho.up hle3
    refine Wl.q rfl (Qy.move rfl) ?_
    refine Wl.q rfl (Qy.extract rfl rfl) ?_
    refine Wl.q rfl (Qy.extract rfl rfl) ?_
    refine Wl.alloc 2 rfl T.zero25 (fun b3 => ?_)
    refine Wl.storeAll 2 T.size25 rfl rfl rfl rfl rfl rfl ?_
    refine Wl.q rfl (Qy.assign rfl) ?_
    refine Wl.done ?_
    refine Ar.next ?_
    refine Wc.seq ?_
    refine Wc.region rfl ?_
    refine Wl.q rfl (Qy.loadAll 0 T.agg25 rfl rfl rfl) ?_
    refine Wl.call 20 rfl T.fn20 rfl (c20R _ p _ _ _ _ hc ho h1 h2 hR) (tags_of trivial) (fun v4 G4 Ho4 hle4 hp => ?_)
    obtain ⟨m4, a4, s4, rfl, rfl, rfl⟩ := hp
    refine Wl.q rfl (Qy.move rfl) ?_
    refine Wl.q rfl (Qy.extract rfl rfl) ?_
    refine Wl.q rfl (Qy.extract rfl rfl) ?_
    refine Wl.alloc 3 rfl T.zero47 (fun b4 => ?_)
    refine Wl.storeAll 3 T.size47 rfl rfl rfl rfl rfl rfl ?_
    refine Wl.q rfl (Qy.assign rfl) ?_
    refine Wl.done ?_
    refine Ar.next ?_
    refine Wc.seq ?_
    refine Wc.region rfl ?_
    refine Wl.q rfl (Qy.loadAll 1 T.agg25 rfl rfl rfl) ?_
    refine Wl.call 20 rfl T.fn20 rfl (c20R _ ⟨p.ins, p.regs, (foldP p).code, p.outs⟩ _ _ _ _ hqc1 hqo1 (by show (foldP p).code.length ≤ _; omega) (by show p.outs.length ≤ _; omega) hRq) (tags_of trivial) (fun v5 G5 Ho5 hle5 hp => ?_)
    obtain ⟨m5, a5, s5, rfl, rfl, rfl⟩ := hp
    have hm5 : ((cntO 5 (⟨p.ins, p.regs, (foldP p).code, p.outs⟩ : PV).code : Nat) : Int) ≤ (cntO 5 p.code : Nat) := Int.ofNat_le.2 (fold_cnt (.inl rfl) p)
    have hm6 : ((cntO 6 (⟨p.ins, p.regs, (foldP p).code, p.outs⟩ : PV).code : Nat) : Int) ≤ (cntO 6 p.code : Nat) := Int.ofNat_le.2 (fold_cnt (.inr rfl) p)
    refine Wl.q rfl (Qy.move rfl) ?_
    refine Wl.q rfl (Qy.extract rfl rfl) ?_
    refine Wl.q rfl (Qy.extract rfl rfl) ?_
    refine Wl.alloc 4 rfl T.zero47 (fun b5 => ?_)
    refine Wl.storeAll 4 T.size47 rfl rfl rfl rfl rfl rfl ?_
    refine Wl.q rfl (Qy.assign rfl) ?_
    refine Wl.done ?_
    refine Ar.next ?_
    refine Wc.seq ?_
    refine Wc.region rfl ?_
    refine Wl.q rfl (Qy.move rfl) ?_
    refine Wl.q rfl (Qy.eql rfl rfl) ?_
    refine Wl.q rfl (Qy.move rfl) ?_
    refine Wl.yes 99 rfl (by first | assumption | omega) ?_
    refine Wl.want rfl rfl ?_
    refine Wl.q rfl (Qy.move rfl) ?_
    refine Wl.want rfl rfl ?_
    refine Wl.q rfl (Qy.eql rfl rfl) ?_
    refine Wl.q rfl (Qy.pick rfl rfl) ?_
    refine Wl.q rfl (Qy.move rfl) ?_
    refine Wl.yes 103 rfl (by first | assumption | omega) ?_
    refine Wl.want rfl rfl ?_
    refine Wl.q rfl (Qy.move rfl) ?_
    refine Wl.want rfl rfl ?_
    refine Wl.q rfl (Qy.eql rfl rfl) ?_
    refine Wl.q rfl (Qy.pick rfl rfl) ?_
    refine Wl.q rfl (Qy.move rfl) ?_
    refine Wl.yes 107 rfl (by first | assumption | omega) ?_
    refine Wl.want rfl rfl ?_
    refine Wl.q rfl (Qy.loadAll 2 T.agg25 rfl rfl rfl) ?_
    refine Wl.want rfl rfl ?_
    refine Wl.q rfl (Qy.loadAll 1 T.agg25 rfl rfl rfl) ?_
    refine Wl.want rfl rfl ?_
    refine Wl.call0 rfl T.fn21 rfl (c21 _ ⟨p.ins, p.regs, (foldP ⟨p.ins, p.regs, (foldP p).code, p.outs⟩).code, p.outs⟩ ⟨p.ins, p.regs, (foldP p).code, p.outs⟩ _ _ _ _ _ _ _ _ hrc hro hqc1 hqo1 (by rw [hag]; show (foldP p).code.length ≤ _; omega) (by show p.outs.length ≤ _; omega) (by show (foldP p).code.length ≤ _; omega) (by show p.outs.length ≤ _; omega)) ?_
    refine Wl.re 110 rfl (show _ = Value.bool true by simp [hag]) ?_
    refine Wl.q rfl (Qy.pick rfl rfl) ?_
    refine Wl.q rfl (Qy.move rfl) ?_
    refine Wl.want rfl rfl ?_
    refine Wl.q rfl (Qy.fieldAddr T.fa47_2 rfl) ?_
    refine Wl.want rfl rfl ?_
    refine Wl.q rfl (Qy.load 4 T.one3 rfl rfl rfl) ?_
    refine Wl.want rfl rfl ?_
    refine Wl.q rfl (Qy.fieldAddr T.fa47_2 rfl) ?_
    refine Wl.want rfl rfl ?_
    refine Wl.q rfl (Qy.load 3 T.one3 rfl rfl rfl) ?_
    refine Wl.want rfl rfl ?_
    refine Wl.q rfl (Qy.leq rfl rfl) ?_
    refine Wl.q rfl (Qy.pick rfl rfl) ?_
    refine Wl.q rfl (Qy.move rfl) ?_
    refine Wl.yes 119 rfl (by first | assumption | omega) ?_
    refine Wl.want rfl rfl ?_
    refine Wl.q rfl (Qy.fieldAddr T.fa47_3 rfl) ?_
    refine Wl.want rfl rfl ?_
    refine Wl.q rfl (Qy.load 4 T.one3 rfl rfl rfl) ?_
    refine Wl.want rfl rfl ?_
    refine Wl.q rfl (Qy.fieldAddr T.fa47_3 rfl) ?_
    refine Wl.want rfl rfl ?_
    refine Wl.q rfl (Qy.load 3 T.one3 rfl rfl rfl) ?_
    refine Wl.want rfl rfl ?_
    refine Wl.q rfl (Qy.leq rfl rfl) ?_
    refine Wl.q rfl (Qy.pick rfl rfl) ?_
    refine Wl.q rfl (Qy.assign rfl) ?_
    refine Wl.done ?_
    refine Ar.next ?_
    refine Wc.ret ?_
    refine Ar.base (Ar.out1 (.inr rfl) (Ho := []) rfl (.tmp rfl) trivial ?_)
    simp [hm5, hm6]
theorem c6 (G : Imm) (hT : TabOk G) (p : PV) (ac ao : Option Addr) (cc co : Nat) (hc : Arr G ac p.code) (ho : Arr G ao p.outs) (h1 : p.code.length ≤ 1048576) (h2 : p.outs.length ≤ 1048576) :
    Does Tryd.prog 6 [.agg #[.int .i64 p.ins, .int .i64 p.regs, .slice ac p.code.length cc, .slice ao p.outs.length co]] G [] (fun v G' Ho => v = .bool true) := by
  by_cases hR : rightP p = true
  · exact c6R G hT p ac ao cc co hc ho h1 h2 hR
  · exact c6W G hT p ac ao cc co hc ho h1 h2 hR
end Go.Proofs.YtfleehgbpgmcnaaDoor
