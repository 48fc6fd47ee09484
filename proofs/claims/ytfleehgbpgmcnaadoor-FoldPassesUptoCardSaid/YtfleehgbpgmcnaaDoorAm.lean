import Derived.Test.YtfleehgbpgmcnaaDoorSlP
import Derived.Test.YtfleehgbpgmcnaaDoorAk
set_option maxRecDepth 100000
set_option linter.unusedVariables false
namespace Go.Proofs.YtfleehgbpgmcnaaDoor
open Go Go.Sl

set_option maxHeartbeats 4000000
attribute [local irreducible] plainP meltP pushL foldTo foldP foldE errP rightP plainQ meltQ
theorem c3W (G : Imm) (hT : TabOk G) (p : PV) (ac ao : Option Addr) (cc co : Nat) (hc : Arr G ac p.code) (ho : Arr G ao p.outs) (h1 : p.code.length ≤ 1048576) (h2 : p.outs.length ≤ 1048576) (hR : ¬ rightP p = true) :
    Does Tryd.prog 3 [.agg #[.int .i64 p.ins, .int .i64 p.regs, .slice ac p.code.length cc, .slice ao p.outs.length co]] G [] (fun v G' Ho => v = .bool true) := by
  refine Does.enter Tryd.func3 rfl Tryd.ntmps3 rfl (fun w => ?_)
  refine Wc.seq ?_
  refine Wc.region rfl ?_
  refine Wl.box 0 rfl rfl rfl (fun b1 => ?_)
  refine Wl.q rfl (Qy.assign rfl) ?_
  refine Wl.done ?_
  refine Ar.next ?_
  refine Wc.seq ?_
  refine Wc.seq ?_
  refine Wc.region rfl ?_
  refine Wl.call0 rfl T.fn7 rfl (c7 _ (by assumption)) ?_
  refine Wl.q rfl (Qy.not rfl) ?_
  refine Wl.done ?_
  refine Ar.next ?_
  refine Wc.condF rfl ?_
  refine Wc.skip ?_
  refine Ar.next ?_
  refine Wc.seq ?_
  refine Wc.seq ?_
  refine Wc.region rfl ?_
  refine Wl.q rfl (Qy.loadAll 0 T.agg25 rfl rfl rfl) ?_
  refine Wl.call0 rfl T.fn8 rfl (c8 _ _ _ _ _ _ (by omega) (by omega)) ?_
  refine Wl.done ?_
  refine Ar.next ?_
  refine Wc.cond rfl (fun hc1 => ?_) (fun hc1 => ?_)
  refine Wc.seq ?_
  refine Wc.region rfl ?_
  refine Wl.q rfl (Qy.assign rfl) ?_
  refine Wl.done ?_
  refine Ar.next ?_
  refine Wc.ret ?_
  refine Ar.passRet ?_
  rotate_left
  refine Wc.skip ?_
  refine Ar.next ?_
  refine Wc.seq ?_
  refine Wc.region rfl ?_
  refine Wl.q rfl (Qy.loadAll 0 T.agg25 rfl rfl rfl) ?_
  refine Wl.call 1 rfl T.fn9 rfl (c9 _ _ _ _ _ _ (by assumption) (by assumption) (by omega) (by omega)) (tags_of trivial) (fun v1 G1 Ho1 hle1 hp => ?_)
  obtain ⟨kc1, ko1, kcc1, koc1, kj1, kk1, rfl, hkc1, hko1, rfl, rfl⟩ := hp
  refine Wl.alloc 13 rfl T.zero25 (fun b2 => ?_)
  refine Wl.storeAll 13 T.size25 rfl rfl rfl rfl rfl rfl ?_
  refine Wl.done ?_
  refine Ar.next ?_
  refine Wc.seq ?_
  refine Wc.region rfl ?_
  refine Wl.q rfl (Qy.loadAll 0 T.agg25 rfl rfl rfl) ?_
  refine Wl.call 14 rfl T.fn10 rfl (c10W _ p _ _ _ _ (by assumption) (by assumption) (by omega) (by omega) (by assumption)) (tags_of trivial) (fun v2 G2 Ho2 hle2 hp => ?_)
  obtain ⟨rfl, rfl, rfl⟩ := hp
  refine Wl.q rfl (Qy.move rfl) ?_
  refine Wl.q rfl (Qy.extract rfl rfl) ?_
  refine Wl.q rfl (Qy.extract rfl rfl) ?_
  refine Wl.alloc 16 rfl T.zero25 (fun b3 => ?_)
  refine Wl.storeAll 16 T.size25 rfl rfl rfl rfl rfl rfl ?_
  refine Wl.q rfl (Qy.assign rfl) ?_
  refine Wl.done ?_
  refine Ar.next ?_
  refine Wc.seq ?_
  refine Wc.seq ?_
  refine Wc.region rfl ?_
  refine Wl.q rfl (Qy.loadAll 13 T.agg25 rfl rfl rfl) ?_
  refine Wl.q rfl (Qy.loadAll 0 T.agg25 rfl rfl rfl) ?_
  rotate_left
  · exact Ar.out1 (.inr rfl) (Ho := []) rfl (.tmp rfl) trivial rfl
  refine Wl.callB 50 rfl T.fn11 rfl (fun Gx hGx hgx => c11 Gx p p _ _ _ _ _ _ _ _ (Arr.own hgx 11 rfl hkc1) (Arr.own hgx 12 rfl hko1) (hc.up hGx) (ho.up hGx) (by omega) (by omega)) (fun v5 Gx5 G60 Ho5 hlx5 hp => ?_)
  obtain ⟨rfl, rfl, rfl⟩ := hp
  refine Wl.re 20 rfl (show _ = Value.bool true by simp) ?_
  refine Wl.q rfl (Qy.not rfl) ?_
  refine Wl.done ?_
  refine Ar.next ?_
  refine Wc.condF rfl ?_
  refine Wc.skip ?_
  refine Ar.next ?_
  refine Wc.seq ?_
  refine Wc.seq ?_
  refine Wc.region rfl ?_
  refine Wl.q rfl (Qy.loadAll 0 T.agg25 rfl rfl rfl) ?_
  refine Wl.call0 rfl T.fn12 rfl (c12 _ _ _ _ _ _ (by assumption) (by assumption) (by omega) (by omega)) ?_
  refine Wl.q rfl (Qy.notD rfl) ?_
  refine Wl.done ?_
  refine Ar.next ?_
  refine Wc.condP rfl (by first | assumption | omega) ?_
  refine Wc.seq ?_
  refine Wc.region rfl ?_
  refine Wl.q rfl (Qy.move rfl) ?_
  refine Wl.q rfl (Qy.eql rfl rfl) ?_
  refine Wl.q rfl (Qy.move rfl) ?_
  refine Wl.yes 27 rfl (by first | assumption | omega) ?_
  refine Wl.want rfl rfl ?_
  refine Wl.q rfl (Qy.loadAll 16 T.agg25 rfl rfl rfl) ?_
  refine Wl.want rfl rfl ?_
  refine Wl.q rfl (Qy.build (cs := [_, _, _, _]) T.st25 rfl rfl rfl) ?_
  refine Wl.want rfl rfl ?_
  refine Wl.callB 60 rfl T.fn11 rfl (fun Gx hGx hgx => c11 Gx ⟨0, 0, [], []⟩ ⟨0, 0, [], []⟩ _ _ _ _ _ _ _ _ (Arr.nil _) (Arr.nil _) (Arr.nil _) (Arr.nil _) (by decide) (by decide)) (fun v6 Gx6 G61 Ho6 hlx6 hp => ?_)
  obtain ⟨rfl, rfl, rfl⟩ := hp
  refine Wl.q rfl (Qy.pick rfl rfl) ?_
  refine Wl.q rfl (Qy.assign rfl) ?_
  refine Wl.done ?_
  refine Ar.next ?_
  refine Wc.ret ?_
  refine Ar.passRet ?_
  refine Ar.out1 (.inr rfl) (Ho := []) rfl (.tmp rfl) trivial ?_
  simp
theorem c3R (G : Imm) (hT : TabOk G) (p : PV) (ac ao : Option Addr) (cc co : Nat) (hc : Arr G ac p.code) (ho : Arr G ao p.outs) (h1 : p.code.length ≤ 1048576) (h2 : p.outs.length ≤ 1048576) (hR : rightP p = true) :
    Does Tryd.prog 3 [.agg #[.int .i64 p.ins, .int .i64 p.regs, .slice ac p.code.length cc, .slice ao p.outs.length co]] G [] (fun v G' Ho => v = .bool true) := by
  have hfl := fold_len p
  refine Does.enter Tryd.func3 rfl Tryd.ntmps3 rfl (fun w => ?_)
  refine Wc.seq ?_
  refine Wc.region rfl ?_
  refine Wl.box 0 rfl rfl rfl (fun b1 => ?_)
  refine Wl.q rfl (Qy.assign rfl) ?_
  refine Wl.done ?_
  refine Ar.next ?_
  refine Wc.seq ?_
  refine Wc.seq ?_
  refine Wc.region rfl ?_
  refine Wl.call0 rfl T.fn7 rfl (c7 _ (by assumption)) ?_
  refine Wl.q rfl (Qy.not rfl) ?_
  refine Wl.done ?_
  refine Ar.next ?_
  refine Wc.condF rfl ?_
  refine Wc.skip ?_
  refine Ar.next ?_
  refine Wc.seq ?_
  refine Wc.seq ?_
  refine Wc.region rfl ?_
  refine Wl.q rfl (Qy.loadAll 0 T.agg25 rfl rfl rfl) ?_
  refine Wl.call0 rfl T.fn8 rfl (c8 _ _ _ _ _ _ (by omega) (by omega)) ?_
  refine Wl.done ?_
  refine Ar.next ?_
  refine Wc.cond rfl (fun hc1 => ?_) (fun hc1 => ?_)
  refine Wc.seq ?_
  refine Wc.region rfl ?_
  refine Wl.q rfl (Qy.assign rfl) ?_
  refine Wl.done ?_
  refine Ar.next ?_
  refine Wc.ret ?_
  refine Ar.passRet ?_
  rotate_left
  refine Wc.skip ?_
  refine Ar.next ?_
  refine Wc.seq ?_
  refine Wc.region rfl ?_
  refine Wl.q rfl (Qy.loadAll 0 T.agg25 rfl rfl rfl) ?_
  refine Wl.call 1 rfl T.fn9 rfl (c9 _ _ _ _ _ _ (by assumption) (by assumption) (by omega) (by omega)) (tags_of trivial) (fun v1 G1 Ho1 hle1 hp => ?_)
  obtain ⟨kc1, ko1, kcc1, koc1, kj1, kk1, rfl, hkc1, hko1, rfl, rfl⟩ := hp
  refine Wl.alloc 13 rfl T.zero25 (fun b2 => ?_)
  refine Wl.storeAll 13 T.size25 rfl rfl rfl rfl rfl rfl ?_
  refine Wl.done ?_
  refine Ar.next ?_
  refine Wc.seq ?_
  refine Wc.region rfl ?_
  refine Wl.q rfl (Qy.loadAll 0 T.agg25 rfl rfl rfl) ?_
  refine Wl.call 14 rfl T.fn10 rfl (c10R _ (by assumption) p _ _ _ _ (by assumption) (by assumption) (by omega) (by omega) (by assumption)) (tags_of trivial) (fun v2 G2 Ho2 hle2 hp => ?_)
  obtain ⟨qc2, qo2, qcc2, qoc2, qj2, qk2, rfl, hqc2, hqo2, rfl, rfl⟩ := hp
  refine Wl.q rfl (Qy.move rfl) ?_
  refine Wl.q rfl (Qy.extract rfl rfl) ?_
  refine Wl.q rfl (Qy.extract rfl rfl) ?_
  refine Wl.alloc 16 rfl T.zero25 (fun b3 => ?_)
  refine Wl.storeAll 16 T.size25 rfl rfl rfl rfl rfl rfl ?_
  refine Wl.q rfl (Qy.assign rfl) ?_
  refine Wl.done ?_
  refine Ar.next ?_
  refine Wc.seq ?_
  refine Wc.seq ?_
  refine Wc.region rfl ?_
  refine Wl.q rfl (Qy.loadAll 13 T.agg25 rfl rfl rfl) ?_
  refine Wl.q rfl (Qy.loadAll 0 T.agg25 rfl rfl rfl) ?_
  rotate_left
  · exact Ar.out1 (.inr rfl) (Ho := []) rfl (.tmp rfl) trivial rfl
  refine Wl.callB 50 rfl T.fn11 rfl (fun Gx hGx hgx => c11 Gx p p _ _ _ _ _ _ _ _ (Arr.own hgx 11 rfl hkc1) (Arr.own hgx 12 rfl hko1) (hc.up hGx) (ho.up hGx) (by omega) (by omega)) (fun v5 Gx5 G60 Ho5 hlx5 hp => ?_)
  obtain ⟨rfl, rfl, rfl⟩ := hp
  refine Wl.re 20 rfl (show _ = Value.bool true by simp) ?_
  refine Wl.q rfl (Qy.not rfl) ?_
  refine Wl.done ?_
  refine Ar.next ?_
  refine Wc.condF rfl ?_
  refine Wc.skip ?_
  refine Ar.next ?_
  refine Wc.seq ?_
  refine Wc.seq ?_
  refine Wc.region rfl ?_
  refine Wl.q rfl (Qy.loadAll 0 T.agg25 rfl rfl rfl) ?_
  refine Wl.call0 rfl T.fn12 rfl (c12 _ _ _ _ _ _ (by assumption) (by assumption) (by omega) (by omega)) ?_
  refine Wl.q rfl (Qy.notD rfl) ?_
  refine Wl.done ?_
  refine Ar.next ?_
  refine Wc.cond rfl (fun hc2 => ?_) (fun hc2 => ?_)
  refine Wc.seq ?_
  refine Wc.region rfl ?_
  refine Wl.q rfl (Qy.move rfl) ?_
  refine Wl.q rfl (Qy.eql rfl rfl) ?_
  refine Wl.q rfl (Qy.move rfl) ?_
  refine Wl.no 27 rfl (by first | assumption | omega) ?_
  refine Wl.pass rfl rfl rfl ?_
  refine Wl.pass rfl rfl rfl ?_
  refine Wl.pass rfl rfl rfl ?_
  refine Wl.q rfl (Qy.pick rfl rfl) ?_
  refine Wl.q rfl (Qy.assign rfl) ?_
  refine Wl.done ?_
  refine Ar.next ?_
  refine Wc.ret ?_
  refine Ar.passRet ?_
  rotate_left
  refine Wc.skip ?_
  refine Ar.next ?_
  refine Wc.seq ?_
  refine Wc.seq ?_
  refine Wc.draw [0, 12, 11, 13, 15, 14, 16] [] T.mixed rfl ?_
  refine Gm.q 0 [] (by kernel_rfl) rfl rfl (Qy.move rfl) ?_
  refine Gm.q 1 [] (by kernel_rfl) rfl rfl (Qy.neq rfl rfl) ?_
  refine Gm.q 2 [] (by kernel_rfl) rfl rfl (Qy.move rfl) ?_
  refine Gm.no 34 rfl (by first | assumption | omega) ?_
  refine Gm.qYes 3 [16] (by kernel_rfl) rfl rfl rfl rfl (Qy.loadAll 16 T.agg25 rfl rfl rfl) ?_
  refine Gm.qYes 4 [0] (by kernel_rfl) rfl rfl rfl rfl (Qy.loadAll 0 T.agg25 rfl rfl rfl) ?_
  refine Gm.one 5 ⟨rfl, rfl, rfl, rfl, rfl, rfl, rfl, trivial⟩ (by first | exact Imm.le_refl _ | assumption) (by kernel_rfl) rfl ?_
  refine Wl.want rfl rfl ?_
  refine Wl.call 17 rfl T.fn13 rfl (c13 _ p _ _ _ _ (by assumption) (by assumption) (by omega) (by omega) (by assumption)) (tags_of trivial) (fun v3 G3 Ho3 hle3 hp => ?_)
  obtain ⟨rc3, ro3, rcc3, roc3, rj3, rk3, rfl, hrc3, hro3, rfl, rfl⟩ := hp
  refine Wl.on0 ?_
  refine Gm.one 6 ⟨rfl, rfl, rfl, rfl, rfl, rfl, rfl, trivial⟩ (by first | exact Imm.le_refl _ | assumption) (by kernel_rfl) rfl ?_
  refine Wl.want rfl rfl ?_
  rotate_left
  · exact absurd hR hc2
  refine Wl.callB 70 rfl T.fn11 rfl (fun Gx hGx hgx => c11 Gx ⟨p.ins, p.regs, (foldP p).code, p.outs⟩ ⟨p.ins, p.regs, (foldP p).code, p.outs⟩ _ _ _ _ _ _ _ _ (Arr.own hgx 14 rfl hqc2) (Arr.own hgx 15 rfl hqo2) (Arr.own hgx 17 rfl hrc3) (Arr.own hgx 18 rfl hro3) (by show (foldP p).code.length ≤ _; omega) (by show p.outs.length ≤ _; omega)) (fun v6 Gx6 G61 Ho6 hlx6 hp => ?_)
  obtain ⟨rfl, rfl, rfl⟩ := hp
  refine Wl.re 38 rfl (show _ = Value.bool true by simp) ?_
  refine Wl.on0 ?_
  refine Gm.qYes 7 [] (by kernel_rfl) rfl rfl rfl rfl (Qy.not rfl) ?_
  refine Gm.q 8 [] (by kernel_rfl) rfl rfl (Qy.pick rfl rfl) ?_
  refine Gm.doneA (by kernel_rfl) ⟨rfl, rfl, rfl, rfl, rfl, rfl, rfl, trivial⟩ (by first | exact Imm.le_refl _ | assumption) ?_
  refine Ar.next ?_
  refine Wc.condF rfl ?_
  refine Wc.skip ?_
  refine Ar.next ?_
  refine Wc.seq ?_
  refine Wc.seq ?_
  refine Wc.region rfl ?_
  refine Wl.q rfl (Qy.fieldAddr T.fa25_2 rfl) ?_
  refine Wl.q rfl (Qy.load 16 T.one22 rfl rfl rfl) ?_
  refine Wl.q rfl (Qy.len T.sl22 rfl) ?_
  refine Wl.q rfl (Qy.move rfl) ?_
  refine Wl.done ?_
  refine Ar.next ?_
  refine Wc.block ?_
  have hB0 := hqc2.blkOf
  have hqle : (foldP p).code.length ≤ qcc2 := hqc2.le
  refine Wc.loop (ι := Nat × List Value) (fun (i, cs) => ([(44, .int .i64 (i : Int)), (43, Go.Value.int Go.IntKind.i64 (↑(List.length (Go.Proofs.YtfleehgbpgmcnaaDoor.PV.code (Go.Proofs.YtfleehgbpgmcnaaDoor.foldP p))) : Int)), (4, Go.Value.pointer (Option.some (Go.Addr.mk b3 0 Option.none))), (3, Go.Value.pointer (Option.some (Go.Addr.mk b2 0 Option.none))), (2, Go.Value.bool Bool.false), (1, Go.Value.pointer (Option.some (Go.Addr.mk b1 0 Option.none)))], [(14, qc2.map (·.block), .cells cs.toArray 34), (17, Option.map (fun x => Go.Addr.block x) rc3, Go.Sl.Row (α := Go.Sl.Instr) 34 (Go.Proofs.YtfleehgbpgmcnaaDoor.PV.code (Go.Proofs.YtfleehgbpgmcnaaDoor.foldP p)) (rj3)), (18, Option.map (fun x => Go.Addr.block x) ro3, Go.Sl.Row (α := Int) 3 (Go.Proofs.YtfleehgbpgmcnaaDoor.PV.outs p) (rk3)), (16, Option.some b3, Go.Obj.cells #[Go.Value.int Go.IntKind.i64 (Go.Proofs.YtfleehgbpgmcnaaDoor.PV.ins p), Go.Value.int Go.IntKind.i64 (Go.Proofs.YtfleehgbpgmcnaaDoor.PV.regs p), Go.Value.slice qc2 (List.length (Go.Proofs.YtfleehgbpgmcnaaDoor.PV.code (Go.Proofs.YtfleehgbpgmcnaaDoor.foldP p))) qcc2, Go.Value.slice qo2 (List.length (Go.Proofs.YtfleehgbpgmcnaaDoor.PV.outs p)) qoc2] 25), (15, Option.map (fun x => Go.Addr.block x) qo2, Go.Sl.Row (α := Int) 3 (Go.Proofs.YtfleehgbpgmcnaaDoor.PV.outs p) (qk2)), (13, Option.some b2, Go.Obj.cells #[Go.Value.int Go.IntKind.i64 (Go.Proofs.YtfleehgbpgmcnaaDoor.PV.ins p), Go.Value.int Go.IntKind.i64 (Go.Proofs.YtfleehgbpgmcnaaDoor.PV.regs p), Go.Value.slice kc1 (List.length (Go.Proofs.YtfleehgbpgmcnaaDoor.PV.code p)) kcc1, Go.Value.slice ko1 (List.length (Go.Proofs.YtfleehgbpgmcnaaDoor.PV.outs p)) koc1] 25), (11, Option.map (fun x => Go.Addr.block x) kc1, Go.Sl.Row (α := Go.Sl.Instr) 34 (Go.Proofs.YtfleehgbpgmcnaaDoor.PV.code p) (kj1)), (12, Option.map (fun x => Go.Addr.block x) ko1, Go.Sl.Row (α := Int) 3 (Go.Proofs.YtfleehgbpgmcnaaDoor.PV.outs p) (kk1)), (0, Option.some b1, Go.Obj.cells #[Go.Value.int Go.IntKind.i64 (Go.Proofs.YtfleehgbpgmcnaaDoor.PV.ins p), Go.Value.int Go.IntKind.i64 (Go.Proofs.YtfleehgbpgmcnaaDoor.PV.regs p), Go.Value.slice ac (List.length (Go.Proofs.YtfleehgbpgmcnaaDoor.PV.code p)) cc, Go.Value.slice ao (List.length (Go.Proofs.YtfleehgbpgmcnaaDoor.PV.outs p)) co] 25)])) (fun (i, cs) => i ≤ (foldP p).code.length ∧ Blk qc2 qcc2 5 cs) (fun (i, cs) => (foldP p).code.length - i) ((0, _)) (⟨Nat.zero_le _, hB0⟩) ⟨rfl, rfl, rfl, rfl, rfl, rfl, trivial⟩ ⟨rfl, rfl, rfl, rfl, rfl, rfl, rfl, rfl, rfl, trivial⟩ (fun ⟨i, cs⟩ => fun (hk : i ≤ (foldP p).code.length ∧ Blk qc2 qcc2 5 cs) => ?_)
  obtain ⟨hi1, hB⟩ := hk
  rcases Nat.lt_or_ge i (foldP p).code.length with hil | hil
  · refine Wc.seq ?_
    refine Wc.region rfl ?_
    refine Wl.q rfl (Qy.lss rfl rfl) ?_
    refine Wl.done ?_
    refine Ar.next ?_
    refine Wc.seq ?_
    refine Wc.condP rfl (by first | assumption | omega) ?_
    refine Wc.skip ?_
    refine Ar.next ?_
    refine Wc.seq ?_
    refine Wc.block ?_
    refine Wc.seq ?_
    refine Wc.region rfl ?_
    refine Wl.q rfl (Qy.move rfl) ?_
    refine Wl.q rfl (Qy.assign rfl) ?_
    refine Wl.done ?_
    refine Ar.next ?_
    refine Wc.region rfl ?_
    refine Wl.q rfl (Qy.fieldAddr T.fa25_2 rfl) ?_
    refine Wl.q rfl (Qy.load 16 T.one22 rfl rfl rfl) ?_
    refine Wl.q rfl (Qy.move rfl) ?_
    refine Wl.q rfl (Qy.indexAddrO (α := Instr) T.sl22 rfl rfl (by assumption) (by omega)) ?_
    refine Wl.q rfl (Qy.fieldAddr T.fa34_1 rfl) ?_
    refine Wl.storeKj (m := (i : Int)) (sz := 5) (vs := [.int .i64 (-1)]) 14 1 1 T.size3 rfl rfl rfl rfl rfl rfl hB (by omega) (by omega) (fun cs1 hB1 => ?_)
    refine Wl.done ?_
    refine Ar.outNormal ?_
    refine Ar.next ?_
    refine Wc.region rfl ?_
    refine Wl.q rfl (Qy.add rfl rfl (by omega)) ?_
    refine Wl.q rfl (Qy.move rfl) ?_
    refine Wl.done ?_
    refine Ar.again ((i + 1, cs1)) ?_ ?_ rfl ⟨rfl, rfl, rfl, rfl, rfl, rfl, trivial⟩ ⟨rfl, rfl, rfl, rfl, rfl, rfl, rfl, rfl, rfl, trivial⟩
    · exact ⟨by omega, hB1⟩
    · show (foldP p).code.length - (i + 1) < (foldP p).code.length - i
      omega
  · refine Wc.seq ?_
    refine Wc.region rfl ?_
    refine Wl.q rfl (Qy.lss rfl rfl) ?_
    refine Wl.done ?_
    refine Ar.next ?_
    refine Wc.seq ?_
    refine Wc.condN rfl (by first | assumption | omega) ?_
    refine Wc.exit ?_
    refine Ar.passExit ?_
    refine Ar.passExit ?_
    refine Ar.here ?_
    refine Ar.next ?_
    refine Wc.seq ?_
    refine Wc.region rfl ?_
    refine Wl.q rfl (Qy.fieldAddr T.fa25_3 rfl) ?_
    refine Wl.q rfl (Qy.load 16 T.one23 rfl rfl rfl) ?_
    refine Wl.clearO (α := Int) (xs := p.outs) 15 T.sl23 T.el3 rfl rfl rfl hqo2 (fun hqo3 => ?_)
    refine Wl.done ?_
    refine Ar.next ?_
    refine Wc.seq ?_
    refine Wc.region rfl ?_
    refine Wl.q rfl (Qy.loadAll 13 T.agg25 rfl rfl rfl) ?_
    refine Wl.q rfl (Qy.loadAll 0 T.agg25 rfl rfl rfl) ?_
    refine Wl.callB 80 rfl T.fn11 rfl (fun Gx hGx hgx => c11 Gx p p _ _ _ _ _ _ _ _ (Arr.own hgx 11 rfl hkc1) (Arr.own hgx 12 rfl hko1) (hc.up hGx) (ho.up hGx) (by omega) (by omega)) (fun v9 Gx9 G64 Ho9 hlx9 hp => ?_)
    obtain ⟨rfl, rfl, rfl⟩ := hp
    refine Wl.q rfl (Qy.assign rfl) ?_
    refine Wl.done ?_
    refine Ar.next ?_
    refine Wc.ret ?_
    refine Ar.out1 (.inr rfl) (Ho := []) rfl (.tmp rfl) trivial ?_
    simp
theorem c3 (G : Imm) (hT : TabOk G) (p : PV) (ac ao : Option Addr) (cc co : Nat) (hc : Arr G ac p.code) (ho : Arr G ao p.outs) (h1 : p.code.length ≤ 1048576) (h2 : p.outs.length ≤ 1048576) :
    Does Tryd.prog 3 [.agg #[.int .i64 p.ins, .int .i64 p.regs, .slice ac p.code.length cc, .slice ao p.outs.length co]] G [] (fun v G' Ho => v = .bool true) := by
  by_cases hR : rightP p = true
  · exact c3R G hT p ac ao cc co hc ho h1 h2 hR
  · exact c3W G hT p ac ao cc co hc ho h1 h2 hR
end Go.Proofs.YtfleehgbpgmcnaaDoor
