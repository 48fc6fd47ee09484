import Derived.Test.YtfleehgbpgmcnaaSlP
import Derived.Test.YtfleehgbpgmcnaaAx
import Derived.Test.YtfleehgbpgmcnaaAt
namespace Go.Proofs.Ytfleehgbpgmcnaa
open Go Go.Sl
set_option maxRecDepth 100000

theorem idleTo_len (p : PV) (k : Nat) : (idleTo p k).length ≤ k := by
  unfold idleTo
  exact Nat.le_trans (List.length_filterMap_le _ _) (by simp)
theorem deadE_pos {p : PV} (h : rightP p = true) : deadE p = ⟨p.ins, p.regs, (deadP p).code, p.outs⟩ := by rw [deadE, if_pos h]; rfl
theorem idleAt_idle (p : PV) (k : Nat) : idleAt p k = if idleB p k = true then some (k : Int) else none := by
  unfold idleAt idleB
  cases (neededP p)[((k : Nat) : Int).toNat]?.getD default
  · simp
  · by_cases h : doesNothing (p.code[((k : Nat) : Int).toNat]?.getD default) <;> simp [h]
theorem deadE_len (p : PV) : (deadE p).code.length ≤ p.code.length ∧ (deadE p).outs.length ≤ p.outs.length := by
  unfold deadE
  split
  · exact ⟨keepTo_len p _, Nat.le_refl p.outs.length⟩
  · exact ⟨Nat.zero_le _, Nat.zero_le _⟩
attribute [local irreducible] neededP deadE deadP errP askE askAll idleP rightP idleL askRef
set_option maxHeartbeats 2000000
theorem c7 (G : Imm) (p : PV) (ac ao : Option Addr) (cc co : Nat) (early : Int) (hc : Arr G ac p.code) (ho : Arr G ao p.outs) (h1 : p.code.length ≤ 1048576) (h2 : p.outs.length ≤ 1048576) :
    Does Try.prog 7 [.agg #[.int .i64 p.ins, .int .i64 p.regs, .slice ac p.code.length cc, .slice ao p.outs.length co], .int .i64 early] G [] (fun v G' Ho => v = .bool true) := by
  have hil := idle_len p
  have hdl := deadE_len p
  refine Does.enterM Try.func7 rfl Try.ntmps7 rfl (fun w => ?_)
  refine Wc.seq ?_
  refine Wc.region rfl ?_
  refine Wl.box 0 rfl rfl rfl (fun b1 => ?_)
  refine Wl.box 1 rfl rfl rfl (fun b2 => ?_)
  refine Wl.q rfl (Qy.assign rfl) ?_
  refine Wl.done ?_
  refine Ar.next ?_
  refine Wc.seq ?_
  refine Wc.seq ?_
  refine Wc.region rfl ?_
  refine Wl.call0 rfl T.fn27 rfl (c27 _) ?_
  refine Wl.q rfl (Qy.not rfl) ?_
  refine Wl.done ?_
  refine Ar.next ?_
  refine Wc.condF rfl ?_
  refine Wc.skip ?_
  refine Ar.next ?_
  refine Wc.seq ?_
  refine Wc.seq ?_
  refine Wc.region rfl ?_
  refine Wl.q rfl (Qy.loadAll 0 T.agg25 rfl rfl rfl) ?_
  refine Wl.call0 rfl T.fn32 rfl (c32 _ _ _ _ _ _ (by omega) (by omega)) ?_
  refine Wl.done ?_
  refine Ar.next ?_
  refine Wc.cond rfl (fun hc1 => ?_) (fun hc1 => ?_)
  refine Wc.seq ?_
  refine Wc.region rfl ?_
  refine Wl.q rfl (Qy.assign rfl) ?_
  refine Wl.done ?_
  refine Ar.next ?_
  refine Wc.ret ?_
  refine Ar.passRet ?_
  refine Ar.outOf (.inr rfl) ?_
  rotate_left
  refine Wc.skip ?_
  refine Ar.next ?_
  refine Wc.seq ?_
  refine Wc.region rfl ?_
  refine Wl.q rfl (Qy.loadAll 0 T.agg25 rfl rfl rfl) ?_
  refine Wl.call 2 rfl T.fn13 rfl (c13 _ _ _ _ _ _ (by assumption) (by assumption) (by omega) (by omega)) (tags_of trivial) (fun v1 G1 Ho1 hle1 hp => ?_)
  obtain ⟨oc1, oo1, occ1, ooc1, oj1, ok1, rfl, hoc1, hoo1, rfl, rfl⟩ := hp
  refine Wl.alloc 14 rfl T.zero25 (fun b3 => ?_)
  refine Wl.storeAll 14 T.size25 rfl rfl rfl rfl rfl rfl ?_
  refine Wl.done ?_
  refine Ar.next ?_
  refine Wc.seq ?_
  refine Wc.region rfl ?_
  refine Wl.q rfl (Qy.loadAll 0 T.agg25 rfl rfl rfl) ?_
  refine Wl.call 15 rfl T.fn28 rfl (c28 _ p _ _ _ _ (by assumption) (by assumption) (by omega) (by omega)) (tags_of trivial) (fun v2 G2 Ho2 hle2 hp => ?_)
  obtain ⟨_, _, qc2, qo2, qcc2, qoc2, qj2, qk2, rfl, ⟨rfl, rfl⟩, hqc2, hqo2, rfl, rfl⟩ := hp
  refine Wl.q rfl (Qy.move rfl) ?_
  refine Wl.q rfl (Qy.extract rfl rfl) ?_
  refine Wl.q rfl (Qy.extract rfl rfl) ?_
  refine Wl.alloc 17 rfl T.zero25 (fun b4 => ?_)
  refine Wl.storeAll 17 T.size25 rfl rfl rfl rfl rfl rfl ?_
  refine Wl.q rfl (Qy.assign rfl) ?_
  refine Wl.done ?_
  refine Ar.next ?_
  refine Wc.seq ?_
  refine Wc.region rfl ?_
  refine Wl.q rfl (Qy.loadAll 0 T.agg25 rfl rfl rfl) ?_
  refine Wl.call 18 rfl T.fn29 rfl (c29F _ p _ _ _ _ (by assumption) (by assumption) (by omega) (by omega)) (tags_of trivial) (fun v3 G3 Ho3 hle3 hp => ?_)
  obtain ⟨_, _, lb3, lc3, rfl, ⟨rfl, rfl⟩, hln3, hla3, rfl⟩ := hp
  replace hc := hc.up hle3
  replace ho := ho.up hle3
  refine Wl.q rfl (Qy.move rfl) ?_
  refine Wl.q rfl (Qy.extract rfl rfl) ?_
  refine Wl.q rfl (Qy.extract rfl rfl) ?_
  refine Wl.q rfl (Qy.assign rfl) ?_
  refine Wl.q rfl (Qy.assign rfl) ?_
  refine Wl.done ?_
  refine Ar.next ?_
  refine Wc.seq ?_
  refine Wc.region rfl ?_
  refine Wl.q rfl (Qy.loadAll 0 T.agg25 rfl rfl rfl) ?_
  refine Wl.call 18 rfl T.fn33 rfl (c33 _ _ _ _ _ _) (tags_of trivial) (fun v4 G4 Ho4 hle4 hp => ?_)
  obtain ⟨bi4, rfl, rfl, hbi4⟩ := hp
  replace hla3 := hla3.up hle4
  replace hc := hc.up hle4
  replace ho := ho.up hle4
  refine Wl.q rfl (Qy.assign rfl) ?_
  refine Wl.done ?_
  refine Ar.next ?_
  refine Wc.seq ?_
  refine Wc.seq ?_
  refine Wc.region rfl ?_
  refine Wl.q rfl (Qy.move rfl) ?_
  refine Wl.q rfl (Qy.eqlFuncNil (by kernel_rfl) rfl rfl) ?_
  refine Wl.done ?_
  refine Ar.next ?_
  refine Wc.condF rfl ?_
  refine Wc.skip ?_
  refine Ar.next ?_
  refine Wc.seq ?_
  refine Wc.region rfl ?_
  refine Wl.alloc 18 rfl T.zero3 (fun b5 => ?_)
  refine Wl.store 18 T.one3 rfl rfl rfl rfl rfl ?_
  refine Wl.done ?_
  refine Ar.next ?_
  refine Wc.seq ?_
  refine Wc.seq ?_
  refine Wc.region rfl ?_
  refine Wl.q rfl (Qy.move rfl) ?_
  refine Wl.done ?_
  refine Ar.next ?_
  refine Wc.block ?_
  rotate_left
  · exact Ar.out1 (.inr rfl) (Ho := []) rfl (.tmp rfl) trivial rfl
  refine Wc.rangeFunc (ι := Nat) 900 901 (fun n => [(18, some b5, .cells #[.int .i64 (n : Int)] 3), (17, Option.some b4, Go.Obj.cells #[Go.Value.int Go.IntKind.i64 (Go.Proofs.Ytfleehgbpgmcnaa.PV.ins (Go.Proofs.Ytfleehgbpgmcnaa.deadE p)), Go.Value.int Go.IntKind.i64 (Go.Proofs.Ytfleehgbpgmcnaa.PV.regs (Go.Proofs.Ytfleehgbpgmcnaa.deadE p)), Go.Value.slice qc2 (List.length (Go.Proofs.Ytfleehgbpgmcnaa.PV.code (Go.Proofs.Ytfleehgbpgmcnaa.deadE p))) qcc2, Go.Value.slice qo2 (List.length (Go.Proofs.Ytfleehgbpgmcnaa.PV.outs (Go.Proofs.Ytfleehgbpgmcnaa.deadE p))) qoc2] 25), (15, Option.map (fun x => Go.Addr.block x) qc2, Go.Sl.Row (α := Go.Sl.Instr) 34 (Go.Proofs.Ytfleehgbpgmcnaa.PV.code (Go.Proofs.Ytfleehgbpgmcnaa.deadE p)) (qj2)), (16, Option.map (fun x => Go.Addr.block x) qo2, Go.Sl.Row (α := Int) 3 (Go.Proofs.Ytfleehgbpgmcnaa.PV.outs (Go.Proofs.Ytfleehgbpgmcnaa.deadE p)) (qk2)), (14, Option.some b3, Go.Obj.cells #[Go.Value.int Go.IntKind.i64 (Go.Proofs.Ytfleehgbpgmcnaa.PV.ins p), Go.Value.int Go.IntKind.i64 (Go.Proofs.Ytfleehgbpgmcnaa.PV.regs p), Go.Value.slice oc1 (List.length (Go.Proofs.Ytfleehgbpgmcnaa.PV.code p)) occ1, Go.Value.slice oo1 (List.length (Go.Proofs.Ytfleehgbpgmcnaa.PV.outs p)) ooc1] 25), (12, Option.map (fun x => Go.Addr.block x) oc1, Go.Sl.Row (α := Go.Sl.Instr) 34 (Go.Proofs.Ytfleehgbpgmcnaa.PV.code p) (oj1)), (13, Option.map (fun x => Go.Addr.block x) oo1, Go.Sl.Row (α := Int) 3 (Go.Proofs.Ytfleehgbpgmcnaa.PV.outs p) (ok1)), (1, Option.some b2, Go.Obj.cells #[Go.Value.int Go.IntKind.i64 early] 3), (0, Option.some b1, Go.Obj.cells #[Go.Value.int Go.IntKind.i64 (Go.Proofs.Ytfleehgbpgmcnaa.PV.ins p), Go.Value.int Go.IntKind.i64 (Go.Proofs.Ytfleehgbpgmcnaa.PV.regs p), Go.Value.slice ac (List.length (Go.Proofs.Ytfleehgbpgmcnaa.PV.code p)) cc, Go.Value.slice ao (List.length (Go.Proofs.Ytfleehgbpgmcnaa.PV.outs p)) co] 25)]) (fun k n => n = k ∧ k ≤ (idleP p).length) (fun c n => c = Code.exit 0) (0) rfl T.fn71 (fun _ => rfl) rfl (c71 _ p _ _ _ _ _ hc ho (by omega) (by omega) hbi4) (⟨rfl, Nat.zero_le _⟩) (Hp.got ⟨rfl, rfl, rfl, rfl, rfl, rfl, rfl, rfl, rfl, trivial⟩) ⟨rfl, fun _ => rfl⟩ (fun k x n l dd q w0 hx hi => ?_) (fun n dd hi => ?_) (fun n dd c hi => ?_)
  · obtain ⟨hn, hkl⟩ := hi
    have hkx : k < (idleP p).length := (List.getElem?_eq_some_iff.1 hx).1
    by_cases hb : (n : Int) = early
    · refine Wc.skip ?_
      refine Ar.begin 900 rfl ?_
      refine Wc.block ?_
      refine Wc.seq ?_
      refine Wc.seq ?_
      refine Wc.region rfl ?_
      refine Wl.q rfl (Qy.load 18 T.one3 rfl rfl rfl) ?_
      refine Wl.q rfl (Qy.load 1 T.one3 rfl rfl rfl) ?_
      refine Wl.q rfl (Qy.eql rfl rfl) ?_
      refine Wl.done ?_
      refine Ar.next ?_
      refine Wc.condP rfl (by first | assumption | omega) ?_
      refine Wc.exit ?_
      refine Ar.passExit ?_
      refine Ar.outExit rfl ?_
      refine Ar.roundEnd (some (.exit 0)) (.inr (.inr ⟨_, rfl, rfl⟩)) 900 rfl ⟨rfl, (n, some (.exit 0)), rfl, .inr ⟨rfl, _, rfl, ?_⟩⟩ (Hp.got ⟨rfl, rfl, rfl, rfl, rfl, rfl, rfl, rfl, rfl, rfl, rfl, trivial⟩)
      rfl
    · refine Wc.skip ?_
      refine Ar.begin 900 rfl ?_
      refine Wc.block ?_
      refine Wc.seq ?_
      refine Wc.seq ?_
      refine Wc.region rfl ?_
      refine Wl.q rfl (Qy.load 18 T.one3 rfl rfl rfl) ?_
      refine Wl.q rfl (Qy.load 1 T.one3 rfl rfl rfl) ?_
      refine Wl.q rfl (Qy.eql rfl rfl) ?_
      refine Wl.done ?_
      refine Ar.next ?_
      refine Wc.condN rfl (by first | assumption | omega) ?_
      refine Wc.skip ?_
      refine Ar.next ?_
      refine Wc.region rfl ?_
      refine Wl.q rfl (Qy.load 18 T.one3 rfl rfl rfl) ?_
      refine Wl.q rfl (Qy.add rfl rfl (by omega)) ?_
      refine Wl.store 18 T.one3 rfl rfl rfl rfl rfl ?_
      refine Wl.done ?_
      refine Ar.outNormal ?_
      refine Ar.roundEnd none (.inl ⟨rfl, rfl⟩) 900 rfl ⟨rfl, (n + 1, none), rfl, .inl ⟨rfl, rfl, ?_⟩⟩ (Hp.got ⟨rfl, rfl, rfl, rfl, rfl, rfl, rfl, rfl, rfl, rfl, rfl, trivial⟩)
      exact ⟨by omega, by omega⟩
  clear hi
  refine Ar.outNormal ?_
  refine Ar.next ?_
  rotate_left
  subst hi
  refine Wc.exit ?_
  refine Ar.here ?_
  refine Ar.next ?_
  all_goals
    refine Wc.seq ?_
    refine Wc.region rfl ?_
    refine Wl.q rfl (Qy.loadAll 0 T.agg25 rfl rfl rfl) ?_
    refine Wl.call 902 rfl T.fn31 rfl (c31F _ p _ _ _ _ (by assumption) (by assumption) (by omega) (by omega)) (tags_of trivial) (fun v5 G5 Ho5 hle5 hp => ?_)
    obtain ⟨_, ib5, id5, rfl, ⟨rfl, hin5⟩, hia5, rfl⟩ := hp
    replace hla3 := hla3.up hle5
    replace hc := hc.up hle5
    replace ho := ho.up hle5
    refine Wl.q rfl (Qy.assign rfl) ?_
    refine Wl.done ?_
    refine Ar.next ?_
    refine Wc.seq ?_
    refine Wc.seq ?_
    refine Wc.region rfl ?_
    refine Wl.q rfl (Qy.loadAll 14 T.agg25 rfl rfl rfl) ?_
    refine Wl.q rfl (Qy.loadAll 0 T.agg25 rfl rfl rfl) ?_
    refine Wl.callB 950 rfl T.fn18 rfl (fun Gx hGx hgx => c18 Gx p p _ _ _ _ _ _ _ _ (Arr.own hgx 12 rfl hoc1) (Arr.own hgx 13 rfl hoo1) (hc.up hGx) (ho.up hGx) (by omega) (by omega)) (fun v5 Gx5 G60 Ho5 hlx5 hp => ?_)
    obtain ⟨rfl, rfl, rfl⟩ := hp
    refine Wl.re 48 rfl (show _ = Value.bool true by simp) ?_
    refine Wl.q rfl (Qy.not rfl) ?_
    refine Wl.done ?_
    refine Ar.next ?_
    refine Wc.condF rfl ?_
    refine Wc.skip ?_
    refine Ar.next ?_
    refine Wc.seq ?_
    refine Wc.seq ?_
    refine Wc.region rfl ?_
    refine Wl.q rfl (Qy.loadAll 0 T.agg25 rfl rfl rfl) ?_
    refine Wl.call0 rfl T.fn15 rfl (c15 _ p _ _ _ _ hc ho (by omega) (by omega)) ?_
    by_cases hR : rightP p = true
    · have hE := deadE_pos hR
      have hI : idleP p = idleTo p p.code.length := by rw [idleP, if_pos hR]
      have hEr : errP p = 0 := by rw [errP, if_pos hR]
      have hA : askE p = askRef (deadP p) := by rw [askE, if_pos hR, ask_ref (dead_right hR)]
      have hAl := ask_len hR
      rw [hE] at hdl hqc2 hqo2
      replace hdl : (deadP p).code.length ≤ p.code.length ∧ p.outs.length ≤ p.outs.length := hdl
      rw [hE, hEr]
      refine Wl.re 51 rfl (show _ = Value.bool true by simp [hR]) ?_
      refine Wl.q rfl (Qy.not rfl) ?_
      refine Wl.done ?_
      refine Ar.next ?_
      refine Wc.condF rfl ?_
      refine Wc.skip ?_
      refine Ar.next ?_
      refine Wc.seq ?_
      refine Wc.region rfl ?_
      refine Wl.q rfl (Qy.assign rfl) ?_
      refine Wl.done ?_
      refine Ar.next ?_
      refine Wc.seq ?_
      refine Wc.seq ?_
      refine Wc.region rfl ?_
      refine Wl.q rfl (Qy.loadAll 0 T.agg25 rfl rfl rfl) ?_
      refine Wl.call 902 rfl T.fn34 rfl (c34 _ _ _ _ _ _ (by assumption) (by assumption) (by assumption)) (tags_of trivial) (fun v6 G6 Ho6 hle6 hp => ?_)
      obtain ⟨jb6, jc6, jj6, rfl, hjb6, rfl, rfl⟩ := hp
      refine Wl.q rfl (Qy.len T.sl64 rfl) ?_
      refine Wl.q rfl (Qy.move rfl) ?_
      refine Wl.done ?_
      refine Ar.next ?_
      refine Wc.block ?_
      refine Wc.nilRow 960 (Row 3 ([] : List Int) []) ?_
      have hjl := idleL_len p p.code.length
      refine Wc.loop (ι := Nat × List Int × (Option Addr × Nat × List Value)) (fun (k, xs, (b, d, j)) => ([(75, .int .i64 (k : Int)), (13, .slice b xs.length d), (74, Go.Value.int Go.IntKind.i64 (↑(List.length (Go.Proofs.Ytfleehgbpgmcnaa.idleL p (List.length (Go.Proofs.Ytfleehgbpgmcnaa.PV.code p)))) : Int)), (73, Go.Value.slice jb6 (List.length (Go.Proofs.Ytfleehgbpgmcnaa.idleL p (List.length (Go.Proofs.Ytfleehgbpgmcnaa.PV.code p)))) jc6), (12, Go.Value.slice ib5 (List.length (Go.Proofs.Ytfleehgbpgmcnaa.idleP p)) id5), (9, Go.Value.int Go.IntKind.i64 0), (8, Go.Value.slice lb3 (List.length (Go.Proofs.Ytfleehgbpgmcnaa.askE p)) lc3), (7, Go.Value.int Go.IntKind.i64 0), (6, Go.Value.pointer (Option.some (Go.Addr.mk b4 0 Option.none))), (5, Go.Value.pointer (Option.some (Go.Addr.mk b3 0 Option.none))), (4, Go.Value.bool Bool.false), (2, Go.Value.pointer (Option.some (Go.Addr.mk b1 0 Option.none)))], [(960, b.map (·.block), Row 3 xs j), (902, Option.map (fun x => Go.Addr.block x) jb6, Go.Sl.Row (α := Bool) 4 (Go.Proofs.Ytfleehgbpgmcnaa.idleL p (List.length (Go.Proofs.Ytfleehgbpgmcnaa.PV.code p))) (jj6)), (901, Option.some dd, Go.Obj.deferred (Option.some [])), (18, Option.some b5, Go.Obj.cells #[Go.Value.int Go.IntKind.i64 (↑n : Int)] 3), (17, Option.some b4, Go.Obj.cells #[Go.Value.int Go.IntKind.i64 (Go.Proofs.Ytfleehgbpgmcnaa.PV.ins (Go.Proofs.Ytfleehgbpgmcnaa.PV.mk (Go.Proofs.Ytfleehgbpgmcnaa.PV.ins p) (Go.Proofs.Ytfleehgbpgmcnaa.PV.regs p) (Go.Proofs.Ytfleehgbpgmcnaa.PV.code (Go.Proofs.Ytfleehgbpgmcnaa.deadP p)) (Go.Proofs.Ytfleehgbpgmcnaa.PV.outs p))), Go.Value.int Go.IntKind.i64 (Go.Proofs.Ytfleehgbpgmcnaa.PV.regs (Go.Proofs.Ytfleehgbpgmcnaa.PV.mk (Go.Proofs.Ytfleehgbpgmcnaa.PV.ins p) (Go.Proofs.Ytfleehgbpgmcnaa.PV.regs p) (Go.Proofs.Ytfleehgbpgmcnaa.PV.code (Go.Proofs.Ytfleehgbpgmcnaa.deadP p)) (Go.Proofs.Ytfleehgbpgmcnaa.PV.outs p))), Go.Value.slice qc2 (List.length (Go.Proofs.Ytfleehgbpgmcnaa.PV.code (Go.Proofs.Ytfleehgbpgmcnaa.PV.mk (Go.Proofs.Ytfleehgbpgmcnaa.PV.ins p) (Go.Proofs.Ytfleehgbpgmcnaa.PV.regs p) (Go.Proofs.Ytfleehgbpgmcnaa.PV.code (Go.Proofs.Ytfleehgbpgmcnaa.deadP p)) (Go.Proofs.Ytfleehgbpgmcnaa.PV.outs p)))) qcc2, Go.Value.slice qo2 (List.length (Go.Proofs.Ytfleehgbpgmcnaa.PV.outs (Go.Proofs.Ytfleehgbpgmcnaa.PV.mk (Go.Proofs.Ytfleehgbpgmcnaa.PV.ins p) (Go.Proofs.Ytfleehgbpgmcnaa.PV.regs p) (Go.Proofs.Ytfleehgbpgmcnaa.PV.code (Go.Proofs.Ytfleehgbpgmcnaa.deadP p)) (Go.Proofs.Ytfleehgbpgmcnaa.PV.outs p)))) qoc2] 25), (15, Option.map (fun x => Go.Addr.block x) qc2, Go.Sl.Row (α := Go.Sl.Instr) 34 (Go.Proofs.Ytfleehgbpgmcnaa.PV.code (Go.Proofs.Ytfleehgbpgmcnaa.PV.mk (Go.Proofs.Ytfleehgbpgmcnaa.PV.ins p) (Go.Proofs.Ytfleehgbpgmcnaa.PV.regs p) (Go.Proofs.Ytfleehgbpgmcnaa.PV.code (Go.Proofs.Ytfleehgbpgmcnaa.deadP p)) (Go.Proofs.Ytfleehgbpgmcnaa.PV.outs p))) (qj2)), (16, Option.map (fun x => Go.Addr.block x) qo2, Go.Sl.Row (α := Int) 3 (Go.Proofs.Ytfleehgbpgmcnaa.PV.outs (Go.Proofs.Ytfleehgbpgmcnaa.PV.mk (Go.Proofs.Ytfleehgbpgmcnaa.PV.ins p) (Go.Proofs.Ytfleehgbpgmcnaa.PV.regs p) (Go.Proofs.Ytfleehgbpgmcnaa.PV.code (Go.Proofs.Ytfleehgbpgmcnaa.deadP p)) (Go.Proofs.Ytfleehgbpgmcnaa.PV.outs p))) (qk2)), (14, Option.some b3, Go.Obj.cells #[Go.Value.int Go.IntKind.i64 (Go.Proofs.Ytfleehgbpgmcnaa.PV.ins p), Go.Value.int Go.IntKind.i64 (Go.Proofs.Ytfleehgbpgmcnaa.PV.regs p), Go.Value.slice oc1 (List.length (Go.Proofs.Ytfleehgbpgmcnaa.PV.code p)) occ1, Go.Value.slice oo1 (List.length (Go.Proofs.Ytfleehgbpgmcnaa.PV.outs p)) ooc1] 25), (12, Option.map (fun x => Go.Addr.block x) oc1, Go.Sl.Row (α := Go.Sl.Instr) 34 (Go.Proofs.Ytfleehgbpgmcnaa.PV.code p) (oj1)), (13, Option.map (fun x => Go.Addr.block x) oo1, Go.Sl.Row (α := Int) 3 (Go.Proofs.Ytfleehgbpgmcnaa.PV.outs p) (ok1)), (1, Option.some b2, Go.Obj.cells #[Go.Value.int Go.IntKind.i64 early] 3), (0, Option.some b1, Go.Obj.cells #[Go.Value.int Go.IntKind.i64 (Go.Proofs.Ytfleehgbpgmcnaa.PV.ins p), Go.Value.int Go.IntKind.i64 (Go.Proofs.Ytfleehgbpgmcnaa.PV.regs p), Go.Value.slice ac (List.length (Go.Proofs.Ytfleehgbpgmcnaa.PV.code p)) cc, Go.Value.slice ao (List.length (Go.Proofs.Ytfleehgbpgmcnaa.PV.outs p)) co] 25)])) (fun (k, xs, (b, d, j)) => k ≤ p.code.length ∧ xs = idleTo p k ∧ OwnA b d xs j) (fun (k, xs, (b, d, j)) => p.code.length - k) ((0, [], (none, 0, []))) (⟨Nat.zero_le _, rfl, OwnA.nil⟩) ⟨rfl, rfl, rfl, rfl, rfl, rfl, rfl, rfl, rfl, rfl, rfl, rfl, trivial⟩ ⟨rfl, rfl, rfl, rfl, rfl, rfl, rfl, rfl, rfl, rfl, rfl, rfl, trivial⟩ (fun ⟨k, xs, (b, d, j)⟩ => fun (hk : k ≤ p.code.length ∧ xs = idleTo p k ∧ OwnA b d xs j) => ?_)
      obtain ⟨hk1, hxs, hob⟩ := hk
      have hxl : xs.length ≤ k := by rw [hxs]; exact idleTo_len p k
      rcases Nat.lt_or_ge k p.code.length with hlt | hge
      · have hid := idleL_at p hlt
        have hst := idleTo_step p k
        have hat := idleAt_idle p k
        refine Wc.seq ?_
        refine Wc.region rfl ?_
        refine Wl.q rfl (Qy.lss rfl rfl) ?_
        refine Wl.done ?_
        refine Ar.next ?_
        refine Wc.seq ?_
        refine Wc.condP rfl (by first | assumption | omega) ?_
        refine Wc.skip ?_
        refine Ar.next ?_
        refine Wc.seq ?_
        refine Wc.block ?_
        refine Wc.seq ?_
        refine Wc.region rfl ?_
        refine Wl.q rfl (Qy.move rfl) ?_
        refine Wl.q rfl (Qy.indexAddrO (α := Bool) T.sl64 rfl rfl (by assumption) (by omega)) ?_
        refine Wl.q rfl (Qy.loadO 902 0 T.one4 rfl rfl (by assumption) (by omega) rfl rfl) ?_
        refine Wl.q rfl (Qy.assign rfl) ?_
        refine Wl.q rfl (Qy.assign rfl) ?_
        refine Wl.done ?_
        refine Ar.next ?_
        refine Wc.seq ?_
        refine Wc.region rfl ?_
        refine Wl.q rfl (Qy.move rfl) ?_
        refine Wl.done ?_
        refine Ar.next ?_
        refine Wc.ite rfl (fun hc2 => ?_) (fun hc2 => ?_)
        refine Wc.region rfl ?_
        refine Wl.q rfl (Qy.move rfl) ?_
        refine Wl.q rfl (Qy.move rfl) ?_
        refine Wl.lit (α := Int) 961 [((↑k : Int))] rfl T.sl23 T.el3 rfl rfl rfl rfl rfl (fun b6 => ?_)
        refine Wl.append (α := Int) 960 rfl T.sl23 T.el3 rfl rfl rfl (by first | assumption | exact OwnA.nil | exact OwnA.made (by simp)) (Src.row 961 rfl) (by first | omega | (simp only [List.length_append, List.length_cons, List.length_nil, maxLen]; omega)) (by first | omega | (simp only [List.length_append, List.length_cons, List.length_nil, maxLen]; omega)) (fun a1 c1 junk1 ho1 => ?_)
        refine Wl.q rfl (Qy.assign rfl) ?_
        refine Wl.done ?_
        refine Ar.outNormal ?_
        refine Ar.next ?_
        refine Wc.region rfl ?_
        refine Wl.q rfl (Qy.add rfl rfl (by omega)) ?_
        refine Wl.q rfl (Qy.move rfl) ?_
        refine Wl.done ?_
        rotate_left
        refine Wc.skip ?_
        refine Ar.outNormal ?_
        refine Ar.next ?_
        refine Wc.region rfl ?_
        refine Wl.q rfl (Qy.add rfl rfl (by omega)) ?_
        refine Wl.q rfl (Qy.move rfl) ?_
        refine Wl.done ?_
        rotate_left
        · rw [hid] at hc2
          rw [if_pos hc2] at hat
          refine Ar.again ((k + 1, _, (a1, c1, junk1))) ?_ ?_ rfl ⟨rfl, rfl, rfl, rfl, rfl, rfl, rfl, rfl, rfl, rfl, rfl, rfl, trivial⟩ ⟨rfl, rfl, rfl, rfl, rfl, rfl, rfl, rfl, rfl, rfl, rfl, rfl, trivial⟩
          · exact ⟨by omega, by rw [hst, hat, hxs]; rfl, ho1⟩
          · show p.code.length - (k + 1) < p.code.length - k
            omega
        · rw [hid] at hc2
          rw [if_neg (by rw [hc2]; decide)] at hat
          refine Ar.again ((k + 1, xs, (b, d, j))) ?_ ?_ rfl ⟨rfl, rfl, rfl, rfl, rfl, rfl, rfl, rfl, rfl, rfl, rfl, rfl, trivial⟩ ⟨rfl, rfl, rfl, rfl, rfl, rfl, rfl, rfl, rfl, rfl, rfl, rfl, trivial⟩
          · exact ⟨by omega, by rw [hst, hat, hxs]; simp, hob⟩
          · show p.code.length - (k + 1) < p.code.length - k
            omega
      · have hk : k = p.code.length := by omega
        subst hk
        have hxI : xs = idleP p := by rw [hxs, hI]
        refine Wc.seq ?_
        refine Wc.region rfl ?_
        refine Wl.q rfl (Qy.lss rfl rfl) ?_
        refine Wl.done ?_
        refine Ar.next ?_
        refine Wc.seq ?_
        refine Wc.condN rfl (by first | assumption | omega) ?_
        refine Wc.exit ?_
        refine Ar.passExit ?_
        refine Ar.passExit ?_
        refine Ar.here ?_
        refine Ar.next ?_
        refine Wc.seq ?_
        refine Wc.seq ?_
        refine Wc.draw [0, 1, 13, 12, 14, 16, 15, 17, 18, 901, 902, 960] [] T.mixed rfl ?_
        refine Gm.q 0 [] (by kernel_rfl) rfl rfl (Qy.move rfl) ?_
        refine Gm.q 1 [] (by kernel_rfl) rfl rfl (Qy.neq rfl rfl) ?_
        refine Gm.q 2 [] (by kernel_rfl) rfl rfl (Qy.move rfl) ?_
        refine Gm.no 88 rfl (by first | assumption | omega) ?_
        refine Gm.qYes 3 [] (by kernel_rfl) rfl rfl rfl rfl (Qy.move rfl) ?_
        refine Gm.qYes 4 [] (by kernel_rfl) rfl rfl rfl rfl (Qy.neq rfl rfl) ?_
        refine Gm.q 5 [] (by kernel_rfl) rfl rfl (Qy.pick rfl rfl) ?_
        refine Gm.q 6 [] (by kernel_rfl) rfl rfl (Qy.move rfl) ?_
        refine Gm.no 92 rfl (by first | assumption | omega) ?_
        refine Gm.qYes 7 [17] (by kernel_rfl) rfl rfl rfl rfl (Qy.loadAll 17 T.agg25 rfl rfl rfl) ?_
        refine Gm.qYes 8 [0] (by kernel_rfl) rfl rfl rfl rfl (Qy.loadAll 0 T.agg25 rfl rfl rfl) ?_
        refine Gm.one 9 ⟨rfl, rfl, rfl, rfl, rfl, rfl, rfl, rfl, rfl, rfl, rfl, rfl, trivial⟩ (by first | exact Imm.le_refl _ | assumption) (by kernel_rfl) rfl ?_
        refine Wl.want rfl rfl ?_
        refine Wl.call 961 rfl T.fn35 rfl (c35 _ _ _ _ _ _ (by assumption) (by assumption) (by assumption)) (tags_of trivial) (fun v7 G7 Ho7 hle7 hp => ?_)
        obtain ⟨rc7, ro7, rcc7, roc7, rj7, rk7, rfl, hrc7, hro7, rfl, rfl⟩ := hp
        refine Wl.on0 ?_
        refine Gm.one 10 ⟨rfl, rfl, rfl, rfl, rfl, rfl, rfl, rfl, rfl, rfl, rfl, rfl, trivial⟩ (by first | exact Imm.le_refl _ | assumption) (by kernel_rfl) rfl ?_
        refine Wl.want rfl rfl ?_
        refine Wl.callB 970 rfl T.fn18 rfl (fun Gx hGx hgx => c18 Gx ⟨p.ins, p.regs, (deadP p).code, p.outs⟩ ⟨p.ins, p.regs, (deadP p).code, p.outs⟩ _ _ _ _ _ _ _ _ (Arr.own hgx 15 rfl hqc2) (Arr.own hgx 16 rfl hqo2) (Arr.own hgx 961 rfl hrc7) (Arr.own hgx 962 rfl hro7) (by show (deadP p).code.length ≤ _; omega) (by show p.outs.length ≤ _; omega)) (fun v6 Gx6 G61 Ho6 hlx6 hp => ?_)
        obtain ⟨rfl, rfl, rfl⟩ := hp
        refine Wl.re 96 rfl (show _ = Value.bool true by simp) ?_
        refine Wl.on0 ?_
        refine Gm.qYes 11 [] (by kernel_rfl) rfl rfl rfl rfl (Qy.not rfl) ?_
        refine Gm.q 12 [] (by kernel_rfl) rfl rfl (Qy.pick rfl rfl) ?_
        refine Gm.q 13 [] (by kernel_rfl) rfl rfl (Qy.move rfl) ?_
        refine Gm.qYes 14 [] (by kernel_rfl) rfl rfl rfl rfl (Qy.move rfl) ?_
        refine Gm.qYes 15 [0] (by kernel_rfl) rfl rfl rfl rfl (Qy.loadAll 0 T.agg25 rfl rfl rfl) ?_
        refine Gm.one 16 ⟨rfl, rfl, rfl, rfl, rfl, rfl, rfl, rfl, rfl, rfl, rfl, rfl, trivial⟩ (by first | exact Imm.le_refl _ | assumption) (by kernel_rfl) rfl ?_
        refine Wl.want rfl rfl ?_
        refine Wl.call 963 rfl T.fn36 rfl (c36 _ _ _ _ _ _ (by assumption) (by assumption) (by assumption)) (tags_of trivial) (fun v8 G8 Ho8 hle8 hp => ?_)
        obtain ⟨wb8, wc8, wj8, rfl, hwb8, rfl, rfl⟩ := hp
        refine Wl.on0 ?_
        refine Gm.one 17 ⟨rfl, rfl, rfl, rfl, rfl, rfl, rfl, rfl, rfl, rfl, rfl, rfl, trivial⟩ (by first | exact Imm.le_refl _ | assumption) (by kernel_rfl) rfl ?_
        refine Wl.want rfl rfl ?_
        refine Wl.callB 980 rfl T.fn30 rfl (fun Gx hGx hgx => c30 Gx (askE p) (askRef (deadP p)) _ _ _ _ (hla3.up hGx) (Arr.own hgx 963 rfl hwb8) (by omega) (by rw [← hA]; omega)) (fun v7 Gx7 G62 Ho7 hlx7 hp => ?_)
        obtain ⟨rfl, rfl, rfl⟩ := hp
        refine Wl.re 103 rfl (show _ = Value.bool true by rw [hA]; simp) ?_
        refine Wl.on0 ?_
        refine Gm.qYes 18 [] (by kernel_rfl) rfl rfl rfl rfl (Qy.not rfl) ?_
        refine Gm.q 19 [] (by kernel_rfl) rfl rfl (Qy.pick rfl rfl) ?_
        refine Gm.q 20 [] (by kernel_rfl) rfl rfl (Qy.move rfl) ?_
        refine Gm.qYes 21 [] (by kernel_rfl) rfl rfl rfl rfl (Qy.move rfl) ?_
        refine Gm.qYes 22 [] (by kernel_rfl) rfl rfl rfl rfl (Qy.move rfl) ?_
        refine Gm.one 23 ⟨rfl, rfl, rfl, rfl, rfl, rfl, rfl, rfl, rfl, rfl, rfl, rfl, trivial⟩ (by first | exact Imm.le_refl _ | assumption) (by kernel_rfl) rfl ?_
        refine Wl.want rfl rfl ?_
        refine Wl.callB 990 rfl T.fn37 rfl (fun Gx hGx hgx => c37 Gx (idleP p) xs _ _ _ _ (hia5.up hGx) (Arr.own hgx 960 rfl hob) (by omega) (by omega)) (fun v8 Gx8 G63 Ho8 hlx8 hp => ?_)
        obtain ⟨rfl, rfl, rfl⟩ := hp
        refine Wl.re 109 rfl (show _ = Value.bool true by rw [hxI]; simp) ?_
        refine Wl.on0 ?_
        refine Gm.qYes 24 [] (by kernel_rfl) rfl rfl rfl rfl (Qy.not rfl) ?_
        refine Gm.q 25 [] (by kernel_rfl) rfl rfl (Qy.pick rfl rfl) ?_
        refine Gm.doneA (by kernel_rfl) ⟨rfl, rfl, rfl, rfl, rfl, rfl, rfl, rfl, rfl, rfl, rfl, rfl, trivial⟩ (by first | exact Imm.le_refl _ | assumption) ?_
        refine Ar.next ?_
        refine Wc.condF rfl ?_
        refine Wc.skip ?_
        refine Ar.next ?_
        refine Wc.seq ?_
        refine Wc.seq ?_
        refine Wc.region rfl ?_
        refine Wl.q rfl (Qy.fieldAddr T.fa25_2 rfl) ?_
        refine Wl.q rfl (Qy.load 17 T.one22 rfl rfl rfl) ?_
        refine Wl.q rfl (Qy.len T.sl22 rfl) ?_
        refine Wl.q rfl (Qy.move rfl) ?_
        refine Wl.done ?_
        refine Ar.next ?_
        refine Wc.block ?_
        have hB0 := hqc2.blkOf
        have hqle : (deadP p).code.length ≤ qcc2 := hqc2.le
        refine Wc.loop (ι := Nat × List Value) (fun (i, cs) => ([(115, .int .i64 (i : Int)), (114, Go.Value.int Go.IntKind.i64 (↑(List.length (Go.Proofs.Ytfleehgbpgmcnaa.PV.code (Go.Proofs.Ytfleehgbpgmcnaa.PV.mk (Go.Proofs.Ytfleehgbpgmcnaa.PV.ins p) (Go.Proofs.Ytfleehgbpgmcnaa.PV.regs p) (Go.Proofs.Ytfleehgbpgmcnaa.PV.code (Go.Proofs.Ytfleehgbpgmcnaa.deadP p)) (Go.Proofs.Ytfleehgbpgmcnaa.PV.outs p)))) : Int)), (6, Go.Value.pointer (Option.some (Go.Addr.mk b4 0 Option.none))), (5, Go.Value.pointer (Option.some (Go.Addr.mk b3 0 Option.none))), (4, Go.Value.bool Bool.false), (2, Go.Value.pointer (Option.some (Go.Addr.mk b1 0 Option.none)))], [(15, qc2.map (·.block), .cells cs.toArray 34), (963, Option.map (fun x => Go.Addr.block x) wb8, Go.Sl.Row (α := Bool) 4 (Go.Proofs.Ytfleehgbpgmcnaa.askRef (Go.Proofs.Ytfleehgbpgmcnaa.deadP p)) (wj8)), (961, Option.map (fun x => Go.Addr.block x) rc7, Go.Sl.Row (α := Go.Sl.Instr) 34 (Go.Proofs.Ytfleehgbpgmcnaa.PV.code (Go.Proofs.Ytfleehgbpgmcnaa.deadP p)) (rj7)), (962, Option.map (fun x => Go.Addr.block x) ro7, Go.Sl.Row (α := Int) 3 (Go.Proofs.Ytfleehgbpgmcnaa.PV.outs p) (rk7)), (960, Option.map (fun x => Go.Addr.block x) b, Go.Sl.Row (α := Int) 3 (xs) (j)), (902, Option.map (fun x => Go.Addr.block x) jb6, Go.Sl.Row (α := Bool) 4 (Go.Proofs.Ytfleehgbpgmcnaa.idleL p (List.length (Go.Proofs.Ytfleehgbpgmcnaa.PV.code p))) (jj6)), (901, Option.some dd, Go.Obj.deferred (Option.some [])), (18, Option.some b5, Go.Obj.cells #[Go.Value.int Go.IntKind.i64 (↑n : Int)] 3), (17, Option.some b4, Go.Obj.cells #[Go.Value.int Go.IntKind.i64 (Go.Proofs.Ytfleehgbpgmcnaa.PV.ins (Go.Proofs.Ytfleehgbpgmcnaa.PV.mk (Go.Proofs.Ytfleehgbpgmcnaa.PV.ins p) (Go.Proofs.Ytfleehgbpgmcnaa.PV.regs p) (Go.Proofs.Ytfleehgbpgmcnaa.PV.code (Go.Proofs.Ytfleehgbpgmcnaa.deadP p)) (Go.Proofs.Ytfleehgbpgmcnaa.PV.outs p))), Go.Value.int Go.IntKind.i64 (Go.Proofs.Ytfleehgbpgmcnaa.PV.regs (Go.Proofs.Ytfleehgbpgmcnaa.PV.mk (Go.Proofs.Ytfleehgbpgmcnaa.PV.ins p) (Go.Proofs.Ytfleehgbpgmcnaa.PV.regs p) (Go.Proofs.Ytfleehgbpgmcnaa.PV.code (Go.Proofs.Ytfleehgbpgmcnaa.deadP p)) (Go.Proofs.Ytfleehgbpgmcnaa.PV.outs p))), Go.Value.slice qc2 (List.length (Go.Proofs.Ytfleehgbpgmcnaa.PV.code (Go.Proofs.Ytfleehgbpgmcnaa.PV.mk (Go.Proofs.Ytfleehgbpgmcnaa.PV.ins p) (Go.Proofs.Ytfleehgbpgmcnaa.PV.regs p) (Go.Proofs.Ytfleehgbpgmcnaa.PV.code (Go.Proofs.Ytfleehgbpgmcnaa.deadP p)) (Go.Proofs.Ytfleehgbpgmcnaa.PV.outs p)))) qcc2, Go.Value.slice qo2 (List.length (Go.Proofs.Ytfleehgbpgmcnaa.PV.outs (Go.Proofs.Ytfleehgbpgmcnaa.PV.mk (Go.Proofs.Ytfleehgbpgmcnaa.PV.ins p) (Go.Proofs.Ytfleehgbpgmcnaa.PV.regs p) (Go.Proofs.Ytfleehgbpgmcnaa.PV.code (Go.Proofs.Ytfleehgbpgmcnaa.deadP p)) (Go.Proofs.Ytfleehgbpgmcnaa.PV.outs p)))) qoc2] 25), (16, Option.map (fun x => Go.Addr.block x) qo2, Go.Sl.Row (α := Int) 3 (Go.Proofs.Ytfleehgbpgmcnaa.PV.outs (Go.Proofs.Ytfleehgbpgmcnaa.PV.mk (Go.Proofs.Ytfleehgbpgmcnaa.PV.ins p) (Go.Proofs.Ytfleehgbpgmcnaa.PV.regs p) (Go.Proofs.Ytfleehgbpgmcnaa.PV.code (Go.Proofs.Ytfleehgbpgmcnaa.deadP p)) (Go.Proofs.Ytfleehgbpgmcnaa.PV.outs p))) (qk2)), (14, Option.some b3, Go.Obj.cells #[Go.Value.int Go.IntKind.i64 (Go.Proofs.Ytfleehgbpgmcnaa.PV.ins p), Go.Value.int Go.IntKind.i64 (Go.Proofs.Ytfleehgbpgmcnaa.PV.regs p), Go.Value.slice oc1 (List.length (Go.Proofs.Ytfleehgbpgmcnaa.PV.code p)) occ1, Go.Value.slice oo1 (List.length (Go.Proofs.Ytfleehgbpgmcnaa.PV.outs p)) ooc1] 25), (12, Option.map (fun x => Go.Addr.block x) oc1, Go.Sl.Row (α := Go.Sl.Instr) 34 (Go.Proofs.Ytfleehgbpgmcnaa.PV.code p) (oj1)), (13, Option.map (fun x => Go.Addr.block x) oo1, Go.Sl.Row (α := Int) 3 (Go.Proofs.Ytfleehgbpgmcnaa.PV.outs p) (ok1)), (1, Option.some b2, Go.Obj.cells #[Go.Value.int Go.IntKind.i64 early] 3), (0, Option.some b1, Go.Obj.cells #[Go.Value.int Go.IntKind.i64 (Go.Proofs.Ytfleehgbpgmcnaa.PV.ins p), Go.Value.int Go.IntKind.i64 (Go.Proofs.Ytfleehgbpgmcnaa.PV.regs p), Go.Value.slice ac (List.length (Go.Proofs.Ytfleehgbpgmcnaa.PV.code p)) cc, Go.Value.slice ao (List.length (Go.Proofs.Ytfleehgbpgmcnaa.PV.outs p)) co] 25)])) (fun (i, cs) => i ≤ (deadP p).code.length ∧ Blk qc2 qcc2 5 cs) (fun (i, cs) => (deadP p).code.length - i) ((0, _)) (⟨Nat.zero_le _, hB0⟩) ⟨rfl, rfl, rfl, rfl, rfl, rfl, trivial⟩ ⟨rfl, rfl, rfl, rfl, rfl, rfl, rfl, rfl, rfl, rfl, rfl, rfl, rfl, rfl, rfl, trivial⟩ (fun ⟨i, cs⟩ => fun (hk : i ≤ (deadP p).code.length ∧ Blk qc2 qcc2 5 cs) => ?_)
        obtain ⟨hi1, hB⟩ := hk
        rcases Nat.lt_or_ge i (deadP p).code.length with hil | hil
        · refine Wc.seq ?_
          refine Wc.region rfl ?_
          refine Wl.q rfl (Qy.lss rfl rfl) ?_
          refine Wl.done ?_
          refine Ar.next ?_
          refine Wc.seq ?_
          refine Wc.cond rfl (fun hc2 => ?_) (fun hc2 => ?_)
          refine Wc.skip ?_
          refine Ar.next ?_
          refine Wc.seq ?_
          refine Wc.block ?_
          refine Wc.seq ?_
          refine Wc.region rfl ?_
          refine Wl.q rfl (Qy.move rfl) ?_
          refine Wl.q rfl (Qy.assign rfl) ?_
          refine Wl.done ?_
          refine Ar.next ?_
          refine Wc.region rfl ?_
          refine Wl.q rfl (Qy.fieldAddr T.fa25_2 rfl) ?_
          refine Wl.q rfl (Qy.load 17 T.one22 rfl rfl rfl) ?_
          refine Wl.q rfl (Qy.move rfl) ?_
          refine Wl.q rfl (Qy.indexAddrO (α := Instr) T.sl22 rfl rfl (by assumption) (by omega)) ?_
          refine Wl.q rfl (Qy.fieldAddr T.fa34_1 rfl) ?_
          rotate_left
          refine Wc.exit ?_
          refine Ar.passExit ?_
          refine Ar.passExit ?_
          refine Ar.here ?_
          refine Ar.next ?_
          refine Wc.seq ?_
          refine Wc.region rfl ?_
          refine Wl.q rfl (Qy.fieldAddr T.fa25_3 rfl) ?_
          refine Wl.q rfl (Qy.load 17 T.one23 rfl rfl rfl) ?_
          rotate_left
          · refine Wl.storeKj (m := (i : Int)) (sz := 5) (vs := [.int .i64 (-1)]) 15 1 1 T.size3 rfl rfl rfl rfl rfl rfl hB (by omega) (by omega) (fun cs1 hB1 => ?_)
            refine Wl.done ?_
            refine Ar.outNormal ?_
            refine Ar.next ?_
            refine Wc.region rfl ?_
            refine Wl.q rfl (Qy.add rfl rfl (by omega)) ?_
            refine Wl.q rfl (Qy.move rfl) ?_
            refine Wl.done ?_
            refine Ar.again ((i + 1, cs1)) ?_ ?_ rfl ⟨rfl, rfl, rfl, rfl, rfl, rfl, trivial⟩ ⟨rfl, rfl, rfl, rfl, rfl, rfl, rfl, rfl, rfl, rfl, rfl, rfl, rfl, rfl, rfl, trivial⟩
            · exact ⟨by omega, hB1⟩
            · show (deadP p).code.length - (i + 1) < (deadP p).code.length - i
              omega
          · exact absurd (Int.ofNat_lt.2 hil) hc2
        · refine Wc.seq ?_
          refine Wc.region rfl ?_
          refine Wl.q rfl (Qy.lss rfl rfl) ?_
          refine Wl.done ?_
          refine Ar.next ?_
          refine Wc.seq ?_
          refine Wc.cond rfl (fun hc2 => ?_) (fun hc2 => ?_)
          refine Wc.skip ?_
          refine Ar.next ?_
          refine Wc.seq ?_
          refine Wc.block ?_
          refine Wc.seq ?_
          refine Wc.region rfl ?_
          refine Wl.q rfl (Qy.move rfl) ?_
          refine Wl.q rfl (Qy.assign rfl) ?_
          refine Wl.done ?_
          refine Ar.next ?_
          refine Wc.region rfl ?_
          refine Wl.q rfl (Qy.fieldAddr T.fa25_2 rfl) ?_
          refine Wl.q rfl (Qy.load 17 T.one22 rfl rfl rfl) ?_
          refine Wl.q rfl (Qy.move rfl) ?_
          refine Wl.q rfl (Qy.indexAddrO (α := Instr) T.sl22 rfl rfl (by assumption) (by omega)) ?_
          refine Wl.q rfl (Qy.fieldAddr T.fa34_1 rfl) ?_
          rotate_left
          refine Wc.exit ?_
          refine Ar.passExit ?_
          refine Ar.passExit ?_
          refine Ar.here ?_
          refine Ar.next ?_
          refine Wc.seq ?_
          refine Wc.region rfl ?_
          refine Wl.q rfl (Qy.fieldAddr T.fa25_3 rfl) ?_
          refine Wl.q rfl (Qy.load 17 T.one23 rfl rfl rfl) ?_
          rotate_left
          · exact absurd hc2 (Int.not_lt.2 (Int.ofNat_le.2 hil))
          · refine Wl.clearO (α := Int) (xs := p.outs) 16 T.sl23 T.el3 rfl rfl rfl hqo2 (fun hqo3 => ?_)
            refine Wl.done ?_
            refine Ar.next ?_
            refine Wc.seq ?_
            refine Wc.region rfl ?_
            refine Wl.q rfl (Qy.loadAll 14 T.agg25 rfl rfl rfl) ?_
            refine Wl.q rfl (Qy.loadAll 0 T.agg25 rfl rfl rfl) ?_
            refine Wl.callB 995 rfl T.fn18 rfl (fun Gx hGx hgx => c18 Gx p p _ _ _ _ _ _ _ _ (Arr.own hgx 12 rfl hoc1) (Arr.own hgx 13 rfl hoo1) (hc.up hGx) (ho.up hGx) (by omega) (by omega)) (fun v9 Gx9 G64 Ho9 hlx9 hp => ?_)
            obtain ⟨rfl, rfl, rfl⟩ := hp
            refine Wl.q rfl (Qy.assign rfl) ?_
            refine Wl.done ?_
            refine Ar.next ?_
            refine Wc.ret ?_
            refine Ar.collect (.inr rfl) 901 rfl ?_
            refine Ar.outOf (.inr rfl) ?_
            refine Ar.out1 (.inr rfl) (Ho := []) rfl (.tmp rfl) trivial ?_
            simp
    · have hE : deadE p = ⟨0, 0, [], []⟩ := by rw [deadE, if_neg hR]
      have hEr : errP p = 80 := by rw [errP, if_neg hR]
      have hI : idleP p = [] := by rw [idleP, if_neg hR]
      have hA : askE p = [] := by rw [askE, if_neg hR]
      have hb3 := hln3 hR
      have hb5 := hin5.1 hI
      rw [hE] at hqc2 hqo2
      rw [hE, hEr]
      refine Wl.re 51 rfl (show _ = Value.bool false by simp [hR]) ?_
      refine Wl.q rfl (Qy.not rfl) ?_
      refine Wl.done ?_
      refine Ar.next ?_
      refine Wc.condT rfl ?_
      refine Wc.seq ?_
      refine Wc.region rfl ?_
      refine Wl.q rfl (Qy.move rfl) ?_
      refine Wl.q rfl (Qy.eql rfl rfl) ?_
      refine Wl.q rfl (Qy.move rfl) ?_
      refine Wl.yes 55 rfl (by first | assumption | omega) ?_
      refine Wl.want rfl rfl ?_
      refine Wl.q rfl (Qy.move rfl) ?_
      refine Wl.want rfl rfl ?_
      refine Wl.q rfl (Qy.eql rfl rfl) ?_
      refine Wl.q rfl (Qy.pick rfl rfl) ?_
      refine Wl.q rfl (Qy.move rfl) ?_
      refine Wl.yes 59 rfl (by first | assumption | omega) ?_
      refine Wl.want rfl rfl ?_
      refine Wl.q rfl (Qy.move rfl) ?_
      refine Wl.want rfl rfl ?_
      refine Wl.q rfl (Qy.eqlSliceNil T.sl64 rfl rfl) ?_
      refine Wl.q rfl (Qy.pick rfl rfl) ?_
      refine Wl.q rfl (Qy.move rfl) ?_
      refine Wl.yes 63 rfl (by first | assumption | omega) ?_
      refine Wl.want rfl rfl ?_
      refine Wl.q rfl (Qy.move rfl) ?_
      refine Wl.want rfl rfl ?_
      refine Wl.q rfl (Qy.eqlSliceNil T.sl23 rfl rfl) ?_
      refine Wl.q rfl (Qy.pick rfl rfl) ?_
      refine Wl.q rfl (Qy.move rfl) ?_
      refine Wl.yes 67 rfl (by first | assumption | omega) ?_
      refine Wl.want rfl rfl ?_
      refine Wl.q rfl (Qy.loadAll 17 T.agg25 rfl rfl rfl) ?_
      refine Wl.want rfl rfl ?_
      refine Wl.q rfl (Qy.build (cs := [_, _, _, _]) T.st25 rfl rfl rfl) ?_
      refine Wl.want rfl rfl ?_
      refine Wl.callB 960 rfl T.fn18 rfl (fun Gx hGx hgx => c18 Gx ⟨0, 0, [], []⟩ ⟨0, 0, [], []⟩ _ _ _ _ _ _ _ _ (Arr.own hgx 15 rfl hqc2) (Arr.own hgx 16 rfl hqo2) (Arr.nil _) (Arr.nil _) (by decide) (by decide)) (fun v6 Gx6 G61 Ho6 hlx6 hp => ?_)
      obtain ⟨rfl, rfl, rfl⟩ := hp
      refine Wl.q rfl (Qy.pick rfl rfl) ?_
      refine Wl.q rfl (Qy.assign rfl) ?_
      refine Wl.done ?_
      refine Ar.next ?_
      refine Wc.ret ?_
      refine Ar.passRet ?_
      refine Ar.collect (.inr rfl) 901 rfl ?_
      refine Ar.outOf (.inr rfl) ?_
      refine Ar.out1 (.inr rfl) (Ho := []) rfl (.tmp rfl) trivial ?_
      simp [hb3, hb5]
end Go.Proofs.Ytfleehgbpgmcnaa
