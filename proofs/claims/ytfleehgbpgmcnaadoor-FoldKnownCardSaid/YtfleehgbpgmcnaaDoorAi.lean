import Derived.Test.YtfleehgbpgmcnaaDoorSlP
import Derived.Test.YtfleehgbpgmcnaaDoorAf
import Derived.Test.YtfleehgbpgmcnaaDoorAh
set_option maxRecDepth 100000
set_option linter.unusedVariables false
namespace Go.Proofs.YtfleehgbpgmcnaaDoor
open Go Go.Sl

set_option maxHeartbeats 4000000
attribute [local irreducible] plainP meltP pushL foldTo
theorem c13 (G : Imm) (p : PV) (ac ao : Option Addr) (cc co : Nat) (hc : Arr G ac p.code) (ho : Arr G ao p.outs) (h1 : p.code.length ≤ 1048576) (h2 : p.outs.length ≤ 1048576) (hR : rightP p = true) :
    Does Tryd.prog 13 [.agg #[.int .i64 p.ins, .int .i64 p.regs, .slice ac p.code.length cc, .slice ao p.outs.length co]] G [] (fun v G' Ho =>
      ∃ bc bo dc do_ j1 j2, v = .agg #[.int .i64 p.ins, .int .i64 p.regs, .slice bc (foldP p).code.length dc, .slice bo p.outs.length do_] ∧
        OwnA bc dc (foldP p).code j1 ∧ OwnA bo do_ p.outs j2 ∧ Ho = [(0, bc.map (·.block), Row 34 (foldP p).code j1), (1, bo.map (·.block), Row 3 p.outs j2)] ∧ G' = G) := by
  have hok := right_okC hR
  refine Does.enter Tryd.func13 rfl Tryd.ntmps13 rfl (fun w => ?_)
  refine Wc.nilRow 0 (Row 34 ([] : List Sl.Instr) []) ?_
  refine Wc.seq ?_
  refine Wc.region rfl ?_
  refine Wl.box 1 rfl rfl rfl (fun b1 => ?_)
  refine Wl.alloc 2 rfl T.zero25 (fun b2 => ?_)
  refine Wl.done ?_
  refine Ar.next ?_
  refine Wc.seq ?_
  refine Wc.region rfl ?_
  refine Wl.q rfl (Qy.loadAll 1 T.agg25 rfl rfl rfl) ?_
  refine Wl.call 3 rfl T.fn9 rfl (c9 _ _ _ _ _ _ (by assumption) (by assumption) (by omega) (by omega)) (tags_of trivial) (fun v1 G1 Ho1 hle1 hp => ?_)
  obtain ⟨qc1, qo1, qcc1, qoc1, qj1, qk1, rfl, hqc1, hqo1, rfl, rfl⟩ := hp
  refine Wl.alloc 15 rfl T.zero25 (fun b3 => ?_)
  refine Wl.storeAll 15 T.size25 rfl rfl rfl rfl rfl rfl ?_
  refine Wl.done ?_
  refine Ar.next ?_
  refine Wc.seq ?_
  refine Wc.region rfl ?_
  refine Wl.q rfl (Qy.fieldAddr T.fa25_2 rfl) ?_
  refine Wl.store 15 T.one22 rfl rfl rfl rfl rfl ?_
  refine Wl.done ?_
  refine Ar.next ?_
  refine Wc.seq ?_
  refine Wc.seq ?_
  refine Wc.region rfl ?_
  refine Wl.q rfl (Qy.assign rfl) ?_
  refine Wl.done ?_
  refine Ar.next ?_
  refine Wc.block ?_
  refine Wc.loop (ι := Nat × List Sl.Instr × (Option Addr × Nat × List Value)) (fun (k, xs, (b, d, j)) => ([(4, .int .i64 (k : Int)), (3, Go.Value.pointer (Option.some (Go.Addr.mk b3 0 Option.none))), (2, Go.Value.pointer (Option.some (Go.Addr.mk b2 0 Option.none))), (1, Go.Value.pointer (Option.some (Go.Addr.mk b1 0 Option.none)))], [(0, b.map (·.block), Row 34 xs j), (15, some b3, .cells #[.int .i64 p.ins, .int .i64 p.regs, .slice b xs.length d, .slice qo1 p.outs.length qoc1] 25), (13, Option.map (fun x => Go.Addr.block x) qc1, Go.Sl.Row (α := Go.Sl.Instr) 34 (Go.Proofs.YtfleehgbpgmcnaaDoor.PV.code p) (qj1)), (14, Option.map (fun x => Go.Addr.block x) qo1, Go.Sl.Row (α := Int) 3 (Go.Proofs.YtfleehgbpgmcnaaDoor.PV.outs p) (qk1)), (2, Option.some b2, Go.Obj.cells #[Go.Value.int Go.IntKind.i64 0, Go.Value.int Go.IntKind.i64 0, Go.Value.slice Option.none 0 0, Go.Value.slice Option.none 0 0] 25), (1, Option.some b1, Go.Obj.cells #[Go.Value.int Go.IntKind.i64 (Go.Proofs.YtfleehgbpgmcnaaDoor.PV.ins p), Go.Value.int Go.IntKind.i64 (Go.Proofs.YtfleehgbpgmcnaaDoor.PV.regs p), Go.Value.slice ac (List.length (Go.Proofs.YtfleehgbpgmcnaaDoor.PV.code p)) cc, Go.Value.slice ao (List.length (Go.Proofs.YtfleehgbpgmcnaaDoor.PV.outs p)) co] 25)])) (fun (k, xs, (b, d, j)) => k ≤ p.code.length ∧ xs = foldTo p k ∧ OwnA b d xs j) (fun (k, xs, (b, d, j)) => p.code.length - k) ((0, [], (none, 0, []))) (⟨Nat.zero_le _, by rw [foldTo_zero], OwnA.nil⟩) ⟨rfl, rfl, rfl, rfl, trivial⟩ ⟨rfl, rfl, rfl, rfl, rfl, rfl, trivial⟩ (fun ⟨k, xs, (b, d, j)⟩ => fun (hk : k ≤ p.code.length ∧ xs = foldTo p k ∧ OwnA b d xs j) => ?_)
  obtain ⟨hk1, hxs, hob⟩ := hk
  have hxl : xs.length ≤ k := by rw [hxs]; exact foldTo_len p k
  rcases Nat.lt_or_ge k p.code.length with hlt | hge
  · have hst := foldTo_step (p := p) hlt
    have hx0 := hok _ (getD_mem hlt)
    have hx1 := const_fits hx0
    have hx2 := plain_const hx0
    have hxo := foldTo_okC hok k
    rw [← hxs] at hxo hst
    refine Wc.seq ?_
    refine Wc.seq ?_
    refine Wc.region rfl ?_
    refine Wl.q rfl (Qy.move rfl) ?_
    refine Wl.q rfl (Qy.fieldAddr T.fa25_2 rfl) ?_
    refine Wl.q rfl (Qy.load 1 T.one22 rfl rfl rfl) ?_
    refine Wl.q rfl (Qy.len T.sl22 rfl) ?_
    refine Wl.q rfl (Qy.lss rfl rfl) ?_
    refine Wl.done ?_
    refine Ar.next ?_
    refine Wc.condP rfl (by first | assumption | omega) ?_
    refine Wc.skip ?_
    refine Ar.next ?_
    refine Wc.seq ?_
    refine Wc.block ?_
    refine Wc.seq ?_
    refine Wc.region rfl ?_
    refine Wl.q rfl (Qy.fieldAddr T.fa25_2 rfl) ?_
    refine Wl.q rfl (Qy.load 1 T.one22 rfl rfl rfl) ?_
    refine Wl.q rfl (Qy.move rfl) ?_
    refine Wl.q rfl (Qy.at (α := Instr) T.sl22 rfl rfl (by assumption) (by omega)) ?_
    refine Wl.q rfl (Qy.loadsG T.agg34 rfl (Arr.elem (by assumption) (by omega)) rfl) ?_
    refine Wl.call0 rfl T.fn18 rfl (c18 _ _ (by assumption)) ?_
    refine Wl.alloc 16 rfl T.zero34 (fun b4 => ?_)
    refine Wl.storeAll 16 T.size34 rfl rfl rfl rfl rfl rfl ?_
    refine Wl.done ?_
    refine Ar.next ?_
    refine Wc.block ?_
    refine Wc.loop (ι := List Sl.Instr × Sl.Instr × (Option Addr × Nat × List Value)) (fun (M, bi, (a, e, m)) => ([(1, .pointer (some ⟨b1, 0, none⟩)), (5, Go.Value.pointer (Option.some (Go.Addr.mk b4 0 Option.none))), (4, Go.Value.int Go.IntKind.i64 (↑k : Int)), (3, Go.Value.pointer (Option.some (Go.Addr.mk b3 0 Option.none))), (2, Go.Value.pointer (Option.some (Go.Addr.mk b2 0 Option.none)))], [(0, a.map (·.block), Row 34 M m), (15, some b3, .cells #[.int .i64 p.ins, .int .i64 p.regs, .slice a M.length e, .slice qo1 p.outs.length qoc1] 25), (16, some b4, .cells (Cells.enc bi).toArray 34), (13, Option.map (fun x => Go.Addr.block x) qc1, Go.Sl.Row (α := Go.Sl.Instr) 34 (Go.Proofs.YtfleehgbpgmcnaaDoor.PV.code p) (qj1)), (14, Option.map (fun x => Go.Addr.block x) qo1, Go.Sl.Row (α := Int) 3 (Go.Proofs.YtfleehgbpgmcnaaDoor.PV.outs p) (qk1)), (2, Option.some b2, Go.Obj.cells #[Go.Value.int Go.IntKind.i64 0, Go.Value.int Go.IntKind.i64 0, Go.Value.slice Option.none 0 0, Go.Value.slice Option.none 0 0] 25), (1, Option.some b1, Go.Obj.cells #[Go.Value.int Go.IntKind.i64 (Go.Proofs.YtfleehgbpgmcnaaDoor.PV.ins p), Go.Value.int Go.IntKind.i64 (Go.Proofs.YtfleehgbpgmcnaaDoor.PV.regs p), Go.Value.slice ac (List.length (Go.Proofs.YtfleehgbpgmcnaaDoor.PV.code p)) cc, Go.Value.slice ao (List.length (Go.Proofs.YtfleehgbpgmcnaaDoor.PV.outs p)) co] 25)])) (fun (M, bi, (a, e, m)) => foldTo p (k + 1) = pushL M bi ∧ OwnA a e M m ∧ (∀ i ∈ M, okC i) ∧ okC bi ∧ M.length ≤ k) (fun (M, bi, (a, e, m)) => M.length) ((xs, _, (b, d, j))) (⟨hst, hob, hxo, hx2, hxl⟩) ⟨rfl, rfl, rfl, rfl, rfl, trivial⟩ ⟨rfl, rfl, rfl, rfl, rfl, rfl, rfl, trivial⟩ (fun ⟨M, bi, (a, e, m)⟩ => fun (hk : foldTo p (k + 1) = pushL M bi ∧ OwnA a e M m ∧ (∀ i ∈ M, okC i) ∧ okC bi ∧ M.length ≤ k) => ?_)
    obtain ⟨hpu, hoM, hMo, hbo, hMk⟩ := hk
    have hbo' : constOk bi.op bi.c = true := hbo
    rcases List.eq_nil_or_concat M with rfl | ⟨M', t, rfl⟩
    · have hl0 : (([] : List Sl.Instr).length : Int) = 0 := rfl
      refine Wc.block ?_
      refine Wc.seq ?_
      refine Wc.seq ?_
      refine Wc.region rfl ?_
      refine Wl.q rfl (Qy.loadAll 16 T.agg34 rfl rfl rfl) ?_
      refine Wl.call0 rfl T.fn27 rfl (c27 _ _) ?_
      refine Wl.done ?_
      refine Ar.next ?_
      refine Wc.cond rfl (fun hc1 => ?_) (fun hc1 => ?_)
      refine Wc.exit ?_
      refine Ar.passExit ?_
      refine Ar.outExit rfl ?_
      refine Ar.passExit ?_
      refine Ar.here ?_
      refine Ar.outNormal ?_
      refine Ar.next ?_
      refine Wc.region rfl ?_
      refine Wl.q rfl (Qy.move rfl) ?_
      refine Wl.q rfl (Qy.add rfl rfl (by omega)) ?_
      refine Wl.q rfl (Qy.assign rfl) ?_
      refine Wl.done ?_
      rotate_left
      refine Wc.skip ?_
      refine Ar.next ?_
      refine Wc.seq ?_
      refine Wc.region rfl ?_
      refine Wl.q rfl (Qy.fieldAddr T.fa25_2 rfl) ?_
      refine Wl.q rfl (Qy.load 15 T.one22 rfl rfl rfl) ?_
      refine Wl.q rfl (Qy.len T.sl22 rfl) ?_
      refine Wl.q rfl (Qy.assign rfl) ?_
      refine Wl.done ?_
      refine Ar.next ?_
      refine Wc.seq ?_
      refine Wc.seq ?_
      refine Wc.region rfl ?_
      refine Wl.q rfl (Qy.move rfl) ?_
      refine Wl.q rfl (Qy.gtr rfl rfl) ?_
      refine Wl.done ?_
      refine Ar.next ?_
      refine Wc.condN rfl (by first | assumption | omega) ?_
      refine Wc.skip ?_
      refine Ar.next ?_
      refine Wc.seq ?_
      refine Wc.region rfl ?_
      refine Wl.q rfl (Qy.fieldAddr T.fa25_2 rfl) ?_
      refine Wl.q rfl (Qy.load 15 T.one22 rfl rfl rfl) ?_
      refine Wl.q rfl (Qy.loadAll 16 T.agg34 rfl rfl rfl) ?_
      refine Wl.lit (α := Instr) 17 [(bi)] rfl T.sl22 T.el34 rfl rfl rfl rfl rfl (fun b5 => ?_)
      refine Wl.append (α := Instr) 0 rfl T.sl22 T.el34 rfl rfl rfl (by first | assumption | exact OwnA.nil | exact OwnA.made (by simp)) (Src.row 17 rfl) (by first | omega | (simp only [List.length_append, List.length_cons, List.length_nil, maxLen]; omega)) (by first | omega | (simp only [List.length_append, List.length_cons, List.length_nil, maxLen]; omega)) (fun a1 c1 junk1 ho1 => ?_)
      refine Wl.q rfl (Qy.fieldAddr T.fa25_2 rfl) ?_
      refine Wl.store 15 T.one22 rfl rfl rfl rfl rfl ?_
      refine Wl.done ?_
      refine Ar.next ?_
      refine Wc.exit ?_
      refine Ar.outExit rfl ?_
      refine Ar.passExit ?_
      refine Ar.here ?_
      refine Ar.outNormal ?_
      refine Ar.next ?_
      refine Wc.region rfl ?_
      refine Wl.q rfl (Qy.move rfl) ?_
      refine Wl.q rfl (Qy.add rfl rfl (by omega)) ?_
      refine Wl.q rfl (Qy.assign rfl) ?_
      refine Wl.done ?_
      rotate_left
      · refine Ar.again ((k + 1, [], (a, e, m))) ?_ ?_ rfl ⟨rfl, rfl, rfl, rfl, trivial⟩ ⟨rfl, rfl, rfl, rfl, rfl, rfl, trivial⟩
        · exact ⟨by omega, by rw [hpu, pushL_idle (decide_eq_true hc1)], hoM⟩
        · show p.code.length - (k + 1) < p.code.length - k
          omega
      · refine Ar.again ((k + 1, _, (a1, c1, junk1))) ?_ ?_ rfl ⟨rfl, rfl, rfl, rfl, trivial⟩ ⟨rfl, rfl, rfl, rfl, rfl, rfl, trivial⟩
        · exact ⟨by omega, by rw [hpu, pushL_nil (fun h => hc1 (of_decide_eq_true h))]; rfl, ho1⟩
        · show p.code.length - (k + 1) < p.code.length - k
          omega
    · rw [List.concat_eq_append] at *
      have hlen : (M' ++ [t]).length = M'.length + 1 := by simp
      have hto : okC t := hMo t (by simp)
      have hget : (M' ++ [t])[(((M' ++ [t]).length : Int) - 1).toNat]?.getD default = t := by
        have e : (((M' ++ [t]).length : Int) - 1).toNat = M'.length := by omega
        rw [e]; simp
      have hto' : constOk ((M' ++ [t])[(((M' ++ [t]).length : Int) - 1).toNat]?.getD default).op ((M' ++ [t])[(((M' ++ [t]).length : Int) - 1).toNat]?.getD default).c = true := by rw [hget]; exact hto
      have hcap := hoM.le
      have hcut : (((M' ++ [t]).length : Int) - 1).toNat = M'.length := by omega
      have hM'o : ∀ i ∈ M', okC i := fun i hi => hMo i (by simp [hi])
      refine Wc.block ?_
      refine Wc.seq ?_
      refine Wc.seq ?_
      refine Wc.region rfl ?_
      refine Wl.q rfl (Qy.loadAll 16 T.agg34 rfl rfl rfl) ?_
      refine Wl.call0 rfl T.fn27 rfl (c27 _ _) ?_
      refine Wl.done ?_
      refine Ar.next ?_
      refine Wc.cond rfl (fun hc1 => ?_) (fun hc1 => ?_)
      refine Wc.exit ?_
      refine Ar.passExit ?_
      refine Ar.outExit rfl ?_
      refine Ar.passExit ?_
      refine Ar.here ?_
      refine Ar.outNormal ?_
      refine Ar.next ?_
      refine Wc.region rfl ?_
      refine Wl.q rfl (Qy.move rfl) ?_
      refine Wl.q rfl (Qy.add rfl rfl (by omega)) ?_
      refine Wl.q rfl (Qy.assign rfl) ?_
      refine Wl.done ?_
      rotate_left
      refine Wc.skip ?_
      refine Ar.next ?_
      refine Wc.seq ?_
      refine Wc.region rfl ?_
      refine Wl.q rfl (Qy.fieldAddr T.fa25_2 rfl) ?_
      refine Wl.q rfl (Qy.load 15 T.one22 rfl rfl rfl) ?_
      refine Wl.q rfl (Qy.len T.sl22 rfl) ?_
      refine Wl.q rfl (Qy.assign rfl) ?_
      refine Wl.done ?_
      refine Ar.next ?_
      refine Wc.seq ?_
      refine Wc.seq ?_
      refine Wc.region rfl ?_
      refine Wl.q rfl (Qy.move rfl) ?_
      refine Wl.q rfl (Qy.gtr rfl rfl) ?_
      refine Wl.done ?_
      refine Ar.next ?_
      refine Wc.condP rfl (by first | assumption | omega) ?_
      refine Wc.seq ?_
      refine Wc.draw [1, 2, 14, 13, 16, 15, 0] [(0, 12), (15, 12), (16, 12), (13, 12), (14, 12), (2, 12), (1, 12)] T.mixed rfl ?_
      refine Gm.q 0 [] (by kernel_rfl) rfl rfl (Qy.fieldAddr T.fa25_2 rfl) ?_
      refine Gm.q 1 [15] (by kernel_rfl) rfl rfl (Qy.load 15 T.one22 rfl rfl rfl) ?_
      refine Gm.q 2 [] (by kernel_rfl) rfl rfl (Qy.move rfl) ?_
      refine Gm.q 3 [] (by kernel_rfl) rfl rfl (Qy.sub rfl rfl (by omega)) ?_
      refine Gm.q 4 [] (by kernel_rfl) rfl rfl (Qy.indexAddrO (α := Instr) T.sl22 rfl rfl (by assumption) (by omega)) ?_
      refine Gm.q 5 [0] (by kernel_rfl) rfl rfl (Qy.loadsO 0 T.agg34 rfl rfl (by assumption) (by omega)) ?_
      refine Gm.q 6 [16] (by kernel_rfl) rfl rfl (Qy.loadAll 16 T.agg34 rfl rfl rfl) ?_
      refine Gm.two 7 11 ⟨rfl, rfl, rfl, rfl, rfl, rfl, rfl, trivial⟩ (by first | exact Imm.le_refl _ | assumption) (by kernel_rfl) rfl rfl ?_ ?_
      refine Wl.call0 rfl T.fn19 rfl (c19 _ _ _ (by assumption) (by assumption)) ?_
      refine Wl.on0 ?_
      refine Gm.q 8 [] (by kernel_rfl) rfl rfl (Qy.move rfl) ?_
      refine Gm.q 9 [] (by kernel_rfl) rfl rfl (Qy.extract rfl rfl) ?_
      refine Gm.q 10 [] (by kernel_rfl) rfl rfl (Qy.extract rfl rfl) ?_
      refine Gm.one 11 ⟨rfl, rfl, rfl, rfl, rfl, rfl, rfl, trivial⟩ (by first | exact Imm.le_refl _ | assumption) (by kernel_rfl) rfl ?_
      refine Wl.alloc 17 rfl T.zero34 (fun b5 => ?_)
      refine Wl.on0 ?_
      refine Gm.one 12 ⟨rfl, rfl, rfl, rfl, rfl, rfl, rfl, trivial⟩ (by first | exact Imm.le_refl _ | assumption) (by kernel_rfl) rfl ?_
      refine Wl.storeAll 17 T.size34 rfl rfl rfl rfl rfl rfl ?_
      refine Wl.on0 ?_
      refine Gm.q 13 [] (by kernel_rfl) rfl rfl (Qy.assign rfl) ?_
      refine Gm.doneA (by kernel_rfl) trivial (by first | exact Imm.le_refl _ | assumption) ?_
      refine Ar.next ?_
      refine Wc.seq ?_
      refine Wc.region rfl ?_
      refine Wl.q rfl (Qy.move rfl) ?_
      refine Wl.done ?_
      refine Ar.next ?_
      refine Wc.ite rfl (fun hc2 => ?_) (fun hc2 => ?_)
      refine Wc.seq ?_
      refine Wc.region rfl ?_
      refine Wl.q rfl (Qy.fieldAddr T.fa25_2 rfl) ?_
      refine Wl.q rfl (Qy.load 15 T.one22 rfl rfl rfl) ?_
      refine Wl.q rfl (Qy.move rfl) ?_
      refine Wl.q rfl (Qy.sub rfl rfl (by omega)) ?_
      refine Wl.q rfl (Qy.cutH T.sl22 rfl rfl (by omega)) ?_
      refine Wl.q rfl (Qy.fieldAddr T.fa25_2 rfl) ?_
      refine Wl.store 15 T.one22 rfl rfl rfl rfl rfl ?_
      refine Wl.done ?_
      refine Ar.next ?_
      refine Wc.seq ?_
      refine Wc.region rfl ?_
      refine Wl.q rfl (Qy.loadAll 17 T.agg34 rfl rfl rfl) ?_
      refine Wl.storeAll 16 T.size34 rfl rfl rfl rfl rfl rfl ?_
      refine Wl.done ?_
      refine Ar.next ?_
      refine Wc.exit ?_
      refine Ar.passExit ?_
      refine Ar.here ?_
      rotate_left
      refine Wc.skip ?_
      refine Ar.next ?_
      refine Wc.seq ?_
      refine Wc.region rfl ?_
      refine Wl.q rfl (Qy.fieldAddr T.fa25_2 rfl) ?_
      refine Wl.q rfl (Qy.load 15 T.one22 rfl rfl rfl) ?_
      refine Wl.q rfl (Qy.loadAll 16 T.agg34 rfl rfl rfl) ?_
      refine Wl.lit (α := Instr) 18 [(bi)] rfl T.sl22 T.el34 rfl rfl rfl rfl rfl (fun b6 => ?_)
      refine Wl.append (α := Instr) 0 rfl T.sl22 T.el34 rfl rfl rfl (by first | assumption | exact OwnA.nil | exact OwnA.made (by simp)) (Src.row 18 rfl) (by first | omega | (simp only [List.length_append, List.length_cons, List.length_nil, maxLen]; omega)) (by first | omega | (simp only [List.length_append, List.length_cons, List.length_nil, maxLen]; omega)) (fun a1 c1 junk1 ho1 => ?_)
      refine Wl.q rfl (Qy.fieldAddr T.fa25_2 rfl) ?_
      refine Wl.store 15 T.one22 rfl rfl rfl rfl rfl ?_
      refine Wl.done ?_
      refine Ar.next ?_
      refine Wc.exit ?_
      refine Ar.outExit rfl ?_
      refine Ar.passExit ?_
      refine Ar.here ?_
      refine Ar.outNormal ?_
      refine Ar.next ?_
      refine Wc.region rfl ?_
      refine Wl.q rfl (Qy.move rfl) ?_
      refine Wl.q rfl (Qy.add rfl rfl (by omega)) ?_
      refine Wl.q rfl (Qy.assign rfl) ?_
      refine Wl.done ?_
      rotate_left
      refine Wl.alloc 17 rfl T.zero34 (fun b5 => ?_)
      refine Wl.on0 ?_
      refine Gm.one 7 ⟨rfl, rfl, rfl, rfl, rfl, rfl, rfl, trivial⟩ (by first | exact Imm.le_refl _ | assumption) (by kernel_rfl) rfl ?_
      refine Wl.call0 rfl T.fn19 rfl (c19 _ _ _ (by assumption) (by assumption)) ?_
      refine Wl.on0 ?_
      refine Gm.q 8 [] (by kernel_rfl) rfl rfl (Qy.move rfl) ?_
      refine Gm.q 9 [] (by kernel_rfl) rfl rfl (Qy.extract rfl rfl) ?_
      refine Gm.q 10 [] (by kernel_rfl) rfl rfl (Qy.extract rfl rfl) ?_
      refine Gm.one 12 ⟨rfl, rfl, rfl, rfl, rfl, rfl, rfl, trivial⟩ (by first | exact Imm.le_refl _ | assumption) (by kernel_rfl) rfl ?_
      refine Wl.storeAll 17 T.size34 rfl rfl rfl rfl rfl rfl ?_
      refine Wl.on0 ?_
      refine Gm.q 13 [] (by kernel_rfl) rfl rfl (Qy.assign rfl) ?_
      refine Gm.doneA (by kernel_rfl) trivial (by first | exact Imm.le_refl _ | assumption) ?_
      refine Ar.next ?_
      refine Wc.seq ?_
      refine Wc.region rfl ?_
      refine Wl.q rfl (Qy.move rfl) ?_
      refine Wl.done ?_
      refine Ar.next ?_
      refine Wc.ite rfl (fun hc2 => ?_) (fun hc2 => ?_)
      refine Wc.seq ?_
      refine Wc.region rfl ?_
      refine Wl.q rfl (Qy.fieldAddr T.fa25_2 rfl) ?_
      refine Wl.q rfl (Qy.load 15 T.one22 rfl rfl rfl) ?_
      refine Wl.q rfl (Qy.move rfl) ?_
      refine Wl.q rfl (Qy.sub rfl rfl (by omega)) ?_
      refine Wl.q rfl (Qy.cutH T.sl22 rfl rfl (by omega)) ?_
      refine Wl.q rfl (Qy.fieldAddr T.fa25_2 rfl) ?_
      refine Wl.store 15 T.one22 rfl rfl rfl rfl rfl ?_
      refine Wl.done ?_
      refine Ar.next ?_
      refine Wc.seq ?_
      refine Wc.region rfl ?_
      refine Wl.q rfl (Qy.loadAll 17 T.agg34 rfl rfl rfl) ?_
      refine Wl.storeAll 16 T.size34 rfl rfl rfl rfl rfl rfl ?_
      refine Wl.done ?_
      refine Ar.next ?_
      refine Wc.exit ?_
      refine Ar.passExit ?_
      refine Ar.here ?_
      rotate_left
      refine Wc.skip ?_
      refine Ar.next ?_
      refine Wc.seq ?_
      refine Wc.region rfl ?_
      refine Wl.q rfl (Qy.fieldAddr T.fa25_2 rfl) ?_
      refine Wl.q rfl (Qy.load 15 T.one22 rfl rfl rfl) ?_
      refine Wl.q rfl (Qy.loadAll 16 T.agg34 rfl rfl rfl) ?_
      refine Wl.lit (α := Instr) 18 [(bi)] rfl T.sl22 T.el34 rfl rfl rfl rfl rfl (fun b6 => ?_)
      refine Wl.append (α := Instr) 0 rfl T.sl22 T.el34 rfl rfl rfl (by first | assumption | exact OwnA.nil | exact OwnA.made (by simp)) (Src.row 18 rfl) (by first | omega | (simp only [List.length_append, List.length_cons, List.length_nil, maxLen]; omega)) (by first | omega | (simp only [List.length_append, List.length_cons, List.length_nil, maxLen]; omega)) (fun a1 c1 junk1 ho1 => ?_)
      refine Wl.q rfl (Qy.fieldAddr T.fa25_2 rfl) ?_
      refine Wl.store 15 T.one22 rfl rfl rfl rfl rfl ?_
      refine Wl.done ?_
      refine Ar.next ?_
      refine Wc.exit ?_
      refine Ar.outExit rfl ?_
      refine Ar.passExit ?_
      refine Ar.here ?_
      refine Ar.outNormal ?_
      refine Ar.next ?_
      refine Wc.region rfl ?_
      refine Wl.q rfl (Qy.move rfl) ?_
      refine Wl.q rfl (Qy.add rfl rfl (by omega)) ?_
      refine Wl.q rfl (Qy.assign rfl) ?_
      refine Wl.done ?_
      rotate_left
      · refine Ar.again ((k + 1, M' ++ [t], (a, e, m))) ?_ ?_ rfl ⟨rfl, rfl, rfl, rfl, trivial⟩ ⟨rfl, rfl, rfl, rfl, rfl, rfl, trivial⟩
        · exact ⟨by omega, by rw [hpu, pushL_idle (decide_eq_true hc1)], hoM⟩
        · show p.code.length - (k + 1) < p.code.length - k
          omega
      · rw [hget] at hc2 ⊢
        refine Ar.reH 0 (Row 34 M' (Cells.enc t ++ m)) rfl (row_cut M' t m) ?_
        refine Ar.reH 15 (.cells #[.int .i64 p.ins, .int .i64 p.regs, .slice a M'.length e, .slice qo1 p.outs.length qoc1] 25) rfl (by rw [subA_zero hoM, hcut]; rfl) ?_
        refine Ar.again ((M', (meltP t bi).1, (a, e, Cells.enc t ++ m))) ?_ ?_ rfl ⟨rfl, rfl, rfl, rfl, rfl, trivial⟩ ⟨rfl, rfl, rfl, rfl, rfl, rfl, rfl, trivial⟩
        · exact ⟨by rw [hpu, pushL_melt (fun h => hc1 (of_decide_eq_true h)) hc2], own_cut hoM, hM'o, melt_okC hto hbo hc2, by omega⟩
        · show M'.length < (M' ++ [t]).length
          omega
      · rw [hget] at hc2
        refine Ar.again ((k + 1, _, (a1, c1, junk1))) ?_ ?_ rfl ⟨rfl, rfl, rfl, rfl, trivial⟩ ⟨rfl, rfl, rfl, rfl, rfl, rfl, trivial⟩
        · exact ⟨by omega, by rw [hpu, pushL_push (fun h => hc1 (of_decide_eq_true h)) (by rw [hc2]; decide)], ho1⟩
        · show p.code.length - (k + 1) < p.code.length - k
          omega
      · rw [hget] at hc2 ⊢
        refine Ar.reH 0 (Row 34 M' (Cells.enc t ++ m)) rfl (row_cut M' t m) ?_
        refine Ar.reH 15 (.cells #[.int .i64 p.ins, .int .i64 p.regs, .slice a M'.length e, .slice qo1 p.outs.length qoc1] 25) rfl (by rw [subA_zero hoM, hcut]; rfl) ?_
        refine Ar.again ((M', (meltP t bi).1, (a, e, Cells.enc t ++ m))) ?_ ?_ rfl ⟨rfl, rfl, rfl, rfl, rfl, trivial⟩ ⟨rfl, rfl, rfl, rfl, rfl, rfl, rfl, trivial⟩
        · exact ⟨by rw [hpu, pushL_melt (fun h => hc1 (of_decide_eq_true h)) hc2], own_cut hoM, hM'o, melt_okC hto hbo hc2, by omega⟩
        · show M'.length < (M' ++ [t]).length
          omega
      · rw [hget] at hc2
        refine Ar.again ((k + 1, _, (a1, c1, junk1))) ?_ ?_ rfl ⟨rfl, rfl, rfl, rfl, trivial⟩ ⟨rfl, rfl, rfl, rfl, rfl, rfl, trivial⟩
        · exact ⟨by omega, by rw [hpu, pushL_push (fun h => hc1 (of_decide_eq_true h)) (by rw [hc2]; decide)], ho1⟩
        · show p.code.length - (k + 1) < p.code.length - k
          omega
  · have hk : k = p.code.length := by omega
    subst hk
    rw [foldTo_all] at hxs
    subst hxs
    refine Wc.seq ?_
    refine Wc.seq ?_
    refine Wc.region rfl ?_
    refine Wl.q rfl (Qy.move rfl) ?_
    refine Wl.q rfl (Qy.fieldAddr T.fa25_2 rfl) ?_
    refine Wl.q rfl (Qy.load 1 T.one22 rfl rfl rfl) ?_
    refine Wl.q rfl (Qy.len T.sl22 rfl) ?_
    refine Wl.q rfl (Qy.lss rfl rfl) ?_
    refine Wl.done ?_
    refine Ar.next ?_
    refine Wc.condN rfl (by first | assumption | omega) ?_
    refine Wc.exit ?_
    refine Ar.passExit ?_
    refine Ar.passExit ?_
    refine Ar.here ?_
    refine Ar.next ?_
    refine Wc.seq ?_
    refine Wc.region rfl ?_
    refine Wl.q rfl (Qy.loadAll 15 T.agg25 rfl rfl rfl) ?_
    refine Wl.storeAll 2 T.size25 rfl rfl rfl rfl rfl rfl ?_
    refine Wl.done ?_
    refine Ar.next ?_
    refine Wc.ret ?_
    refine Ar.pick [0, 14, 2] (by decide) (Ar.out1 (.inr rfl) (Ho := Hp.only _ [0, 1]) rfl (.agg 2 rfl rfl T.agg25) (Hp.sub_only _ _) ?_)
    exact ⟨_, _, _, _, _, _, rfl, hob, hqo1, rfl, rfl⟩
end Go.Proofs.YtfleehgbpgmcnaaDoor
